/- Printed by a program of this session (wip/mp.py over the kit's print.py): functions of the translation as plain Lean functions, and that the machine's calls do what these say. -/
import Derived.Test.YtgpgamapopnfcaaDoorQx0
import Derived.Test.YtgpgamapopnfcaaDoorQx10
namespace Go.Proofs.YtgpgamapopnfcaaDoor.Q
open Go.RowKit Go.Proofs.YtgpgamapopnfcaaDoor.HB Go.Proofs.YtgpgamapopnfcaaDoorW.PrintWords Go.Proofs.YtgpgamapopnfcaaDoorW.PrintLast Go.Proofs.YtgpgamapopnfcaaDoorW.PrintMore
attribute [local go_sem] max2_int min2_int max_two min_two max_three min_three max_four min_four   -- for this text's walks alone
set_option linter.unusedVariables false
set_option linter.unusedSimpArgs false

/-! ### impl_mac: function 53 -/

mutual
def impl_mac.j0 : Nat → ByteArray → ByteArray → Option (ByteArray)
  | 0, _, _ => none
  | k + 1, x0, x1 => if 64 ≤ 281474976710656 then (impl_mac.l0 k x0 x1 (List.replicate 64 0) (List.replicate 64 0) 0) else (none)
def impl_mac.l0 : Nat → ByteArray → ByteArray → List Int → List Int → Int → Option (ByteArray)
  | 0, _, _, _, _, _ => none
  | k + 1, x0, x1, x5, x6, x16 => if x16 < 64 then (if x16 < (x0.size : Int) then (if 0 ≤ x16 then (if x16 < (x5.length : Int) then (if x16 < (x6.length : Int) then (impl_mac.l0 k x0 x1 (x5.set (x16 : Int).toNat (Go.bits .xor .u8 (bt x0 x16) 54)) (x6.set (x16 : Int).toNat (Go.bits .xor .u8 (bt x0 x16) 92)) (wrap64 (x16 + 1))) else (none)) else (none)) else (none)) else (if 0 ≤ x16 then (if x16 < (x5.length : Int) then (if x16 < (x6.length : Int) then (impl_mac.l0 k x0 x1 (x5.set (x16 : Int).toNat (Go.bits .xor .u8 0 54)) (x6.set (x16 : Int).toNat (Go.bits .xor .u8 0 92)) (wrap64 (x16 + 1))) else (none)) else (none)) else (none))) else (if (strOfNums x5).size + x1.size ≤ 9223372036854775807 then ((impl_digest.f ((strOfNums x5) ++ x1)).bind fun t112 => (if (strOfNums x6).size + t112.size ≤ 9223372036854775807 then ((impl_digest.f ((strOfNums x6) ++ t112)).bind fun t113 => (some t113)) else (none))) else (none))
end
def impl_mac.f (k : Nat) (a0 : ByteArray) (a1 : ByteArray) : Option (ByteArray) := if (a0.size : Int) > 64 then ((impl_digest.f a0).bind fun t101 => (impl_mac.j0 k t101 a1)) else (impl_mac.j0 k a0 a1)
theorem impl_mac.mono_l : ∀ k, (∀ y0 y1, LeO (impl_mac.j0 k y0 y1) (impl_mac.j0 (k + 1) y0 y1)) ∧ (∀ y0 y1 y2 y3 y4, LeO (impl_mac.l0 k y0 y1 y2 y3 y4) (impl_mac.l0 (k + 1) y0 y1 y2 y3 y4))
  | 0 => ⟨fun _ _ r h => by simp [impl_mac.j0] at h, fun _ _ _ _ _ r h => by simp [impl_mac.l0] at h⟩
  | k + 1 => by
    obtain ⟨ih0, ih1⟩ := impl_mac.mono_l k
    refine ⟨?_, ?_⟩
    · intro y0 y1
      unfold impl_mac.j0
      repeat' first
      | (with_reducible exact ih0 _ _)
      | (with_reducible exact ih1 _ _ _ _ _)
      | (with_reducible exact LeO.refl _)
      | (with_reducible exact LeO.none _)
      | (with_reducible refine LeO.ite ?_ ?_)
      | (with_reducible refine LeO.bind ?_ (fun _ => ?_))
      | exact ih0 _ _
      | exact ih1 _ _ _ _ _
      | exact LeO.none _
      | refine LeO.ite ?_ ?_
      | refine LeO.bind ?_ (fun _ => ?_)
    · intro y0 y1 y2 y3 y4
      unfold impl_mac.l0
      repeat' first
      | (with_reducible exact ih0 _ _)
      | (with_reducible exact ih1 _ _ _ _ _)
      | (with_reducible exact LeO.refl _)
      | (with_reducible exact LeO.none _)
      | (with_reducible refine LeO.ite ?_ ?_)
      | (with_reducible refine LeO.bind ?_ (fun _ => ?_))
      | exact ih0 _ _
      | exact ih1 _ _ _ _ _
      | exact LeO.none _
      | refine LeO.ite ?_ ?_
      | refine LeO.bind ?_ (fun _ => ?_)
theorem impl_mac.mono : ∀ a0 a1 k, LeO (impl_mac.f k a0 a1) (impl_mac.f (k + 1) a0 a1) := by
  intro a0 a1 k
  obtain ⟨ih0, ih1⟩ := impl_mac.mono_l k
  unfold impl_mac.f
  repeat' first
      | (with_reducible exact ih0 _ _)
      | (with_reducible exact ih1 _ _ _ _ _)
      | (with_reducible exact LeO.refl _)
      | (with_reducible exact LeO.none _)
      | (with_reducible refine LeO.ite ?_ ?_)
      | (with_reducible refine LeO.bind ?_ (fun _ => ?_))
      | exact ih0 _ _
      | exact ih1 _ _ _ _ _
      | exact LeO.none _
      | refine LeO.ite ?_ ?_
      | refine LeO.bind ?_ (fun _ => ?_)
def impl_mac.T12 : Bool × List (List Nat × List Nat) := (true, [([], []), ([0], [0]), ([], []), ([2], [2]), ([], []), ([3, 4], [3, 4]), ([5], [5]), ([1, 6], [1, 6]), ([7, 6], [7]), ([8, 8, 0, 1, 2, 3, 4, 5, 6, 7, 8], [8])])
def impl_mac.B12 : List Nat := [0, 1, 0, 4, 0, 28, 60, 127, 255, 511]
theorem impl_mac.tab12 : rtab .any (opsOf Tryd.f53 12) = impl_mac.T12 := by kernel_rfl
theorem impl_mac.bits12 : waitsOk impl_mac.T12.2 impl_mac.B12 = true := by kernel_rfl
set_option maxHeartbeats 60000000 in
set_option maxRecDepth 100000 in
theorem impl_mac.calls (k : Nat) (a0 : ByteArray) (a1 : ByteArray) (r : ByteArray) (w : World) (hT : Tab w) (h : impl_mac.f k a0 a1 = some r) :
    Calls Tryd.prog 53 #[.string a0, .string a1] w fun e w' => e = .returned (.string r) ∧ Below w.heap.size w w' := by
 have TAB := AM hT
 clear hT
 have HB := AM (Below.refl w.heap.size w)
 have H : (if (a0.size : Int) > 64 then ((impl_digest.f a0).bind fun t101 => (impl_mac.j0 k t101 a1)) else (impl_mac.j0 k a0 a1)) = some r := h
 clear h
 have HC3 := AM H
 clear H
 go_enter Tryd.func53, Tryd.ntmps53
 go_upto_if 11 with (fail)
 go_cut [0] (fun v0 wc => ∃ (kq : Nat) (x0_2 : ByteArray), v0 = .string x0_2 ∧ Aside0 (impl_mac.j0 kq x0_2 a1 = some r) ∧ Aside0 (kq ≤ k) ∧ Aside0 (Below w.heap.size w wc))
 case first =>
  have H := HC3.out
  clear HC3
  by_cases c4 : (a0.size : Int) > 64
  ·
   rw [if_pos c4] at H
   have c4b0 : decide (64 < (a0.size : Int)) = true := decide_eq_true c4
   have c4b1 : decide (64 < a0.size) = true := decide_eq_true (by omega)
   clear c4
   (first | rw [c4b0] | (simp only [i64_w, i32_w]; rw [c4b0]) | skip)
   replace H := Option.bind_eq_some_iff.mp H
   obtain ⟨t101, A50, H⟩ := H
   replace H : (impl_mac.j0 k t101 a1) = some r := H
   have A5 := AM A50
   clear A50
   have H' := AM H
   clear H
   go_wp2_with (first | ((with_reducible refine gate_callee (f := 51) rfl ?_); refine goesL_ (some 13) rfl rfl Tryd.func51 (by kernel_rfl) rfl #[.string a0] rfl (by (try simp only [mA, mB, mC]); first | done | rfl | (simp only [mD, mE]; rfl)) ?_; (with_reducible refine (impl_digest.calls a0 t101 _ ?sideT A5.out).mono ?_); (case sideT => exact tabB TAB.out (bX HB.out)); rintro e w6 ⟨rfl, hb⟩; refine ⟨_, rfl, ?_⟩; have _ := AM (below_step (bX HB.out) hb); clear HB; rename_i HB; (try clear hb); (try clear hk)))
   go_meet
   case rel => exact ⟨_, (t101), (by first | rfl | (simp; done) | (simp [*]; done)), H', ⟨by first | omega | exact Nat.le_refl _⟩, ⟨bX HB.out⟩⟩
  rw [if_neg c4] at H
  have c4b0 : decide (64 < (a0.size : Int)) = false := decide_eq_false c4
  have c4b1 : decide (64 < a0.size) = false := decide_eq_false (by omega)
  clear c4
  (first | rw [c4b0] | (simp only [i64_w, i32_w]; rw [c4b0]) | skip)
  have H' := AM H
  clear H
  go_wp2
  go_meet
  case rel => exact ⟨_, (a0), (by first | rfl | (simp; done) | (simp [*]; done)), H', ⟨by first | omega | exact Nat.le_refl _⟩, ⟨bX HB.out⟩⟩
 case rest =>
  clear HC3
  (try clear p2); (try clear c4); (try clear c4b0); (try clear c4b1); (try clear c5)
  obtain ⟨kq, x0_2, rfl, HA, HJ2, HB⟩ := hcut
  cases kq with
  | zero => exact absurd HA.out (by simp [impl_mac.j0])
  | succ kj2 =>
   have H := HA.out
   clear HA
   simp only [impl_mac.j0] at H
   by_cases c7 : 64 ≤ 281474976710656
   ·
    rw [if_pos c7] at H
    have c7b0 := eq_true c7
    have c7b1 : decide (64 ≤ 281474976710656) = true := decide_eq_true c7
    clear c7
    obtain ⟨y102, hy102⟩ : ∃ y_ : List Int, y_ = (List.replicate 64 0) := ⟨_, rfl⟩
    replace H : (impl_mac.l0 kj2 x0_2 a1 y102 (List.replicate 64 0) 0) = some r := by first | (rw [hy102]; with_reducible exact H) | (have H2_ := (Option.bind_some _ _).symm.trans H; rw [hy102]; with_reducible exact H2_) | (have H2_ := (Option.bind_some _ _).symm.trans H; with_reducible exact H2_) | with_reducible exact H | (rw [hy102]; exact H) | exact H
    have Ny102 := AM hy102
    clear hy102
    obtain ⟨y105, hy105⟩ : ∃ y_ : List Int, y_ = (List.replicate 64 0) := ⟨_, rfl⟩
    replace H : (impl_mac.l0 kj2 x0_2 a1 y102 y105 0) = some r := by first | (rw [hy105]; with_reducible exact H) | (have H2_ := (Option.bind_some _ _).symm.trans H; rw [hy105]; with_reducible exact H2_) | (have H2_ := (Option.bind_some _ _).symm.trans H; with_reducible exact H2_) | with_reducible exact H | (rw [hy105]; exact H) | exact H
    have Ny105 := AM hy105
    clear hy105
    have H' := AM H
    clear H
    try go_wp2
    have _ := AM (bD HB.out)
    clear HB
    rename_i HB
    refine start_ (n := 4) (S := fun w' => True) (ds := []) #[false, false, false, false] (by kernel_rfl) rfl rfl trivial (fun hHeld => ?_)
    generalize wc.drew = w8 at HB hHeld ⊢
    refine join_ (σ := Value × Value) 1 #[true, true, true, false] (fun s_ => [(14, s_.1), (15, s_.2), (5, s_.1)]) (fun s_ w' => (Kd.R (Kd.int .u8) 5 w' w.heap.size (fun k_ => some k_ ≠ (s_.2 : Value).ownBlock) s_.1 y102) ∧ (Kd.R (Kd.int .u8) 5 w' w.heap.size (fun k_ => some k_ ≠ (s_.1 : Value).ownBlock) s_.2 y105) ∧ (Below w.heap.size w w')) ?_ ?_
    rotate_left
    ·
     intro hCont
     refine two_ (i := 0) (j := 1) (Ni := some 14) (Nj := some 15) #[true, false, false, false] #[false, true, false, false] rfl rfl rfl rfl (by kernel_rfl) (by decide) (by decide) (fun K hK => ?_) (fun K hK => ?_)
     ·
      skip
      refine Kd.R_make_step (Kd.int .u8) _ 5 (by rfl) (N := 14) rfl 31 _ _ rfl 64 rfl rfl Tryd.underlying31 (.int .u8 0) 1 info5 rfl (by decide) (by omega) 0 (ok := fun _ => True) (okp := fun _ => True) rfl (fun _ hk => hk) trivial (by omega) (by omega) (Below.refl _ _) (Nat.le_refl _) ?_
      intro v103 w9 ho10 hb hg_ hnew_
      clear hg_ hnew_
      (first | rw [← Ny102.out] at ho10 | (simp only [Int.reduceToNat] at ho10; rw [← Ny102.out] at ho10))
      have _ := AM (Kd.R_lower ho10 (bZ (bX HB.out)))
      have _ := AM (below_step (bX HB.out) hb)
      clear HB
      rename_i HO104 HB
      clear hb ho10
      refine hK.out _ _ trivial (fun hHeld => ?_)
      clear hK K
      refine norm_ (a' := ?_) ?_ ?_
      rotate_left
      ·
       show Act.put _ (some 14) _ = _
       simp only [Act.put, sA, sB, sC, i64_w, i32_w]
       rfl
      refine pure_ (i := 2) (N := some 5) (v := ?_) (a' := ?_) #[true, false, true, false] rfl rfl (by kernel_rfl) (fun _ _ _ h => h) (Or.inl ⟨by rfl, ?_⟩) ?_ ?_
      rotate_left
      ·
       intro w'
       go_simp
       with_reducible rfl
      rotate_left
      ·
       simp only [Act.put, sA, sB, sC, i64_w, i32_w]
       rfl
      refine one_ (i := 1) (N := some 15) #[true, true, true, false] rfl rfl (by kernel_rfl) (by decide) (fun K hK => ?_)
      refine Kd.R_make_step (Kd.int .u8) _ 5 (by rfl) (N := 15) rfl 31 _ _ rfl 64 rfl rfl Tryd.underlying31 (.int .u8 0) 1 info5 rfl (by decide) (by omega) 0 (ok := fun _ => True) (okp := fun _ => True) rfl (fun _ hk => hk) trivial (by omega) (by omega) (Below.refl _ _) (Nat.le_refl _) ?_
      intro v106 w11 ho12 hb hg_ hnew_
      clear hg_ hnew_
      (first | rw [← Ny105.out] at ho12 | (simp only [Int.reduceToNat] at ho12; rw [← Ny105.out] at ho12))
      have _ := AM (Kd.R_elder' (rX HO104.out) (Kd.R_base ho12) hb)
      have _ := AM (Kd.R_lower (Kd.R_new' ho12 (Kd.R_lt (rX HO104.out))) (bZ (bX HB.out)))
      have _ := AM (below_step (bX HB.out) hb)
      clear HO104 HB
      rename_i HO104 HO107 HB
      clear hb ho12
      refine hK.out _ _ trivial (fun hHeld => ?_)
      clear hK K
      refine norm_ (a' := ?_) ?_ ?_
      rotate_left
      ·
       show Act.put _ (some 15) _ = _
       simp only [Act.put, sA, sB, sC, i64_w, i32_w]
       rfl
      exact norm_ (by simp only [putAll, Act.put, List.setIfInBounds_toArray, List.set_cons_zero, List.set_cons_succ]) (hCont (v103, v106) _ ⟨(by (with_reducible repeat (first | apply rA | apply rN | apply rD)); exact Kd.R_mono HO104.out (fun _ hk => hk.2)), (by (with_reducible repeat (first | apply rA | apply rN | apply rD)); exact Kd.R_mono HO107.out (fun _ hk => hk.2)), (bX HB.out)⟩)
     skip
     refine Kd.R_make_step (Kd.int .u8) _ 5 (by rfl) (N := 15) rfl 31 _ _ rfl 64 rfl rfl Tryd.underlying31 (.int .u8 0) 1 info5 rfl (by decide) (by omega) 0 (ok := fun _ => True) (okp := fun _ => True) rfl (fun _ hk => hk) trivial (by omega) (by omega) (Below.refl _ _) (Nat.le_refl _) ?_
     intro v106 w9 ho10 hb hg_ hnew_
     clear hg_ hnew_
     (first | rw [← Ny105.out] at ho10 | (simp only [Int.reduceToNat] at ho10; rw [← Ny105.out] at ho10))
     have _ := AM (Kd.R_lower ho10 (bZ (bX HB.out)))
     have _ := AM (below_step (bX HB.out) hb)
     clear HB
     rename_i HO107 HB
     clear hb ho10
     refine hK.out _ _ trivial (fun hHeld => ?_)
     clear hK K
     refine norm_ (a' := ?_) ?_ ?_
     rotate_left
     ·
      show Act.put _ (some 15) _ = _
      simp only [Act.put, sA, sB, sC, i64_w, i32_w]
      rfl
     refine one_ (i := 0) (N := some 14) #[true, true, false, false] rfl rfl (by kernel_rfl) (by decide) (fun K hK => ?_)
     refine Kd.R_make_step (Kd.int .u8) _ 5 (by rfl) (N := 14) rfl 31 _ _ rfl 64 rfl rfl Tryd.underlying31 (.int .u8 0) 1 info5 rfl (by decide) (by omega) 0 (ok := fun _ => True) (okp := fun _ => True) rfl (fun _ hk => hk) trivial (by omega) (by omega) (Below.refl _ _) (Nat.le_refl _) ?_
     intro v103 w11 ho12 hb hg_ hnew_
     clear hg_ hnew_
     (first | rw [← Ny102.out] at ho12 | (simp only [Int.reduceToNat] at ho12; rw [← Ny102.out] at ho12))
     have _ := AM (Kd.R_elder' (rX HO107.out) (Kd.R_base ho12) hb)
     have _ := AM (Kd.R_lower (Kd.R_new' ho12 (Kd.R_lt (rX HO107.out))) (bZ (bX HB.out)))
     have _ := AM (below_step (bX HB.out) hb)
     clear HO107 HB
     rename_i HO107 HO104 HB
     clear hb ho12
     refine hK.out _ _ trivial (fun hHeld => ?_)
     clear hK K
     refine norm_ (a' := ?_) ?_ ?_
     rotate_left
     ·
      show Act.put _ (some 14) _ = _
      simp only [Act.put, sA, sB, sC, i64_w, i32_w]
      rfl
     refine pure_ (i := 2) (N := some 5) (v := ?_) (a' := ?_) #[true, true, true, false] rfl rfl (by kernel_rfl) (fun _ _ _ h => h) (Or.inl ⟨by rfl, ?_⟩) ?_ ?_
     rotate_left
     ·
      intro w'
      go_simp
      with_reducible rfl
     rotate_left
     ·
      simp only [Act.put, sA, sB, sC, i64_w, i32_w]
      rfl
     exact norm_ (by simp only [putAll, Act.put, List.setIfInBounds_toArray, List.set_cons_zero, List.set_cons_succ]) (hCont (v103, v106) _ ⟨(by (with_reducible repeat (first | apply rA | apply rN | apply rD)); exact Kd.R_mono HO104.out (fun _ hk => hk.2)), (by (with_reducible repeat (first | apply rA | apply rN | apply rD)); exact Kd.R_mono HO107.out (fun _ hk => hk.2)), (bX HB.out)⟩)
    rintro ⟨v103, v106⟩ w13 ⟨h0_, h1_, h2_⟩
    have _ : Aside0 (Kd.R (Kd.int .u8) 5 w13 w.heap.size (fun k_ => some k_ ≠ (v106 : Value).ownBlock) v103 y102) := ⟨h0_⟩
    have _ : Aside0 (Kd.R (Kd.int .u8) 5 w13 w.heap.size (fun k_ => some k_ ≠ (v103 : Value).ownBlock) v106 y105) := ⟨h1_⟩
    have _ : Aside0 (Below w.heap.size w w13) := ⟨h2_⟩
    clear HB h0_ h1_ h2_
    rename_i HO104 HO107 HB
    have hHeld := trivial
    refine norm_ (a' := ?_) ?_ ?_
    rotate_left
    ·
     simp only [putAll, Act.put, List.setIfInBounds_toArray, List.set_cons_zero, List.set_cons_succ]
     rfl
    refine pure_ (i := 3) (N := some 6) (v := ?_) (a' := ?_) #[true, true, true, true] rfl rfl (by kernel_rfl) (fun _ _ _ h => h) (Or.inl ⟨by rfl, ?_⟩) ?_ ?_
    rotate_left
    ·
     intro w'
     go_simp
     with_reducible rfl
    rotate_left
    ·
     simp only [Act.put, sA, sB, sC, i64_w, i32_w]
     rfl
    refine done_ (by kernel_rfl) ?_
    try go_wp2
    go_loopg [16] kj2 (fun kq v16 w' => ∃ (x5_2 : List Int) (x6_2 : List Int) (x16_2 : Int), v16 = .int .i64 x16_2 ∧ Aside0 (impl_mac.l0 kq x0_2 a1 x5_2 x6_2 x16_2 = some r) ∧ Aside0 (kq ≤ kj2) ∧ Aside0 (Kd.R (Kd.int .u8) 5 w' w.heap.size (fun k_ => some k_ ≠ (v106 : Value).ownBlock) v103 x5_2) ∧ Aside0 (Kd.R (Kd.int .u8) 5 w' w.heap.size (fun k_ => some k_ ≠ (v103 : Value).ownBlock) v106 x6_2) ∧ Aside0 (Below w.heap.size w w'))
    case atStart => exact ⟨(y102), (y105), (0), (by first | rfl | (simp; done) | (simp [*]; done)), H', ⟨Nat.le_refl _⟩, ⟨rX HO104.out⟩, ⟨rX HO107.out⟩, ⟨bX HB.out⟩⟩
    case round =>
     clear H'
     (try clear p2); (try clear c4); (try clear c4b0); (try clear c4b1); (try clear c5); (try clear c7); (try clear c7b0); (try clear c7b1)
     obtain ⟨x5_2, x6_2, x16_2, rfl, HA, HK2, HO_5, HO_6, HB⟩ := hrel
     cases gk with
     | zero => exact absurd HA.out (by simp [impl_mac.l0])
     | succ k2 =>
      have H := HA.out
      clear HA
      simp only [impl_mac.l0] at H
      by_cases c14 : x16_2 < 64
      ·
       rw [if_pos c14] at H
       have c14b0 : decide (x16_2 < 64) = true := decide_eq_true c14
       clear c14
       by_cases c15 : x16_2 < (x0_2.size : Int)
       ·
        rw [if_pos c15] at H
        have c15b0 : decide (x16_2 < (x0_2.size : Int)) = true := decide_eq_true c15
        clear c15
        by_cases c16 : 0 ≤ x16_2
        ·
         rw [if_pos c16] at H
         have c16b0 : decide (0 ≤ x16_2) = true := decide_eq_true c16
         clear c16
         by_cases c18 : x16_2 < (x5_2.length : Int)
         ·
          rw [if_pos c18] at H
          have c18b0 : decide (x16_2 < (x5_2.length : Int)) = true := decide_eq_true c18
          clear c18
          obtain ⟨y108, hy108⟩ : ∃ y_ : List Int, y_ = (x5_2.set (x16_2 : Int).toNat (Go.bits .xor .u8 (bt x0_2 x16_2) 54)) := ⟨_, rfl⟩
          replace H : (if x16_2 < (x6_2.length : Int) then (impl_mac.l0 k2 x0_2 a1 y108 (x6_2.set (x16_2 : Int).toNat (Go.bits .xor .u8 (bt x0_2 x16_2) 92)) (wrap64 (x16_2 + 1))) else (none)) = some r := by first | (rw [hy108]; with_reducible exact H) | (have H2_ := (Option.bind_some _ _).symm.trans H; rw [hy108]; with_reducible exact H2_) | (have H2_ := (Option.bind_some _ _).symm.trans H; with_reducible exact H2_) | with_reducible exact H | (rw [hy108]; exact H) | exact H
          have Ny108 := AM hy108
          clear hy108
          by_cases c20 : x16_2 < (x6_2.length : Int)
          ·
           rw [if_pos c20] at H
           have c20b0 : decide (x16_2 < (x6_2.length : Int)) = true := decide_eq_true c20
           clear c20
           obtain ⟨y109, hy109⟩ : ∃ y_ : List Int, y_ = (x6_2.set (x16_2 : Int).toNat (Go.bits .xor .u8 (bt x0_2 x16_2) 92)) := ⟨_, rfl⟩
           replace H : (impl_mac.l0 k2 x0_2 a1 y108 y109 (wrap64 (x16_2 + 1))) = some r := by first | (rw [hy109]; with_reducible exact H) | (have H2_ := (Option.bind_some _ _).symm.trans H; rw [hy109]; with_reducible exact H2_) | (have H2_ := (Option.bind_some _ _).symm.trans H; with_reducible exact H2_) | with_reducible exact H | (rw [hy109]; exact H) | exact H
           have Ny109 := AM hy109
           clear hy109
           have H' := AM H
           clear H
           have p17 : 0 ≤ (x16_2 : Int) := of_decide_eq_true (by assumption)
           have q17 : x16_2 < (x0_2.size : Int) := of_decide_eq_true (by assumption)
           have hx17 := bt_at x0_2 x16_2
           replace p17 := eq_true p17
           replace q17 := eq_true q17
           have p19 : 0 ≤ (x16_2 : Int) := of_decide_eq_true (by assumption)
           have q19 : (x16_2 : Int) < ((x5_2.length : Int) : Int) := of_decide_eq_true (by assumption)
           obtain ⟨go19, co19, eo19, gb19, gl19, cl19, HG19⟩ := Kd.R_form HO_5.out (by omega)
           (first | cases eo19 | (injection eo19 with ea_ en_ ec_; (first | subst ea_ | (injection ea_ with ea_; subst ea_)); subst ec_; clear en_))
           have GB19 := AM gb19
           have GG19 := AM HG19
           clear gb19 gl19 HG19
           obtain ⟨hx19_0, hf19_0⟩ := Kd.R_celln 0 HO_5.out (x16_2 : Int) p19 q19
           replace p19 := eq_true p19
           replace q19 := eq_true q19
           have HP22 := Kd.R_putg HO_5.out (x16_2 : Int) (Go.bits .xor .u8 (bt x0_2 x16_2) 54)
           go_wp2_with (first | ((with_reducible refine gate_store (t := 5) (p := 34) rfl ?_); refine store_event (t := 5) (p := 34) (v := ?vo_w23) (w1 := (wr.setCell ⟨go19, (x16_2 : Int).toNat, none⟩ (.int .u8 (Go.bits .xor .u8 (bt x0_2 x16_2) 54)))) ?hg ?ho ?hn ?hr ?_; (case ho => rfl); (case hg => rfl); (case hn => rfl); (case hr => first | (go_simp; done) | (go_simp; rfl)); intro w23 hw; have hg : wr.grownBy w23 (some go19) := (by rw [hw]; exact HP22.2); have hp_ : Kd.R (Kd.int .u8) 5 w23 w.heap.size (fun k_ => some k_ ≠ (v106 : Value).ownBlock) (.slice (some ⟨go19, 0, none⟩) x5_2.length co19) y108 := (by rw [hw, Ny108.out]; exact HP22.1); clear HP22; have _ := AM (hp_); have _ := AM (Kd.R_after (v := (.slice (some ⟨go19, 0, none⟩) x5_2.length co19)) (v1 := (.slice (some ⟨go19, 0, none⟩) x5_2.length co19)) (ok := (fun _ => True)) (by (with_reducible repeat (first | apply rA | apply rN | apply rD)); exact Kd.R_mono HO_6.out (fun _ hk => ⟨trivial, hk⟩)) hg (.inl rfl)); have _ := AM ((by rw [hw]; exact bS (HB.out) GB19.out : Below w.heap.size w w23)); clear HO_5 HO_6 HB; rename_i HO_5 HO_6 HB; clear hg hw hp_; have p21 : 0 ≤ (x16_2 : Int) := of_decide_eq_true (by assumption); have q21 : (x16_2 : Int) < ((x6_2.length : Int) : Int) := of_decide_eq_true (by assumption); obtain ⟨go21, co21, eo21, gb21, gl21, cl21, HG21⟩ := Kd.R_form HO_6.out (by omega); (first | cases eo21 | (injection eo21 with ea_ en_ ec_; (first | subst ea_ | (injection ea_ with ea_; subst ea_)); subst ec_; clear en_)); have GB21 := AM gb21; have GG21 := AM HG21; clear gb21 gl21 HG21; obtain ⟨hx21_0, hf21_0⟩ := Kd.R_celln 0 HO_6.out (x16_2 : Int) p21 q21; replace p21 := eq_true p21; replace q21 := eq_true q21; have n_ := AM (Kd.R_mono (ok' := (fun k_ => some k_ ≠ (.slice (some ⟨go19, 0, none⟩) x5_2.length co19 : Value).ownBlock)) HO_6.out (fun k_ hk => hk.2)); clear HO_6; have HO_6 := n_; clear n_; obtain ⟨hy24_, hz24_⟩ := Kd.R_celln 0 HO_6.out (x16_2 : Int) (of_decide_eq_true (by assumption)) (of_decide_eq_true (by assumption)); have HP24 := Kd.R_putg HO_6.out (x16_2 : Int) (Go.bits .xor .u8 (bt x0_2 x16_2) 92)) | ((with_reducible refine gate_store (t := 5) (p := 35) rfl ?_); refine store_event (t := 5) (p := 35) (v := ?vo_w25) (w1 := (w23.setCell ⟨go21, (x16_2 : Int).toNat, none⟩ (.int .u8 (Go.bits .xor .u8 (bt x0_2 x16_2) 92)))) ?hg ?ho ?hn ?hr ?_; (case ho => rfl); (case hg => rfl); (case hn => rfl); (case hr => first | (go_simp; done) | (go_simp; rfl)); intro w25 hw; have hg : w23.grownBy w25 (some go21) := (by rw [hw]; exact HP24.2); have hp_ : Kd.R (Kd.int .u8) 5 w25 w.heap.size (fun k_ => some k_ ≠ (.slice (some ⟨go19, 0, none⟩) x5_2.length co19 : Value).ownBlock) (.slice (some ⟨go21, 0, none⟩) x6_2.length co21) y109 := (by rw [hw, Ny109.out]; exact HP24.1); clear HP24; have _ := AM (Kd.R_after (v := (.slice (some ⟨go21, 0, none⟩) x6_2.length co21)) (v1 := (.slice (some ⟨go21, 0, none⟩) x6_2.length co21)) (ok := (fun _ => True)) (by (with_reducible repeat (first | apply rA | apply rN | apply rD)); exact Kd.R_mono HO_5.out (fun _ hk => ⟨trivial, hk⟩)) hg (.inl rfl)); have _ := AM (hp_); have _ := AM ((by rw [hw]; exact bS (HB.out) GB21.out : Below w.heap.size w w25)); clear HO_5 HO_6 HB; rename_i HO_5 HO_6 HB; clear hg hw hp_))
           go_roundg k2
           case measure => have := HJ2.out; have := HK2.out; omega
           case rel => exact ⟨(y108), (y109), (wrap64 (x16_2 + 1)), (by first | rfl | (simp; done) | (simp [*]; done)), H', ⟨by have := HJ2.out; have := HK2.out; omega⟩, ⟨by (with_reducible repeat (first | apply rA | apply rN | apply rD)); exact Kd.R_mono HO_5.out (fun _ hk => hk.2)⟩, ⟨rX HO_6.out⟩, ⟨bX HB.out⟩⟩
          rw [if_neg c20] at H
          exact absurd H (by simp)
         rw [if_neg c18] at H
         exact absurd H (by simp)
        rw [if_neg c16] at H
        exact absurd H (by simp)
       rw [if_neg c15] at H
       have c15b0 : decide (x16_2 < (x0_2.size : Int)) = false := decide_eq_false c15
       clear c15
       by_cases c26 : 0 ≤ x16_2
       ·
        rw [if_pos c26] at H
        have c26b0 : decide (0 ≤ x16_2) = true := decide_eq_true c26
        clear c26
        by_cases c27 : x16_2 < (x5_2.length : Int)
        ·
         rw [if_pos c27] at H
         have c27b0 : decide (x16_2 < (x5_2.length : Int)) = true := decide_eq_true c27
         clear c27
         obtain ⟨y110, hy110⟩ : ∃ y_ : List Int, y_ = (x5_2.set (x16_2 : Int).toNat (Go.bits .xor .u8 0 54)) := ⟨_, rfl⟩
         replace H : (if x16_2 < (x6_2.length : Int) then (impl_mac.l0 k2 x0_2 a1 y110 (x6_2.set (x16_2 : Int).toNat (Go.bits .xor .u8 0 92)) (wrap64 (x16_2 + 1))) else (none)) = some r := by first | (rw [hy110]; with_reducible exact H) | (have H2_ := (Option.bind_some _ _).symm.trans H; rw [hy110]; with_reducible exact H2_) | (have H2_ := (Option.bind_some _ _).symm.trans H; with_reducible exact H2_) | with_reducible exact H | (rw [hy110]; exact H) | exact H
         have Ny110 := AM hy110
         clear hy110
         by_cases c29 : x16_2 < (x6_2.length : Int)
         ·
          rw [if_pos c29] at H
          have c29b0 : decide (x16_2 < (x6_2.length : Int)) = true := decide_eq_true c29
          clear c29
          obtain ⟨y111, hy111⟩ : ∃ y_ : List Int, y_ = (x6_2.set (x16_2 : Int).toNat (Go.bits .xor .u8 0 92)) := ⟨_, rfl⟩
          replace H : (impl_mac.l0 k2 x0_2 a1 y110 y111 (wrap64 (x16_2 + 1))) = some r := by first | (rw [hy111]; with_reducible exact H) | (have H2_ := (Option.bind_some _ _).symm.trans H; rw [hy111]; with_reducible exact H2_) | (have H2_ := (Option.bind_some _ _).symm.trans H; with_reducible exact H2_) | with_reducible exact H | (rw [hy111]; exact H) | exact H
          have Ny111 := AM hy111
          clear hy111
          have H' := AM H
          clear H
          have p28 : 0 ≤ (x16_2 : Int) := of_decide_eq_true (by assumption)
          have q28 : (x16_2 : Int) < ((x5_2.length : Int) : Int) := of_decide_eq_true (by assumption)
          obtain ⟨go28, co28, eo28, gb28, gl28, cl28, HG28⟩ := Kd.R_form HO_5.out (by omega)
          (first | cases eo28 | (injection eo28 with ea_ en_ ec_; (first | subst ea_ | (injection ea_ with ea_; subst ea_)); subst ec_; clear en_))
          have GB28 := AM gb28
          have GG28 := AM HG28
          clear gb28 gl28 HG28
          obtain ⟨hx28_0, hf28_0⟩ := Kd.R_celln 0 HO_5.out (x16_2 : Int) p28 q28
          replace p28 := eq_true p28
          replace q28 := eq_true q28
          have HP31 := Kd.R_putg HO_5.out (x16_2 : Int) (Go.bits .xor .u8 0 54)
          go_wp2_with (first | ((with_reducible refine gate_store (t := 5) (p := 34) rfl ?_); refine store_event (t := 5) (p := 34) (v := ?vo_w32) (w1 := (wr.setCell ⟨go28, (x16_2 : Int).toNat, none⟩ (.int .u8 (Go.bits .xor .u8 0 54)))) ?hg ?ho ?hn ?hr ?_; (case ho => rfl); (case hg => rfl); (case hn => rfl); (case hr => first | (go_simp; done) | (go_simp; rfl)); intro w32 hw; have hg : wr.grownBy w32 (some go28) := (by rw [hw]; exact HP31.2); have hp_ : Kd.R (Kd.int .u8) 5 w32 w.heap.size (fun k_ => some k_ ≠ (v106 : Value).ownBlock) (.slice (some ⟨go28, 0, none⟩) x5_2.length co28) y110 := (by rw [hw, Ny110.out]; exact HP31.1); clear HP31; have _ := AM (hp_); have _ := AM (Kd.R_after (v := (.slice (some ⟨go28, 0, none⟩) x5_2.length co28)) (v1 := (.slice (some ⟨go28, 0, none⟩) x5_2.length co28)) (ok := (fun _ => True)) (by (with_reducible repeat (first | apply rA | apply rN | apply rD)); exact Kd.R_mono HO_6.out (fun _ hk => ⟨trivial, hk⟩)) hg (.inl rfl)); have _ := AM ((by rw [hw]; exact bS (HB.out) GB28.out : Below w.heap.size w w32)); clear HO_5 HO_6 HB; rename_i HO_5 HO_6 HB; clear hg hw hp_; have p30 : 0 ≤ (x16_2 : Int) := of_decide_eq_true (by assumption); have q30 : (x16_2 : Int) < ((x6_2.length : Int) : Int) := of_decide_eq_true (by assumption); obtain ⟨go30, co30, eo30, gb30, gl30, cl30, HG30⟩ := Kd.R_form HO_6.out (by omega); (first | cases eo30 | (injection eo30 with ea_ en_ ec_; (first | subst ea_ | (injection ea_ with ea_; subst ea_)); subst ec_; clear en_)); have GB30 := AM gb30; have GG30 := AM HG30; clear gb30 gl30 HG30; obtain ⟨hx30_0, hf30_0⟩ := Kd.R_celln 0 HO_6.out (x16_2 : Int) p30 q30; replace p30 := eq_true p30; replace q30 := eq_true q30; have n_ := AM (Kd.R_mono (ok' := (fun k_ => some k_ ≠ (.slice (some ⟨go28, 0, none⟩) x5_2.length co28 : Value).ownBlock)) HO_6.out (fun k_ hk => hk.2)); clear HO_6; have HO_6 := n_; clear n_; obtain ⟨hy33_, hz33_⟩ := Kd.R_celln 0 HO_6.out (x16_2 : Int) (of_decide_eq_true (by assumption)) (of_decide_eq_true (by assumption)); have HP33 := Kd.R_putg HO_6.out (x16_2 : Int) (Go.bits .xor .u8 0 92)) | ((with_reducible refine gate_store (t := 5) (p := 35) rfl ?_); refine store_event (t := 5) (p := 35) (v := ?vo_w34) (w1 := (w32.setCell ⟨go30, (x16_2 : Int).toNat, none⟩ (.int .u8 (Go.bits .xor .u8 0 92)))) ?hg ?ho ?hn ?hr ?_; (case ho => rfl); (case hg => rfl); (case hn => rfl); (case hr => first | (go_simp; done) | (go_simp; rfl)); intro w34 hw; have hg : w32.grownBy w34 (some go30) := (by rw [hw]; exact HP33.2); have hp_ : Kd.R (Kd.int .u8) 5 w34 w.heap.size (fun k_ => some k_ ≠ (.slice (some ⟨go28, 0, none⟩) x5_2.length co28 : Value).ownBlock) (.slice (some ⟨go30, 0, none⟩) x6_2.length co30) y111 := (by rw [hw, Ny111.out]; exact HP33.1); clear HP33; have _ := AM (Kd.R_after (v := (.slice (some ⟨go30, 0, none⟩) x6_2.length co30)) (v1 := (.slice (some ⟨go30, 0, none⟩) x6_2.length co30)) (ok := (fun _ => True)) (by (with_reducible repeat (first | apply rA | apply rN | apply rD)); exact Kd.R_mono HO_5.out (fun _ hk => ⟨trivial, hk⟩)) hg (.inl rfl)); have _ := AM (hp_); have _ := AM ((by rw [hw]; exact bS (HB.out) GB30.out : Below w.heap.size w w34)); clear HO_5 HO_6 HB; rename_i HO_5 HO_6 HB; clear hg hw hp_))
          go_roundg k2
          case measure => have := HJ2.out; have := HK2.out; omega
          case rel => exact ⟨(y110), (y111), (wrap64 (x16_2 + 1)), (by first | rfl | (simp; done) | (simp [*]; done)), H', ⟨by have := HJ2.out; have := HK2.out; omega⟩, ⟨by (with_reducible repeat (first | apply rA | apply rN | apply rD)); exact Kd.R_mono HO_5.out (fun _ hk => hk.2)⟩, ⟨rX HO_6.out⟩, ⟨bX HB.out⟩⟩
         rw [if_neg c29] at H
         exact absurd H (by simp)
        rw [if_neg c27] at H
        exact absurd H (by simp)
       rw [if_neg c26] at H
       exact absurd H (by simp)
      rw [if_neg c14] at H
      have c14b0 : decide (x16_2 < 64) = false := decide_eq_false c14
      clear c14
      by_cases c35 : (strOfNums x5_2).size + a1.size ≤ 9223372036854775807
      ·
       rw [if_pos c35] at H
       have c35b0 := eq_true c35
       have c35b1 : decide ((strOfNums x5_2).size + a1.size ≤ 9223372036854775807) = true := decide_eq_true c35
       try have c35b2 : (9223372036854775807 < (strOfNums x5_2).size + a1.size) = False := eq_false (Nat.not_lt.2 c35)
       replace H := Option.bind_eq_some_iff.mp H
       obtain ⟨t112, A360, H⟩ := H
       replace H : (if (strOfNums x6_2).size + t112.size ≤ 9223372036854775807 then ((impl_digest.f ((strOfNums x6_2) ++ t112)).bind fun t113 => (some t113)) else (none)) = some r := H
       have A36 := AM A360
       clear A360
       by_cases c37 : (strOfNums x6_2).size + t112.size ≤ 9223372036854775807
       ·
        rw [if_pos c37] at H
        have c37b0 := eq_true c37
        have c37b1 : decide ((strOfNums x6_2).size + t112.size ≤ 9223372036854775807) = true := decide_eq_true c37
        try have c37b2 : (9223372036854775807 < (strOfNums x6_2).size + t112.size) = False := eq_false (Nat.not_lt.2 c37)
        replace H := Option.bind_eq_some_iff.mp H
        obtain ⟨t113, A380, H⟩ := H
        replace H : (some t113) = some r := H
        have A38 := AM A380
        clear A380
        obtain rfl := Option.some.inj H
        try go_wp2
        have _ := AM (rD HO_5.out)
        have _ := AM (rD HO_6.out)
        have _ := AM (bD HB.out)
        clear HO_5 HO_6 HB
        rename_i HO_5 HO_6 HB
        have hcv40 := own_string (P := Tryd.prog) Tryd.underlying31 Tryd.underlying5 Tryd.underlying9 (Kd.own_of_R HO_6.out)
        have hcv41 := own_string (P := Tryd.prog) Tryd.underlying31 Tryd.underlying5 Tryd.underlying9 (Kd.own_of_R HO_5.out)
        refine start_ (n := 10) (S := fun w' => (Go.convert 31 9 v106).run Tryd.prog w' = .ok (.string (strOfNums x6_2)) w' ∧ (Go.convert 31 9 v103).run Tryd.prog w' = .ok (.string (strOfNums x5_2)) w') (ds := []) (upTo 0 10) (by kernel_rfl) rfl rfl ⟨hcv40, hcv41⟩ (fun hHeld => ?_); refine with_tabW impl_mac.tab12 impl_mac.bits12 (fun HT_ HW_ => ?_)
        generalize wr.drew = w39 at HO_5 HO_6 HB hHeld ⊢
        refine pF 0 1 10 37 ?_
        refine pT 1 2 10 38 ?_ hHeld
        refine pF 2 3 10 39 ?_
        refine pT 3 4 10 40 ?_ hHeld
        refine pF 4 5 10 41 ?_
        refine pF 5 6 10 42 ?_
        refine one_ (i := 6) (N := some 43) (upTo 7 10) rfl rfl (one_of HT_.out (by kernel_rfl)) (by decide) (fun K hK => ?_)
        refine goes_ Tryd.func51 (by kernel_rfl) rfl #[.string ((strOfNums x5_2) ++ a1)] (by rfl) rfl rfl (by (try simp only [mA, mB, mC]); first | done | rfl | (simp only [mD, mE]; rfl)) ?_
        with_reducible refine (impl_digest.calls ((strOfNums x5_2) ++ a1) t112 _ ?sideT A36.out).mono ?_
        (case sideT => exact tabB TAB.out (bX HB.out))
        rintro e w42 ⟨rfl, hb⟩
        refine ⟨_, rfl, ?_⟩
        have _ := AM (Kd.R_below (rX HO_5.out) hb)
        have _ := AM (Kd.R_below (rX HO_6.out) hb)
        have _ := AM (below_step (bX HB.out) hb)
        clear HO_5 HO_6 HB
        rename_i HO_5 HO_6 HB
        (try clear hb)
        (try clear hk)
        refine hK.out _ _ ⟨own_string (P := Tryd.prog) Tryd.underlying31 Tryd.underlying5 Tryd.underlying9 (Kd.own_of_R HO_6.out), own_string (P := Tryd.prog) Tryd.underlying31 Tryd.underlying5 Tryd.underlying9 (Kd.own_of_R HO_5.out)⟩ (fun hHeld => ?_)
        clear hK K
        refine norm_ (a' := ?_) ?_ ?_
        rotate_left
        ·
         show Act.put _ (some 43) _ = _
         simp only [Act.put, sA, sB, sC, i64_w, i32_w]
         rfl
        refine pF 7 8 10 44 ?_
        refine one_ (i := 8) (N := some 45) (upTo 9 10) rfl rfl (one_of HT_.out (by kernel_rfl)) (by decide) (fun K hK => ?_)
        refine goes_ Tryd.func51 (by kernel_rfl) rfl #[.string ((strOfNums x6_2) ++ t112)] (by rfl) rfl rfl (by (try simp only [mA, mB, mC]); first | done | rfl | (simp only [mD, mE]; rfl)) ?_
        with_reducible refine (impl_digest.calls ((strOfNums x6_2) ++ t112) t113 _ ?sideT A38.out).mono ?_
        (case sideT => exact tabB TAB.out (bX HB.out))
        rintro e w44 ⟨rfl, hb⟩
        refine ⟨_, rfl, ?_⟩
        have _ := AM (Kd.R_below (rX HO_5.out) hb)
        have _ := AM (Kd.R_below (rX HO_6.out) hb)
        have _ := AM (below_step (bX HB.out) hb)
        clear HO_5 HO_6 HB
        rename_i HO_5 HO_6 HB
        (try clear hb)
        (try clear hk)
        refine hK.out _ _ ⟨own_string (P := Tryd.prog) Tryd.underlying31 Tryd.underlying5 Tryd.underlying9 (Kd.own_of_R HO_6.out), own_string (P := Tryd.prog) Tryd.underlying31 Tryd.underlying5 Tryd.underlying9 (Kd.own_of_R HO_5.out)⟩ (fun hHeld => ?_)
        clear hK K
        refine norm_ (a' := ?_) ?_ ?_
        rotate_left
        ·
         show Act.put _ (some 45) _ = _
         simp only [Act.put, sA, sB, sC, i64_w, i32_w]
         rfl
        refine pF 9 10 10 4 ?_
        refine done_ (done_of HT_.out (by kernel_rfl)) ?_
        try go_wp2
        go_ret
        exact ⟨by first | rfl | (simp [*, errW_none, errW_some] <;> rfl), bX HB.out⟩
       rw [if_neg c37] at H
       exact absurd H (by simp)
      rw [if_neg c35] at H
      exact absurd H (by simp)
   rw [if_neg c7] at H
   exact absurd H (by simp)

/-! ### impl_shortMac: function 37 -/

def impl_shortMac.f (k : Nat) (a0 : ByteArray) (a1 : Int) (a2 : Int) (a3 : ByteArray) : Option (ByteArray) := (impl_pairKey.f a0 a1 a2).bind fun t101 => ((impl_mac.f k t101 a3).bind fun t102 => (if 0 ≤ 8 then (if 8 ≤ (t102.size : Int) then (some (t102.extract 0 8)) else (none)) else (none)))
theorem impl_shortMac.mono : ∀ a0 a1 a2 a3 k, LeO (impl_shortMac.f k a0 a1 a2 a3) (impl_shortMac.f (k + 1) a0 a1 a2 a3) := by
  intro a0 a1 a2 a3 k
  unfold impl_shortMac.f
  repeat' first
      | (with_reducible exact impl_mac.mono _ _ _)
      | (with_reducible exact LeO.refl _)
      | (with_reducible exact LeO.none _)
      | (with_reducible refine LeO.ite ?_ ?_)
      | (with_reducible refine LeO.bind ?_ (fun _ => ?_))
      | exact impl_mac.mono _ _ _
      | exact LeO.none _
      | refine LeO.ite ?_ ?_
      | refine LeO.bind ?_ (fun _ => ?_)
set_option maxHeartbeats 60000000 in
set_option maxRecDepth 100000 in
theorem impl_shortMac.calls (k : Nat) (a0 : ByteArray) (a1 : Int) (a2 : Int) (a3 : ByteArray) (r : ByteArray) (w : World) (hT : Tab w) (h : impl_shortMac.f k a0 a1 a2 a3 = some r) :
    Calls Tryd.prog 37 #[.string a0, .int .i64 a1, .int .i64 a2, .string a3] w fun e w' => e = .returned (.string r) ∧ Below w.heap.size w w' := by
 have TAB := AM hT
 clear hT
 have HB := AM (Below.refl w.heap.size w)
 have H : ((impl_pairKey.f a0 a1 a2).bind fun t101 => ((impl_mac.f k t101 a3).bind fun t102 => (if 0 ≤ 8 then (if 8 ≤ (t102.size : Int) then (some (t102.extract 0 8)) else (none)) else (none)))) = some r := h
 clear h
 replace H := Option.bind_eq_some_iff.mp H
 obtain ⟨t101, A50, H⟩ := H
 replace H : ((impl_mac.f k t101 a3).bind fun t102 => (if 0 ≤ 8 then (if 8 ≤ (t102.size : Int) then (some (t102.extract 0 8)) else (none)) else (none))) = some r := H
 have A5 := AM A50
 clear A50
 replace H := Option.bind_eq_some_iff.mp H
 obtain ⟨t102, A60, H⟩ := H
 replace H : (if 0 ≤ 8 then (if 8 ≤ (t102.size : Int) then (some (t102.extract 0 8)) else (none)) else (none)) = some r := H
 have A6 := AM A60
 clear A60
 by_cases c7 : 0 ≤ 8
 ·
  rw [if_pos c7] at H
  have c7b0 := eq_true c7
  have c7b1 : decide (0 ≤ 8) = true := decide_eq_true c7
  clear c7
  by_cases c8 : 8 ≤ (t102.size : Int)
  ·
   rw [if_pos c8] at H
   have c8b0 := eq_true c8
   have c8b1 : decide (8 ≤ (t102.size : Int)) = true := decide_eq_true c8
   clear c8
   obtain rfl := Option.some.inj H
   go_enter Tryd.func37, Tryd.ntmps37
   go_wp2_with (first | ((with_reducible refine gate_callee (f := 35) rfl ?_); refine goesL_ (some 12) rfl rfl Tryd.func35 (by kernel_rfl) rfl #[.string a0, .int .i64 a1, .int .i64 a2] rfl (by (try simp only [mA, mB, mC]); first | done | rfl | (simp only [mD, mE]; rfl)) ?_; (with_reducible refine (impl_pairKey.calls a0 a1 a2 t101 _ ?sideT A5.out).mono ?_); (case sideT => exact tabB TAB.out (bX HB.out)); rintro e w9 ⟨rfl, hb⟩; refine ⟨_, rfl, ?_⟩; have _ := AM (below_step (bX HB.out) hb); clear HB; rename_i HB; (try clear hb); (try clear hk)) | ((with_reducible refine gate_callee (f := 53) rfl ?_); refine goesL_ (some 14) rfl rfl Tryd.func53 (by kernel_rfl) rfl #[.string t101, .string a3] rfl (by (try simp only [mA, mB, mC]); first | done | rfl | (simp only [mD, mE]; rfl)) ?_; (with_reducible refine (impl_mac.calls k t101 a3 t102 _ ?sideT A6.out).mono ?_); (case sideT => exact tabB TAB.out (bX HB.out)); rintro e w10 ⟨rfl, hb⟩; refine ⟨_, rfl, ?_⟩; have _ := AM (below_step (bX HB.out) hb); clear HB; rename_i HB; (try clear hb); (try clear hk)))
   go_ret
   exact ⟨by first | rfl | (simp [*, errW_none, errW_some] <;> rfl), bX HB.out⟩
  rw [if_neg c8] at H
  exact absurd H (by simp)
 rw [if_neg c7] at H
 exact absurd H (by simp)

end Go.Proofs.YtgpgamapopnfcaaDoor.Q
