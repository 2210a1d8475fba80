/- Printed by a program of this session (wip/mp.py over the kit's print.py): functions of the translation as plain Lean functions, and that the machine's calls do what these say. -/
import Derived.Test.YtgpgamapopnfcaaDoorQx0
import Derived.Test.YtgpgamapopnfcaaDoorQx1
import Derived.Test.YtgpgamapopnfcaaDoorQx15
namespace Go.Proofs.YtgpgamapopnfcaaDoor.Q
open Go.RowKit Go.Proofs.YtgpgamapopnfcaaDoor.HB Go.Proofs.YtgpgamapopnfcaaDoorW.PrintWords Go.Proofs.YtgpgamapopnfcaaDoorW.PrintLast Go.Proofs.YtgpgamapopnfcaaDoorW.PrintMore
attribute [local go_sem] max2_int min2_int max_two min_two max_three min_three max_four min_four   -- for this text's walks alone
set_option linter.unusedVariables false
set_option linter.unusedSimpArgs false

/-! ### spec_l02Pad: function 52 (by hand) -/
def pd_L (x : Int) : Nat → Nat → List Int → List Int
  | 0, _, L => L
  | n + 1, i, L => pd_L x n (i + 1) (L.set i (Go.bits .xor .u8 (rd L (i : Int)) x))
def pd_0 (a0 : ByteArray) : List Int := byt a0 ++ (List.replicate 64 0).drop a0.size
def spec_l02Pad.f (a0 : ByteArray) (a1 : Int) : Option ByteArray := if a0.size ≤ 64 then some (strOfNums (pd_L a1 64 0 (pd_0 a0))) else none
set_option maxHeartbeats 4000000 in
set_option maxRecDepth 100000 in
theorem spec_l02Pad.calls (a0 : ByteArray) (a1 : Int) (r : ByteArray) (w : World) (h : spec_l02Pad.f a0 a1 = some r) :
    Calls Tryd.prog 52 #[.string a0, .int .u8 a1] w fun e w' => e = .returned (.string r) ∧ Below w.heap.size w w' := by
  have hu31 := Tryd.underlying31
  obtain ⟨HZ, E1⟩ : Aside0 (a0.size ≤ 64) ∧ Aside0 (strOfNums (pd_L a1 64 0 (pd_0 a0)) = r) := by
    unfold spec_l02Pad.f at h
    by_cases c : a0.size ≤ 64
    · rw [if_pos c] at h; exact ⟨⟨c⟩, ⟨Option.some.inj h⟩⟩
    · rw [if_neg c] at h; cases h
  clear h
  have HB := Aside0.mk (Below.refl w.heap.size w)
  go_enter Tryd.func52, Tryd.ntmps52
  go_wp2_with (first | ((with_reducible refine gate_dst (N := 7) rfl ?_); refine Kd.R_make (Kd.int .u8) _ 5 rfl (N := 7) rfl 31 _ _ rfl 64 rfl rfl Tryd.underlying31 (.int .u8 0) 1 info5 rfl (by decide) (by omega) 0 (ok := fun _ => True) (okp := fun _ => True) rfl (fun _ hk => hk) trivial (by decide) (by decide) (Below.refl _ _) (Nat.le_refl _) ?_; intro v102 w5 ho6 hb hg_ hnew_; have OW := Aside0.mk (Kd.own_of_R ho6); have HB1 := Aside0.mk (below_step HB.out hb); clear HB hg_ ho6 hb; obtain ⟨gb, hgb, hgl⟩ := hnew_; obtain ⟨cap, rfl⟩ := own_slice OW.out hgb; obtain ⟨w6, hrun0, hrow, hgr⟩ := BRow.copied (P := Tryd.prog) (xs := List.replicate 64 0) a0 (OW.out) (HZ.out) (by kernel_rfl) 31 9 3 Tryd.underlying31; have hrun : (Builtin.copy_ #[31, 9] 3 #[.slice (some ⟨gb, 0, none⟩) 64 cap, .string a0]).run Tryd.prog w5 = .ok (goInt a0.size) w6 := hrun0; clear hrun0; have BR := Aside0.mk hrow; have HB := Aside0.mk (HB1.out.grown hgr HB1.out.size (fun k hk => by cases hk; exact hgl)); clear hrow hgr OW HB1 hgb))
  have BQ : Aside0 (BRow w6 w.heap.size (.slice (some ⟨gb, 0, none⟩) 64 cap) (pd_0 a0)) := BR
  clear BR
  have LQ : Aside0 ((pd_0 a0).length = 64) := ⟨by have := byt_length a0; have := HZ.out; simp only [pd_0, List.length_append, List.length_drop, List.length_replicate]; omega⟩
  go_loopg [6] 65 (fun kq v6 w' => ∃ (i : Nat) (L : List Int), v6 = .int .i64 (i : Int) ∧ Aside0 (kq + i = 65) ∧ Aside0 (i ≤ 64) ∧ Aside0 (L.length = 64) ∧ Aside0 (strOfNums (pd_L a1 (64 - i) i L) = r) ∧ Aside0 (BRow w' w.heap.size (.slice (some ⟨gb, 0, none⟩) 64 cap) L) ∧ Aside0 (Below w.heap.size w w'))
  case atStart => exact ⟨0, pd_0 a0, rfl, ⟨rfl⟩, ⟨by decide⟩, LQ, E1, BQ, HB⟩
  case round =>
    clear E1 BQ LQ HB hrun
    obtain ⟨i, L, rfl, HK, HI, HL, E1, BQ, HB⟩ := hrel
    cases gk with
    | zero => exact absurd HK.out (by have := HI.out; omega)
    | succ k1 =>
    have BQ' : Aside0 (BRow wr w.heap.size (.slice (some ⟨gb, 0, none⟩) L.length cap) L) := ⟨by rw [HL.out]; exact BQ.out⟩
    by_cases hlt : i < 64
    · have c1 : decide ((i : Int) < 64) = true := decide_eq_true (by omega)
      have G0 : decide (0 ≤ (i : Int)) = true := decide_eq_true (by omega)
      have G1 : (i : Int) < 64 := by omega
      obtain ⟨d, hd⟩ : ∃ d, 64 - i = d + 1 := ⟨63 - i, by omega⟩
      obtain ⟨g', cap', hv, _, _, _, _, hc⟩ := BQ'.out.cell
      obtain ⟨e1, e2⟩ : gb = g' ∧ cap = cap' := by simpa using hv
      subst e1; subst e2
      have q1 := hc i (by have := HL.out; omega)
      have hfw := BQ'.out.notfrozen i (by have := HL.out; omega)
      have E2 : Aside0 (strOfNums (pd_L a1 d (i + 1) (L.set i (Go.bits .xor .u8 (L.getD i 0) a1))) = r) := ⟨by have := E1.out; rw [hd] at this; simpa [pd_L, rd] using this⟩
      have HD := Aside0.mk hd
      clear E1 hd hc hv
      obtain ⟨y1, hy1⟩ : ∃ y, y = L.getD i 0 := ⟨_, rfl⟩
      rw [← hy1] at q1 E2
      clear hy1
      go_wp2
      go_roundg k1
      case measure => omega
      case rel => exact ⟨i + 1, L.set i (Go.bits .xor .u8 y1 a1), rfl, ⟨by have := HK.out; omega⟩, ⟨by omega⟩, ⟨by rw [List.length_set]; exact HL.out⟩, ⟨by rw [show 64 - (i + 1) = d by have := HD.out; omega]; exact E2.out⟩, ⟨by have := BQ'.out.put i (by have := HL.out; omega) (Go.bits .xor .u8 y1 a1); rw [HL.out] at this; exact this⟩, ⟨HB.out.setCell (by exact hgl) _⟩⟩
    · obtain rfl : i = 64 := by have := HI.out; omega
      have c1 : decide ((64 : Int) < 64) = false := by decide
      have hcv := BRow.string (P := Tryd.prog) (dst := 9) Tryd.underlying31 Tryd.underlying5 Tryd.underlying9 BQ.out
      have E2 : strOfNums L = r := E1.out
      rw [E2] at hcv
      go_wp2
      go_ret
      exact ⟨rfl, HB.out⟩


/-! ### spec_l02Mac: function 36 -/

def spec_l02Mac.j0 : Nat → ByteArray → ByteArray → Option (ByteArray)
  | 0, _, _ => none
  | k + 1, x0, x1 => (spec_l02Pad.f x0 92).bind fun t102 => ((spec_l02Pad.f x0 54).bind fun t103 => (if t103.size + x1.size ≤ 9223372036854775807 then ((spec_l02All.f (t103 ++ x1)).bind fun t104 => (if t102.size + t104.size ≤ 9223372036854775807 then ((spec_l02All.f (t102 ++ t104)).bind fun t105 => (some t105)) else (none))) else (none)))
def spec_l02Mac.f (k : Nat) (a0 : ByteArray) (a1 : ByteArray) : Option (ByteArray) := if (a0.size : Int) > 64 then ((spec_l02All.f a0).bind fun t101 => (spec_l02Mac.j0 k t101 a1)) else (spec_l02Mac.j0 k a0 a1)
theorem spec_l02Mac.mono_l : ∀ k, (∀ y0 y1, LeO (spec_l02Mac.j0 k y0 y1) (spec_l02Mac.j0 (k + 1) y0 y1))
  | 0 => fun _ _ r h => by simp [spec_l02Mac.j0] at h
  | k + 1 => by
    have ih0 := spec_l02Mac.mono_l k
    · intro y0 y1
      unfold spec_l02Mac.j0
      repeat' first
      | (with_reducible exact ih0 _ _)
      | (with_reducible exact LeO.refl _)
      | (with_reducible exact LeO.none _)
      | (with_reducible refine LeO.ite ?_ ?_)
      | (with_reducible refine LeO.bind ?_ (fun _ => ?_))
      | exact ih0 _ _
      | exact LeO.none _
      | refine LeO.ite ?_ ?_
      | refine LeO.bind ?_ (fun _ => ?_)
theorem spec_l02Mac.mono : ∀ a0 a1 k, LeO (spec_l02Mac.f k a0 a1) (spec_l02Mac.f (k + 1) a0 a1) := by
  intro a0 a1 k
  have ih0 := spec_l02Mac.mono_l k
  unfold spec_l02Mac.f
  repeat' first
      | (with_reducible exact ih0 _ _)
      | (with_reducible exact LeO.refl _)
      | (with_reducible exact LeO.none _)
      | (with_reducible refine LeO.ite ?_ ?_)
      | (with_reducible refine LeO.bind ?_ (fun _ => ?_))
      | exact ih0 _ _
      | exact LeO.none _
      | refine LeO.ite ?_ ?_
      | refine LeO.bind ?_ (fun _ => ?_)
set_option maxHeartbeats 60000000 in
set_option maxRecDepth 100000 in
theorem spec_l02Mac.calls (k : Nat) (a0 : ByteArray) (a1 : ByteArray) (r : ByteArray) (w : World) (h : spec_l02Mac.f k a0 a1 = some r) :
    Calls Tryd.prog 36 #[.string a0, .string a1] w fun e w' => e = .returned (.string r) ∧ Below w.heap.size w w' := by
 have HB := AM (Below.refl w.heap.size w)
 have H : (if (a0.size : Int) > 64 then ((spec_l02All.f a0).bind fun t101 => (spec_l02Mac.j0 k t101 a1)) else (spec_l02Mac.j0 k a0 a1)) = some r := h
 clear h
 have HC3 := AM H
 clear H
 go_enter Tryd.func36, Tryd.ntmps36
 go_upto_if 7 with (fail)
 go_cut [0] (fun v0 wc => ∃ (kq : Nat) (x0_2 : ByteArray), v0 = .string x0_2 ∧ Aside0 (spec_l02Mac.j0 kq x0_2 a1 = some r) ∧ Aside0 (kq ≤ k) ∧ Aside0 (Below w.heap.size w wc))
 case first =>
  have H := HC3.out
  clear HC3
  by_cases c4 : (a0.size : Int) > 64
  ·
   rw [if_pos c4] at H
   have c4b0 : decide (64 < (a0.size : Int)) = true := decide_eq_true c4
   have c4b1 : decide (64 < a0.size) = true := decide_eq_true (by omega)
   clear c4
   (first | rw [c4b0] | (simp only [i64_w, i32_w]; rw [c4b0]) | skip)
   replace H := Option.bind_eq_some_iff.mp H
   obtain ⟨t101, A50, H⟩ := H
   replace H : (spec_l02Mac.j0 k t101 a1) = some r := H
   have A5 := AM A50
   clear A50
   have H' := AM H
   clear H
   go_wp2_with (first | ((with_reducible refine gate_callee (f := 29) rfl ?_); refine goesL_ (some 9) rfl rfl Tryd.func29 (by kernel_rfl) rfl #[.string a0] rfl (by (try simp only [mA, mB, mC]); first | done | rfl | (simp only [mD, mE]; rfl)) ?_; (with_reducible refine (spec_l02All.calls a0 t101 _ A5.out).mono ?_); rintro e w6 ⟨rfl, hb⟩; refine ⟨_, rfl, ?_⟩; have _ := AM (below_step (bX HB.out) hb); clear HB; rename_i HB; (try clear hb); (try clear hk)))
   go_meet
   case rel => exact ⟨_, (t101), (by first | rfl | (simp; done) | (simp [*]; done)), H', ⟨by first | omega | exact Nat.le_refl _⟩, ⟨bX HB.out⟩⟩
  rw [if_neg c4] at H
  have c4b0 : decide (64 < (a0.size : Int)) = false := decide_eq_false c4
  have c4b1 : decide (64 < a0.size) = false := decide_eq_false (by omega)
  clear c4
  (first | rw [c4b0] | (simp only [i64_w, i32_w]; rw [c4b0]) | skip)
  have H' := AM H
  clear H
  go_wp2
  go_meet
  case rel => exact ⟨_, (a0), (by first | rfl | (simp; done) | (simp [*]; done)), H', ⟨by first | omega | exact Nat.le_refl _⟩, ⟨bX HB.out⟩⟩
 case rest =>
  clear HC3
  (try clear c2); (try clear p2); (try clear c3); (try clear c4); (try clear c4b0); (try clear c4b1)
  obtain ⟨kq, x0_2, rfl, HA, HJ2, HB⟩ := hcut
  cases kq with
  | zero => exact absurd HA.out (by simp [spec_l02Mac.j0])
  | succ kj2 =>
   have H := HA.out
   clear HA
   simp only [spec_l02Mac.j0] at H
   replace H := Option.bind_eq_some_iff.mp H
   obtain ⟨t102, A70, H⟩ := H
   replace H : ((spec_l02Pad.f x0_2 54).bind fun t103 => (if t103.size + a1.size ≤ 9223372036854775807 then ((spec_l02All.f (t103 ++ a1)).bind fun t104 => (if t102.size + t104.size ≤ 9223372036854775807 then ((spec_l02All.f (t102 ++ t104)).bind fun t105 => (some t105)) else (none))) else (none))) = some r := H
   have A7 := AM A70
   clear A70
   replace H := Option.bind_eq_some_iff.mp H
   obtain ⟨t103, A80, H⟩ := H
   replace H : (if t103.size + a1.size ≤ 9223372036854775807 then ((spec_l02All.f (t103 ++ a1)).bind fun t104 => (if t102.size + t104.size ≤ 9223372036854775807 then ((spec_l02All.f (t102 ++ t104)).bind fun t105 => (some t105)) else (none))) else (none)) = some r := H
   have A8 := AM A80
   clear A80
   by_cases c9 : t103.size + a1.size ≤ 9223372036854775807
   ·
    rw [if_pos c9] at H
    have c9b0 := eq_true c9
    have c9b1 : decide (t103.size + a1.size ≤ 9223372036854775807) = true := decide_eq_true c9
    try have c9b2 : (9223372036854775807 < t103.size + a1.size) = False := eq_false (Nat.not_lt.2 c9)
    replace H := Option.bind_eq_some_iff.mp H
    obtain ⟨t104, A100, H⟩ := H
    replace H : (if t102.size + t104.size ≤ 9223372036854775807 then ((spec_l02All.f (t102 ++ t104)).bind fun t105 => (some t105)) else (none)) = some r := H
    have A10 := AM A100
    clear A100
    by_cases c11 : t102.size + t104.size ≤ 9223372036854775807
    ·
     rw [if_pos c11] at H
     have c11b0 := eq_true c11
     have c11b1 : decide (t102.size + t104.size ≤ 9223372036854775807) = true := decide_eq_true c11
     try have c11b2 : (9223372036854775807 < t102.size + t104.size) = False := eq_false (Nat.not_lt.2 c11)
     replace H := Option.bind_eq_some_iff.mp H
     obtain ⟨t105, A120, H⟩ := H
     replace H : (some t105) = some r := H
     have A12 := AM A120
     clear A120
     obtain rfl := Option.some.inj H
     go_wp2_with (first | ((with_reducible refine gate_callee (f := 52) rfl ?_); refine goesL_ (some 11) rfl rfl Tryd.func52 (by kernel_rfl) rfl #[.string x0_2, .int .u8 92] rfl (by (try simp only [mA, mB, mC]); first | done | rfl | (simp only [mD, mE]; rfl)) ?_; (with_reducible refine (spec_l02Pad.calls x0_2 92 t102 _ A7.out).mono ?_); rintro e w13 ⟨rfl, hb⟩; refine ⟨_, rfl, ?_⟩; have _ := AM (below_step (bX HB.out) hb); clear HB; rename_i HB; (try clear hb); (try clear hk)) | ((with_reducible refine gate_callee (f := 52) rfl ?_); refine goesL_ (some 13) rfl rfl Tryd.func52 (by kernel_rfl) rfl #[.string x0_2, .int .u8 54] rfl (by (try simp only [mA, mB, mC]); first | done | rfl | (simp only [mD, mE]; rfl)) ?_; (with_reducible refine (spec_l02Pad.calls x0_2 54 t103 _ A8.out).mono ?_); rintro e w14 ⟨rfl, hb⟩; refine ⟨_, rfl, ?_⟩; have _ := AM (below_step (bX HB.out) hb); clear HB; rename_i HB; (try clear hb); (try clear hk)) | ((with_reducible refine gate_callee (f := 29) rfl ?_); refine goesL_ (some 16) rfl rfl Tryd.func29 (by kernel_rfl) rfl #[.string (t103 ++ a1)] rfl (by (try simp only [mA, mB, mC]); first | done | rfl | (simp only [mD, mE]; rfl)) ?_; (with_reducible refine (spec_l02All.calls (t103 ++ a1) t104 _ A10.out).mono ?_); rintro e w15 ⟨rfl, hb⟩; refine ⟨_, rfl, ?_⟩; have _ := AM (below_step (bX HB.out) hb); clear HB; rename_i HB; (try clear hb); (try clear hk)) | ((with_reducible refine gate_callee (f := 29) rfl ?_); refine goesL_ (some 18) rfl rfl Tryd.func29 (by kernel_rfl) rfl #[.string (t102 ++ t104)] rfl (by (try simp only [mA, mB, mC]); first | done | rfl | (simp only [mD, mE]; rfl)) ?_; (with_reducible refine (spec_l02All.calls (t102 ++ t104) t105 _ A12.out).mono ?_); rintro e w16 ⟨rfl, hb⟩; refine ⟨_, rfl, ?_⟩; have _ := AM (below_step (bX HB.out) hb); clear HB; rename_i HB; (try clear hb); (try clear hk)))
     go_ret
     exact ⟨by first | rfl | (simp [*, errW_none, errW_some] <;> rfl), bX HB.out⟩
    rw [if_neg c11] at H
    exact absurd H (by simp)
   rw [if_neg c9] at H
   exact absurd H (by simp)

/-! ### spec_Vector: function 9 -/

mutual
def spec_Vector.j0 : Nat → ByteArray → Int → ByteArray → List ByteArray → Bool → Option (List ByteArray)
  | 0, _, _, _, _, _ => none
  | k + 1, x0, x1, x2, x7, x27 => if x27 = true then (some x7) else (spec_Vector.l0 k x0 x1 x2 x7 0)
def spec_Vector.l0 : Nat → ByteArray → Int → ByteArray → List ByteArray → Int → Option (List ByteArray)
  | 0, _, _, _, _, _ => none
  | k + 1, x0, x1, x2, x7, x8 => if x8 < 4 then (if x8 = x1 then (if x7.length < 8796093022208 then (spec_Vector.l0 k x0 x1 x2 (x7 ++ [(⟨#[]⟩ : ByteArray)]) (wrap64 (x8 + 1))) else (none)) else ((spec_PairKey.f k x0 x1 x8).bind fun t108 => ((spec_l02Mac.f k t108 x2).bind fun t109 => (if 0 ≤ 8 then (if 8 ≤ (t109.size : Int) then (if x7.length < 8796093022208 then (spec_Vector.l0 k x0 x1 x2 (x7 ++ [t109.extract 0 8]) (wrap64 (x8 + 1))) else (none)) else (none)) else (none))))) else (some x7)
end
def spec_Vector.f (k : Nat) (a0 : ByteArray) (a1 : Int) (a2 : ByteArray) : Option (List ByteArray) := (some (([] : List ByteArray) : List ByteArray)).bind fun y101 => (if (a2.size : Int) > 20000 then (spec_Vector.j0 k a0 a1 a2 y101 true) else (if (a0.size : Int) < 1 then (spec_Vector.j0 k a0 a1 a2 y101 true) else (if (a0.size : Int) > 60 then (spec_Vector.j0 k a0 a1 a2 y101 true) else ((spec_l09Who.f a1).bind fun t104 => (spec_Vector.j0 k a0 a1 a2 y101 (!t104))))))
theorem spec_Vector.mono_l : ∀ k, (∀ y0 y1 y2 y3 y4, LeO (spec_Vector.j0 k y0 y1 y2 y3 y4) (spec_Vector.j0 (k + 1) y0 y1 y2 y3 y4)) ∧ (∀ y0 y1 y2 y3 y4, LeO (spec_Vector.l0 k y0 y1 y2 y3 y4) (spec_Vector.l0 (k + 1) y0 y1 y2 y3 y4))
  | 0 => ⟨fun _ _ _ _ _ r h => by simp [spec_Vector.j0] at h, fun _ _ _ _ _ r h => by simp [spec_Vector.l0] at h⟩
  | k + 1 => by
    obtain ⟨ih0, ih1⟩ := spec_Vector.mono_l k
    refine ⟨?_, ?_⟩
    · intro y0 y1 y2 y3 y4
      unfold spec_Vector.j0
      repeat' first
      | (with_reducible exact ih0 _ _ _ _ _)
      | (with_reducible exact ih1 _ _ _ _ _)
      | (with_reducible exact spec_PairKey.mono _ _ _ _)
      | (with_reducible exact spec_l02Mac.mono _ _ _)
      | (with_reducible exact LeO.refl _)
      | (with_reducible exact LeO.none _)
      | (with_reducible refine LeO.ite ?_ ?_)
      | (with_reducible refine LeO.bind ?_ (fun _ => ?_))
      | exact ih0 _ _ _ _ _
      | exact ih1 _ _ _ _ _
      | exact spec_PairKey.mono _ _ _ _
      | exact spec_l02Mac.mono _ _ _
      | exact LeO.none _
      | refine LeO.ite ?_ ?_
      | refine LeO.bind ?_ (fun _ => ?_)
    · intro y0 y1 y2 y3 y4
      unfold spec_Vector.l0
      repeat' first
      | (with_reducible exact ih0 _ _ _ _ _)
      | (with_reducible exact ih1 _ _ _ _ _)
      | (with_reducible exact spec_PairKey.mono _ _ _ _)
      | (with_reducible exact spec_l02Mac.mono _ _ _)
      | (with_reducible exact LeO.refl _)
      | (with_reducible exact LeO.none _)
      | (with_reducible refine LeO.ite ?_ ?_)
      | (with_reducible refine LeO.bind ?_ (fun _ => ?_))
      | exact ih0 _ _ _ _ _
      | exact ih1 _ _ _ _ _
      | exact spec_PairKey.mono _ _ _ _
      | exact spec_l02Mac.mono _ _ _
      | exact LeO.none _
      | refine LeO.ite ?_ ?_
      | refine LeO.bind ?_ (fun _ => ?_)
theorem spec_Vector.mono : ∀ a0 a1 a2 k, LeO (spec_Vector.f k a0 a1 a2) (spec_Vector.f (k + 1) a0 a1 a2) := by
  intro a0 a1 a2 k
  obtain ⟨ih0, ih1⟩ := spec_Vector.mono_l k
  unfold spec_Vector.f
  repeat' first
      | (with_reducible exact ih0 _ _ _ _ _)
      | (with_reducible exact ih1 _ _ _ _ _)
      | (with_reducible exact spec_PairKey.mono _ _ _ _)
      | (with_reducible exact spec_l02Mac.mono _ _ _)
      | (with_reducible exact LeO.refl _)
      | (with_reducible exact LeO.none _)
      | (with_reducible refine LeO.ite ?_ ?_)
      | (with_reducible refine LeO.bind ?_ (fun _ => ?_))
      | exact ih0 _ _ _ _ _
      | exact ih1 _ _ _ _ _
      | exact spec_PairKey.mono _ _ _ _
      | exact spec_l02Mac.mono _ _ _
      | exact LeO.none _
      | refine LeO.ite ?_ ?_
      | refine LeO.bind ?_ (fun _ => ?_)
set_option maxHeartbeats 60000000 in
set_option maxRecDepth 100000 in
theorem spec_Vector.calls (k : Nat) (a0 : ByteArray) (a1 : Int) (a2 : ByteArray) (r : List ByteArray) (w : World) (h : spec_Vector.f k a0 a1 a2 = some r) :
    Calls Tryd.prog 9 #[.string a0, .int .i64 a1, .string a2] w fun e w' => ∃ v0_ : Value, e = .returned (v0_) ∧ Kd.R Kd.string 9 w' w.heap.size (fun _ => True) v0_ r ∧ Below w.heap.size w w' := by
 have HB := AM (Below.refl w.heap.size w)
 have H : ((some (([] : List ByteArray) : List ByteArray)).bind fun y101 => (if (a2.size : Int) > 20000 then (spec_Vector.j0 k a0 a1 a2 y101 true) else (if (a0.size : Int) < 1 then (spec_Vector.j0 k a0 a1 a2 y101 true) else (if (a0.size : Int) > 60 then (spec_Vector.j0 k a0 a1 a2 y101 true) else ((spec_l09Who.f a1).bind fun t104 => (spec_Vector.j0 k a0 a1 a2 y101 (!t104))))))) = some r := h
 clear h
 obtain ⟨y101, hy101⟩ : ∃ y_ : List ByteArray, y_ = (([] : List ByteArray)) := ⟨_, rfl⟩
 replace H : (if (a2.size : Int) > 20000 then (spec_Vector.j0 k a0 a1 a2 y101 true) else (if (a0.size : Int) < 1 then (spec_Vector.j0 k a0 a1 a2 y101 true) else (if (a0.size : Int) > 60 then (spec_Vector.j0 k a0 a1 a2 y101 true) else ((spec_l09Who.f a1).bind fun t104 => (spec_Vector.j0 k a0 a1 a2 y101 (!t104)))))) = some r := by first | (rw [hy101]; with_reducible exact H) | (have H2_ := (Option.bind_some _ _).symm.trans H; rw [hy101]; with_reducible exact H2_) | (have H2_ := (Option.bind_some _ _).symm.trans H; with_reducible exact H2_) | with_reducible exact H | (rw [hy101]; exact H) | exact H
 have Ny101 := AM hy101
 clear hy101
 have HC4 := AM H
 clear H
 go_enter Tryd.func9, Tryd.ntmps9
 go_upto_region 2 with (first | ((with_reducible refine gate_dst (N := 9) rfl ?_); (try (refine gate_guard (by rfl) ?_; dsimp only)); refine Kd.R_lit Kd.string _ 9 ?hg (N := 9) ?hd (xs := ([] : List ByteArray)) (inner := []) (ok := fun _ => True) (okp := fun _ => True) ?hr ?hp (fun _ hk => hk) trivial (Below.refl _ _) (Nat.le_refl _) (by simp) ?_; (case hd => rfl); (case hg => rfl); (case hr => first | (go_simp; done) | (go_simp; rfl)); (case hp => exact (Reps.none _ _)); intro v102 w5 ho6 hb hg_ hnew_; clear hg_ hnew_; (first | rw [← Ny101.out] at ho6 | (simp only [Int.reduceToNat] at ho6; rw [← Ny101.out] at ho6)); have _ := AM (Kd.R_lower ho6 (bZ (bX HB.out))); have _ := AM (below_step (bX HB.out) hb); clear HB; rename_i HO103 HB; clear hb ho6))
 (try simp only [Act.put, List.setIfInBounds_toArray, List.set_cons_zero, List.set_cons_succ])
 go_cut [27] (fun v27 wc => ∃ (kq : Nat) (x27_3 : Bool), v27 = .bool x27_3 ∧ Aside0 (spec_Vector.j0 kq a0 a1 a2 y101 x27_3 = some r) ∧ Aside0 (kq ≤ k) ∧ Aside0 (Kd.R Kd.string 9 wc w.heap.size (fun _ => True) v102 y101) ∧ Aside0 (Below w.heap.size w wc))
 case first =>
  have H := HC4.out
  clear HC4
  by_cases c7 : (a2.size : Int) > 20000
  ·
   rw [if_pos c7] at H
   have c7b0 : decide (20000 < (a2.size : Int)) = true := decide_eq_true c7
   have c7b1 : decide (20000 < a2.size) = true := decide_eq_true (by omega)
   clear c7
   (first | rw [c7b0] | (simp only [i64_w, i32_w]; rw [c7b0]) | skip)
   have H' := AM H
   clear H
   go_wp2
   go_meet
   case rel => exact ⟨_, (true), (by first | rfl | (simp; done) | (simp [*]; done)), H', ⟨by first | omega | exact Nat.le_refl _⟩, ⟨rX HO103.out⟩, ⟨bX HB.out⟩⟩
  rw [if_neg c7] at H
  have c7b0 : decide (20000 < (a2.size : Int)) = false := decide_eq_false c7
  have c7b1 : decide (20000 < a2.size) = false := decide_eq_false (by omega)
  clear c7
  (first | rw [c7b0] | (simp only [i64_w, i32_w]; rw [c7b0]) | skip)
  by_cases c8 : (a0.size : Int) < 1
  ·
   rw [if_pos c8] at H
   have c8b0 : decide ((a0.size : Int) < 1) = true := decide_eq_true c8
   have c8b1 : decide (a0.size < 1) = true := decide_eq_true (by omega)
   clear c8
   have H' := AM H
   clear H
   go_wp2
   go_meet
   case rel => exact ⟨_, (true), (by first | rfl | (simp; done) | (simp [*]; done)), H', ⟨by first | omega | exact Nat.le_refl _⟩, ⟨rX HO103.out⟩, ⟨bX HB.out⟩⟩
  rw [if_neg c8] at H
  have c8b0 : decide ((a0.size : Int) < 1) = false := decide_eq_false c8
  have c8b1 : decide (a0.size < 1) = false := decide_eq_false (by omega)
  clear c8
  by_cases c9 : (a0.size : Int) > 60
  ·
   rw [if_pos c9] at H
   have c9b0 : decide (60 < (a0.size : Int)) = true := decide_eq_true c9
   have c9b1 : decide (60 < a0.size) = true := decide_eq_true (by omega)
   clear c9
   have H' := AM H
   clear H
   go_wp2
   go_meet
   case rel => exact ⟨_, (true), (by first | rfl | (simp; done) | (simp [*]; done)), H', ⟨by first | omega | exact Nat.le_refl _⟩, ⟨rX HO103.out⟩, ⟨bX HB.out⟩⟩
  rw [if_neg c9] at H
  have c9b0 : decide (60 < (a0.size : Int)) = false := decide_eq_false c9
  have c9b1 : decide (60 < a0.size) = false := decide_eq_false (by omega)
  clear c9
  replace H := Option.bind_eq_some_iff.mp H
  obtain ⟨t104, A100, H⟩ := H
  replace H : (spec_Vector.j0 k a0 a1 a2 y101 (!t104)) = some r := H
  have A10 := AM A100
  clear A100
  have H' := AM H
  clear H
  go_wp2_with (first | (go_at_call 28; (with_reducible refine (spec_l09Who.calls a1 t104 _ A10.out).mono ?_); rintro e w' ⟨rfl, ⟨nd, rfl⟩⟩))
  go_meet
  case rel => exact ⟨_, (!t104), (by first | rfl | (simp; done) | (simp [*]; done)), H', ⟨by first | omega | exact Nat.le_refl _⟩, ⟨rX HO103.out⟩, ⟨bX HB.out⟩⟩
 case rest =>
  clear HC4
  (try clear p2); (try clear c7); (try clear c7b0); (try clear c7b1); (try clear c8); (try clear c8b0); (try clear c8b1); (try clear c9); (try clear c9b0); (try clear c9b1)
  obtain ⟨kq, x27_3, rfl, HA, HJ3, HO_7, HB⟩ := hcut
  cases kq with
  | zero => exact absurd HA.out (by simp [spec_Vector.j0])
  | succ kj3 =>
   have H := HA.out
   clear HA
   simp only [spec_Vector.j0] at H
   by_cases c11 : x27_3 = true
   ·
    subst c11
    have H1 : (some y101) = some r := by rw [if_pos rfl] at H; exact H
    clear H
    have H := H1
    clear H1
    obtain rfl := Option.some.inj H
    go_wp2
    go_ret
    exact ⟨_, by first | rfl | (simp [*, errW_none, errW_some] <;> rfl), rX HO_7.out, bX HB.out⟩
   replace c11 := Bool.eq_false_iff.mpr c11
   subst c11
   have H1 : (spec_Vector.l0 kj3 a0 a1 a2 y101 0) = some r := by rw [if_neg (show ¬ (false = true) by decide)] at H; exact H
   clear H
   have H := H1
   clear H1
   have H' := AM H
   clear H
   go_wp2
   go_loopg [7, 8] kj3 (fun kq v7 v8 w' => ∃ (x7_2 : List ByteArray) (x8_2 : Int), v8 = .int .i64 x8_2 ∧ Aside0 (spec_Vector.l0 kq a0 a1 a2 x7_2 x8_2 = some r) ∧ Aside0 (kq ≤ kj3) ∧ Aside0 (Kd.R Kd.string 9 w' w.heap.size (fun _ => True) v7 x7_2) ∧ Aside0 (Below w.heap.size w w'))
   case atStart => exact ⟨(y101), (0), (by first | rfl | (simp; done) | (simp [*]; done)), H', ⟨Nat.le_refl _⟩, ⟨rX HO_7.out⟩, ⟨bX HB.out⟩⟩
   case round =>
    clear H'
    (try clear c1); (try clear p2); (try clear c7); (try clear c7b0); (try clear c7b1); (try clear c8); (try clear c8b0); (try clear c8b1); (try clear c9); (try clear c9b0); (try clear c9b1); (try clear c11)
    obtain ⟨x7_2, x8_2, rfl, HA, HK2, HO_7, HB⟩ := hrel
    cases gk with
    | zero => exact absurd HA.out (by simp [spec_Vector.l0])
    | succ k2 =>
     have H := HA.out
     clear HA
     simp only [spec_Vector.l0] at H
     by_cases c12 : x8_2 < 4
     ·
      rw [if_pos c12] at H
      have c12b0 : decide (x8_2 < 4) = true := decide_eq_true c12
      clear c12
      by_cases c13 : x8_2 = a1
      ·
       rw [if_pos c13] at H
       have c13b0 : (x8_2 == a1) = true := beq_iff_eq.mpr c13
       have c13b1 : (x8_2 != a1) = false := bne_eq_false_iff_eq.mpr c13
       clear c13
       by_cases c14 : x7_2.length < 8796093022208
       ·
        rw [if_pos c14] at H
        have LMc14 := AM c14
        clear c14
        obtain ⟨y105, hy105⟩ : ∃ y_ : List ByteArray, y_ = (x7_2 ++ [(⟨#[]⟩ : ByteArray)]) := ⟨_, rfl⟩
        replace H : (spec_Vector.l0 k2 a0 a1 a2 y105 (wrap64 (x8_2 + 1))) = some r := by first | (rw [hy105]; with_reducible exact H) | (have H2_ := (Option.bind_some _ _).symm.trans H; rw [hy105]; with_reducible exact H2_) | (have H2_ := (Option.bind_some _ _).symm.trans H; with_reducible exact H2_) | with_reducible exact H | (rw [hy105]; exact H) | exact H
        have Ny105 := AM hy105
        clear hy105
        have H' := AM H
        clear H
        go_wp2_with (first | ((with_reducible refine gate_builtin (b := .append) (xs := #[.tmp 36, .tmp 37]) rfl ?_); (try (refine gate_guard (by rfl) ?_; dsimp only)); at_builtin; refine Kd.R_append Kd.string (w0 := w) w.heap.size rfl (.tmp 36) (.tmp 37) 24 9 (.string ⟨#[]⟩) 16 rfl Tryd.underlying24 info9 rfl (by decide) (by omega) u7 x7_2 (⟨#[]⟩ : ByteArray) [.string (⟨#[]⟩ : ByteArray)] (fun _ => True) (fun _ => False) rfl rfl ?aP (fun _ hk => hk.elim) ?aF ?aO ?aB ?aS ?aL ?_; (case aP => exact rfl); (case aB => exact (bX HB.out)); (case aF => exact (fun _ _ => trivial)); (case aO => exact (rX HO_7.out)); (case aS => exact (bZ (bX HB.out))); (case aL => have := LMc14.out; omega); intro v106 w15 ho hb hg hat; rw [← Ny105.out] at ho; have _ := AM (hb); have _ := AM (ho); clear HB HO_7; rename_i HB HO107; clear ho hb hg hat))
        go_roundg k2
        case measure => have := HJ3.out; have := HK2.out; omega
        case rel => exact ⟨(y105), (wrap64 (x8_2 + 1)), (by first | rfl | (simp; done) | (simp [*]; done)), H', ⟨by have := HJ3.out; have := HK2.out; omega⟩, ⟨rX HO107.out⟩, ⟨bX HB.out⟩⟩
       rw [if_neg c14] at H
       exact absurd H (by simp)
      rw [if_neg c13] at H
      have c13b0 : (x8_2 == a1) = false := beq_eq_false_iff_ne.mpr c13
      have c13b1 : (x8_2 != a1) = true := bne_iff_ne.mpr c13
      replace H := Option.bind_eq_some_iff.mp H
      obtain ⟨t108, A160, H⟩ := H
      replace H : ((spec_l02Mac.f k2 t108 a2).bind fun t109 => (if 0 ≤ 8 then (if 8 ≤ (t109.size : Int) then (if x7_2.length < 8796093022208 then (spec_Vector.l0 k2 a0 a1 a2 (x7_2 ++ [t109.extract 0 8]) (wrap64 (x8_2 + 1))) else (none)) else (none)) else (none))) = some r := H
      have A16 := AM A160
      clear A160
      replace H := Option.bind_eq_some_iff.mp H
      obtain ⟨t109, A170, H⟩ := H
      replace H : (if 0 ≤ 8 then (if 8 ≤ (t109.size : Int) then (if x7_2.length < 8796093022208 then (spec_Vector.l0 k2 a0 a1 a2 (x7_2 ++ [t109.extract 0 8]) (wrap64 (x8_2 + 1))) else (none)) else (none)) else (none)) = some r := H
      have A17 := AM A170
      clear A170
      by_cases c18 : 0 ≤ 8
      ·
       rw [if_pos c18] at H
       have c18b0 := eq_true c18
       have c18b1 : decide (0 ≤ 8) = true := decide_eq_true c18
       clear c18
       by_cases c19 : 8 ≤ (t109.size : Int)
       ·
        rw [if_pos c19] at H
        have c19b0 := eq_true c19
        have c19b1 : decide (8 ≤ (t109.size : Int)) = true := decide_eq_true c19
        clear c19
        by_cases c20 : x7_2.length < 8796093022208
        ·
         rw [if_pos c20] at H
         have LMc20 := AM c20
         clear c20
         obtain ⟨y110, hy110⟩ : ∃ y_ : List ByteArray, y_ = (x7_2 ++ [t109.extract 0 8]) := ⟨_, rfl⟩
         replace H : (spec_Vector.l0 k2 a0 a1 a2 y110 (wrap64 (x8_2 + 1))) = some r := by first | (rw [hy110]; with_reducible exact H) | (have H2_ := (Option.bind_some _ _).symm.trans H; rw [hy110]; with_reducible exact H2_) | (have H2_ := (Option.bind_some _ _).symm.trans H; with_reducible exact H2_) | with_reducible exact H | (rw [hy110]; exact H) | exact H
         have Ny110 := AM hy110
         clear hy110
         have H' := AM H
         clear H
         go_wp2_with (first | ((with_reducible refine gate_callee (f := 7) rfl ?_); refine goesL_ (some 43) rfl rfl Tryd.func7 (by kernel_rfl) rfl #[.string a0, .int .i64 a1, .int .i64 x8_2] rfl (by (try simp only [mA, mB, mC]); first | done | rfl | (simp only [mD, mE]; rfl)) ?_; (with_reducible refine (spec_PairKey.calls k2 a0 a1 x8_2 t108 _ A16.out).mono ?_); rintro e w21 ⟨rfl, hb⟩; refine ⟨_, rfl, ?_⟩; have _ := AM (Kd.R_below (rX HO_7.out) hb); have _ := AM (below_step (bX HB.out) hb); clear HO_7 HB; rename_i HO_7 HB; (try clear hb); (try clear hk)) | ((with_reducible refine gate_callee (f := 36) rfl ?_); refine goesL_ (some 45) rfl rfl Tryd.func36 (by kernel_rfl) rfl #[.string t108, .string a2] rfl (by (try simp only [mA, mB, mC]); first | done | rfl | (simp only [mD, mE]; rfl)) ?_; (with_reducible refine (spec_l02Mac.calls k2 t108 a2 t109 _ A17.out).mono ?_); rintro e w22 ⟨rfl, hb⟩; refine ⟨_, rfl, ?_⟩; have _ := AM (Kd.R_below (rX HO_7.out) hb); have _ := AM (below_step (bX HB.out) hb); clear HO_7 HB; rename_i HO_7 HB; (try clear hb); (try clear hk)) | ((with_reducible refine gate_builtin (b := .append) (xs := #[.tmp 39, .tmp 47]) rfl ?_); (try (refine gate_guard (by rfl) ?_; dsimp only)); at_builtin; refine Kd.R_append Kd.string (w0 := w) w.heap.size rfl (.tmp 39) (.tmp 47) 24 9 (.string ⟨#[]⟩) 16 rfl Tryd.underlying24 info9 rfl (by decide) (by omega) u7 x7_2 (t109.extract 0 8) [.string (t109.extract 0 8)] (fun _ => True) (fun _ => False) rfl rfl ?aP (fun _ hk => hk.elim) ?aF ?aO ?aB ?aS ?aL ?_; (case aP => exact rfl); (case aB => exact (bX HB.out)); (case aF => exact (fun _ _ => trivial)); (case aO => exact (rX HO_7.out)); (case aS => exact (bZ (bX HB.out))); (case aL => have := LMc20.out; omega); intro v111 w23 ho hb hg hat; rw [← Ny110.out] at ho; have _ := AM (hb); have _ := AM (ho); clear HB HO_7; rename_i HB HO112; clear ho hb hg hat))
         go_roundg k2
         case measure => have := HJ3.out; have := HK2.out; omega
         case rel => exact ⟨(y110), (wrap64 (x8_2 + 1)), (by first | rfl | (simp; done) | (simp [*]; done)), H', ⟨by have := HJ3.out; have := HK2.out; omega⟩, ⟨rX HO112.out⟩, ⟨bX HB.out⟩⟩
        rw [if_neg c20] at H
        exact absurd H (by simp)
       rw [if_neg c19] at H
       exact absurd H (by simp)
      rw [if_neg c18] at H
      exact absurd H (by simp)
     rw [if_neg c12] at H
     have c12b0 : decide (x8_2 < 4) = false := decide_eq_false c12
     clear c12
     obtain rfl := Option.some.inj H
     go_wp2
     go_ret
     exact ⟨_, by first | rfl | (simp [*, errW_none, errW_some] <;> rfl), rX HO_7.out, bX HB.out⟩

end Go.Proofs.YtgpgamapopnfcaaDoor.Q
