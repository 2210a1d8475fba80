/- Printed by a program of this session (wip/mp.py over the kit's print.py): functions of the translation as plain Lean functions, and that the machine's calls do what these say. -/
import Derived.Test.YtmaliehmbodioaaQx0
import Derived.Test.YtmaliehmbodioaaQx2
namespace Go.Proofs.Ytmaliehmbodioaa.Q
open Go.RowKit Go.Proofs.Ytmaliehmbodioaa.HB Go.Proofs.YtmaliehmbodioaaW.PrintWords Go.Proofs.YtmaliehmbodioaaW.PrintLast Go.Proofs.YtmaliehmbodioaaW.PrintMore
attribute [local go_sem] max2_int min2_int max_two min_two max_three min_three max_four min_four   -- for this text's walks alone
set_option linter.unusedVariables false
set_option linter.unusedSimpArgs false

/-! ### spec_l12Wanted: function 40 -/

mutual
def spec_l12Wanted.l0 : Nat → List (S26) → List (S67) → Int → Int → Option ((List (S67)))
  | 0, _, _, _, _ => none
  | k + 1, x0, x3, x4, x5 => if x5 < (x0.length : Int) then (spec_l12Wanted.l1 k x0 x3 x4 x5 0) else (spec_l12Wanted.l2 k x0 x3 x4 1)
def spec_l12Wanted.l1 : Nat → List (S26) → List (S67) → Int → Int → Int → Option ((List (S67)))
  | 0, _, _, _, _, _ => none
  | k + 1, x0, x3, x4, x5, x6 => if 0 ≤ x5 then (if x5 < (x0.length : Int) then (if x6 < (((rd_T26 x0 x5).f2).length : Int) then (if 0 ≤ x6 then ((spec_l01Max.f x4 ((rd_T72 ((rd_T26 x0 x5).f2) x6).f1)).bind fun t107 => (spec_l12Wanted.l1 k x0 x3 t107 x5 (wrap64 (x6 + 1)))) else (none)) else (spec_l12Wanted.l0 k x0 x3 x4 (wrap64 (x5 + 1)))) else (none)) else (none)
def spec_l12Wanted.l2 : Nat → List (S26) → List (S67) → Int → Int → Option ((List (S67)))
  | 0, _, _, _, _ => none
  | k + 1, x0, x3, x4, x7 => if x7 ≤ x4 then (spec_l12Wanted.l3 k x0 x3 x4 x7 0 (-1) 0 (⟨#[]⟩ : ByteArray) ([] : List Int)) else (some x3)
def spec_l12Wanted.l3 : Nat → List (S26) → List (S67) → Int → Int → Int → Int → Int → ByteArray → List Int → Option ((List (S67)))
  | 0, _, _, _, _, _, _, _, _, _ => none
  | k + 1, x0, x3, x4, x7, x9, x109000, x109001, x109002, x109003 => if x9 < (x0.length : Int) then (spec_l12Wanted.l4 k x0 x3 x4 x7 x9 0 x109000 x109001 x109002 x109003) else (if x3.length < 5864062014805 then (spec_l12Wanted.l2 k x0 (x3 ++ [(⟨x7, x109002⟩ : S67)]) x4 (wrap64 (x7 + 1))) else (none))
def spec_l12Wanted.l4 : Nat → List (S26) → List (S67) → Int → Int → Int → Int → Int → Int → ByteArray → List Int → Option ((List (S67)))
  | 0, _, _, _, _, _, _, _, _, _, _ => none
  | k + 1, x0, x3, x4, x7, x9, x10, x109000, x109001, x109002, x109003 => if 0 ≤ x9 then (if x9 < (x0.length : Int) then (if x10 < (((rd_T26 x0 x9).f2).length : Int) then (if 0 ≤ x10 then (if ((rd_T72 ((rd_T26 x0 x9).f2) x10).f1) = x7 then (if ((rd_T72 ((rd_T26 x0 x9).f2) x10).f0) > x109000 then (spec_l12Wanted.l4 k x0 x3 x4 x7 x9 (wrap64 (x10 + 1)) ((rd_T72 ((rd_T26 x0 x9).f2) x10).f0) ((rd_T72 ((rd_T26 x0 x9).f2) x10).f1) ((rd_T72 ((rd_T26 x0 x9).f2) x10).f2) ((rd_T72 ((rd_T26 x0 x9).f2) x10).f3)) else (spec_l12Wanted.l4 k x0 x3 x4 x7 x9 (wrap64 (x10 + 1)) x109000 x109001 x109002 x109003)) else (spec_l12Wanted.l4 k x0 x3 x4 x7 x9 (wrap64 (x10 + 1)) x109000 x109001 x109002 x109003)) else (none)) else (spec_l12Wanted.l3 k x0 x3 x4 x7 (wrap64 (x9 + 1)) x109000 x109001 x109002 x109003)) else (none)) else (none)
end
def spec_l12Wanted.f (k : Nat) (l0 : List (S26)) : Option ((List (S67))) := spec_l12Wanted.l0 k l0 (([] : List (S67))) 0 0
theorem spec_l12Wanted.mono_l : ∀ k, (∀ y0 y1 y2 y3, LeO (spec_l12Wanted.l0 k y0 y1 y2 y3) (spec_l12Wanted.l0 (k + 1) y0 y1 y2 y3)) ∧ (∀ y0 y1 y2 y3 y4, LeO (spec_l12Wanted.l1 k y0 y1 y2 y3 y4) (spec_l12Wanted.l1 (k + 1) y0 y1 y2 y3 y4)) ∧ (∀ y0 y1 y2 y3, LeO (spec_l12Wanted.l2 k y0 y1 y2 y3) (spec_l12Wanted.l2 (k + 1) y0 y1 y2 y3)) ∧ (∀ y0 y1 y2 y3 y4 y5 y6 y7 y8, LeO (spec_l12Wanted.l3 k y0 y1 y2 y3 y4 y5 y6 y7 y8) (spec_l12Wanted.l3 (k + 1) y0 y1 y2 y3 y4 y5 y6 y7 y8)) ∧ (∀ y0 y1 y2 y3 y4 y5 y6 y7 y8 y9, LeO (spec_l12Wanted.l4 k y0 y1 y2 y3 y4 y5 y6 y7 y8 y9) (spec_l12Wanted.l4 (k + 1) y0 y1 y2 y3 y4 y5 y6 y7 y8 y9))
  | 0 => ⟨fun _ _ _ _ r h => by simp [spec_l12Wanted.l0] at h, fun _ _ _ _ _ r h => by simp [spec_l12Wanted.l1] at h, fun _ _ _ _ r h => by simp [spec_l12Wanted.l2] at h, fun _ _ _ _ _ _ _ _ _ r h => by simp [spec_l12Wanted.l3] at h, fun _ _ _ _ _ _ _ _ _ _ r h => by simp [spec_l12Wanted.l4] at h⟩
  | k + 1 => by
    obtain ⟨ih0, ih1, ih2, ih3, ih4⟩ := spec_l12Wanted.mono_l k
    refine ⟨?_, ?_, ?_, ?_, ?_⟩
    · intro y0 y1 y2 y3
      unfold spec_l12Wanted.l0
      repeat' first
      | (with_reducible exact ih0 _ _ _ _)
      | (with_reducible exact ih1 _ _ _ _ _)
      | (with_reducible exact ih2 _ _ _ _)
      | (with_reducible exact ih3 _ _ _ _ _ _ _ _ _)
      | (with_reducible exact ih4 _ _ _ _ _ _ _ _ _ _)
      | (with_reducible exact LeO.refl _)
      | (with_reducible exact LeO.none _)
      | (with_reducible refine LeO.ite ?_ ?_)
      | (with_reducible refine LeO.bind ?_ (fun _ => ?_))
      | exact ih0 _ _ _ _
      | exact ih1 _ _ _ _ _
      | exact ih2 _ _ _ _
      | exact ih3 _ _ _ _ _ _ _ _ _
      | exact ih4 _ _ _ _ _ _ _ _ _ _
      | exact LeO.none _
      | refine LeO.ite ?_ ?_
      | refine LeO.bind ?_ (fun _ => ?_)
    · intro y0 y1 y2 y3 y4
      unfold spec_l12Wanted.l1
      repeat' first
      | (with_reducible exact ih0 _ _ _ _)
      | (with_reducible exact ih1 _ _ _ _ _)
      | (with_reducible exact ih2 _ _ _ _)
      | (with_reducible exact ih3 _ _ _ _ _ _ _ _ _)
      | (with_reducible exact ih4 _ _ _ _ _ _ _ _ _ _)
      | (with_reducible exact LeO.refl _)
      | (with_reducible exact LeO.none _)
      | (with_reducible refine LeO.ite ?_ ?_)
      | (with_reducible refine LeO.bind ?_ (fun _ => ?_))
      | exact ih0 _ _ _ _
      | exact ih1 _ _ _ _ _
      | exact ih2 _ _ _ _
      | exact ih3 _ _ _ _ _ _ _ _ _
      | exact ih4 _ _ _ _ _ _ _ _ _ _
      | exact LeO.none _
      | refine LeO.ite ?_ ?_
      | refine LeO.bind ?_ (fun _ => ?_)
    · intro y0 y1 y2 y3
      unfold spec_l12Wanted.l2
      repeat' first
      | (with_reducible exact ih0 _ _ _ _)
      | (with_reducible exact ih1 _ _ _ _ _)
      | (with_reducible exact ih2 _ _ _ _)
      | (with_reducible exact ih3 _ _ _ _ _ _ _ _ _)
      | (with_reducible exact ih4 _ _ _ _ _ _ _ _ _ _)
      | (with_reducible exact LeO.refl _)
      | (with_reducible exact LeO.none _)
      | (with_reducible refine LeO.ite ?_ ?_)
      | (with_reducible refine LeO.bind ?_ (fun _ => ?_))
      | exact ih0 _ _ _ _
      | exact ih1 _ _ _ _ _
      | exact ih2 _ _ _ _
      | exact ih3 _ _ _ _ _ _ _ _ _
      | exact ih4 _ _ _ _ _ _ _ _ _ _
      | exact LeO.none _
      | refine LeO.ite ?_ ?_
      | refine LeO.bind ?_ (fun _ => ?_)
    · intro y0 y1 y2 y3 y4 y5 y6 y7 y8
      unfold spec_l12Wanted.l3
      repeat' first
      | (with_reducible exact ih0 _ _ _ _)
      | (with_reducible exact ih1 _ _ _ _ _)
      | (with_reducible exact ih2 _ _ _ _)
      | (with_reducible exact ih3 _ _ _ _ _ _ _ _ _)
      | (with_reducible exact ih4 _ _ _ _ _ _ _ _ _ _)
      | (with_reducible exact LeO.refl _)
      | (with_reducible exact LeO.none _)
      | (with_reducible refine LeO.ite ?_ ?_)
      | (with_reducible refine LeO.bind ?_ (fun _ => ?_))
      | exact ih0 _ _ _ _
      | exact ih1 _ _ _ _ _
      | exact ih2 _ _ _ _
      | exact ih3 _ _ _ _ _ _ _ _ _
      | exact ih4 _ _ _ _ _ _ _ _ _ _
      | exact LeO.none _
      | refine LeO.ite ?_ ?_
      | refine LeO.bind ?_ (fun _ => ?_)
    · intro y0 y1 y2 y3 y4 y5 y6 y7 y8 y9
      unfold spec_l12Wanted.l4
      repeat' first
      | (with_reducible exact ih0 _ _ _ _)
      | (with_reducible exact ih1 _ _ _ _ _)
      | (with_reducible exact ih2 _ _ _ _)
      | (with_reducible exact ih3 _ _ _ _ _ _ _ _ _)
      | (with_reducible exact ih4 _ _ _ _ _ _ _ _ _ _)
      | (with_reducible exact LeO.refl _)
      | (with_reducible exact LeO.none _)
      | (with_reducible refine LeO.ite ?_ ?_)
      | (with_reducible refine LeO.bind ?_ (fun _ => ?_))
      | exact ih0 _ _ _ _
      | exact ih1 _ _ _ _ _
      | exact ih2 _ _ _ _
      | exact ih3 _ _ _ _ _ _ _ _ _
      | exact ih4 _ _ _ _ _ _ _ _ _ _
      | exact LeO.none _
      | refine LeO.ite ?_ ?_
      | refine LeO.bind ?_ (fun _ => ?_)
theorem spec_l12Wanted.mono : ∀ a0 k, LeO (spec_l12Wanted.f k a0) (spec_l12Wanted.f (k + 1) a0) := by
  intro a0 k
  obtain ⟨ih0, ih1, ih2, ih3, ih4⟩ := spec_l12Wanted.mono_l k
  unfold spec_l12Wanted.f
  repeat' first
      | (with_reducible exact ih0 _ _ _ _)
      | (with_reducible exact ih1 _ _ _ _ _)
      | (with_reducible exact ih2 _ _ _ _)
      | (with_reducible exact ih3 _ _ _ _ _ _ _ _ _)
      | (with_reducible exact ih4 _ _ _ _ _ _ _ _ _ _)
      | (with_reducible exact LeO.refl _)
      | (with_reducible exact LeO.none _)
      | (with_reducible refine LeO.ite ?_ ?_)
      | (with_reducible refine LeO.bind ?_ (fun _ => ?_))
      | exact ih0 _ _ _ _
      | exact ih1 _ _ _ _ _
      | exact ih2 _ _ _ _
      | exact ih3 _ _ _ _ _ _ _ _ _
      | exact ih4 _ _ _ _ _ _ _ _ _ _
      | exact LeO.none _
      | refine LeO.ite ?_ ?_
      | refine LeO.bind ?_ (fun _ => ?_)
set_option maxHeartbeats 60000000 in
set_option maxRecDepth 100000 in
theorem spec_l12Wanted.calls (k : Nat) (P0_ : Nat → Prop) (A0 : Option Addr) (c0 : Nat) (l0 : List (S26)) (r : List (S67)) (w : World) (hs0 : Kd.V k26 26 w w.heap.size (fun k_ => P0_ k_) (.slice A0 l0.length c0) l0) (h : spec_l12Wanted.f k l0 = some r) :
    Calls Try.prog 40 #[.slice A0 l0.length c0] w fun e w' => ∃ v0_ : Value, e = .returned (v0_) ∧ Kd.R k67 67 w' w.heap.size (fun k_ => (w.heap.size ≤ k_)) v0_ r ∧ Below w.heap.size w w' := by
 have hu72 := Try.underlying72
 have hu67 := Try.underlying67
 have HO0 := AM (show Kd.V k26 26 w w.heap.size (fun k_ => (P0_ k_ ∨ w.heap.size ≤ k_)) (.slice A0 l0.length c0) l0 from Kd.V_mono hs0 (fun k_ hk => .inl hk))
 have HB := AM (Below.refl w.heap.size w)
 have H : (spec_l12Wanted.l0 k l0 (([] : List (S67))) 0 0) = some r := h
 clear h
 obtain ⟨y101, hy101⟩ : ∃ y_ : List (S67), y_ = (([] : List (S67))) := ⟨_, rfl⟩
 replace H : (spec_l12Wanted.l0 k l0 y101 0 0) = some r := by first | (rw [hy101]; with_reducible exact H) | (have H2_ := (Option.bind_some _ _).symm.trans H; rw [hy101]; with_reducible exact H2_) | (have H2_ := (Option.bind_some _ _).symm.trans H; with_reducible exact H2_) | with_reducible exact H | (rw [hy101]; exact H) | exact H
 have Ny101 := AM hy101
 clear hy101
 have H' := AM H
 clear H
 go_enter Try.func40, Try.ntmps40
 go_wp2_with (first | ((with_reducible refine gate_dst (N := 12) rfl ?_); refine Kd.R_lit k67 _ 67 ?hg (N := 12) ?hd (xs := ([] : List (S67))) (inner := []) (ok := fun _ => True) (okp := fun _ => True) ?hr ?hp (fun _ hk => hk) trivial (Below.refl _ _) (Nat.le_refl _) (by simp) ?_; (case hd => rfl); (case hg => rfl); (case hr => first | (go_simp; done) | (go_simp; rfl)); (case hp => exact (Reps.none _ _)); intro v102 w2 ho3 hb hg_ hnew_; clear hg_ hnew_; (first | rw [← Ny101.out] at ho3 | (simp only [Int.reduceToNat] at ho3; rw [← Ny101.out] at ho3)); have _ := AM (Kd.V_elder' (by (with_reducible repeat (first | apply Kd.V_alloc | apply Kd.V_drewN | apply Kd.V_drew)); exact HO0.out) (Kd.R_base ho3) hb); have _ := AM (Kd.R_lower (Kd.R_newM (M := fun k_ => (w.heap.size ≤ k_)) ho3 (bZ (bX HB.out)) (fun k_ h_ => h_)) (bZ (bX HB.out))); have _ := AM (below_step (bX HB.out) hb); clear HO0 HB; rename_i HO0 HO103 HB; clear hb ho3))
 go_loopg [4, 5] k (fun kq v4 v5 w' => ∃ (x4_1 : Int) (x5_1 : Int), v4 = .int .i64 x4_1 ∧ v5 = .int .i64 x5_1 ∧ Aside0 (spec_l12Wanted.l0 kq l0 y101 x4_1 x5_1 = some r) ∧ Aside0 (kq ≤ k) ∧ Aside0 (Kd.V k26 26 w' w.heap.size (fun k_ => (P0_ k_ ∨ w.heap.size ≤ k_) ∧ some k_ ≠ (v102 : Value).ownBlock) (.slice A0 l0.length c0) l0) ∧ Aside0 (Kd.R k67 67 w' w.heap.size (fun k_ => (w.heap.size ≤ k_)) v102 y101) ∧ Aside0 (Below w.heap.size w w'))
 case atStart => exact ⟨(0), (0), (by first | rfl | (simp; done) | (simp [*]; done)), (by first | rfl | (simp; done) | (simp [*]; done)), H', ⟨Nat.le_refl _⟩, ⟨by (with_reducible repeat (first | apply Kd.V_alloc | apply Kd.V_drewN | apply Kd.V_drew)); exact HO0.out⟩, ⟨by (with_reducible repeat (first | apply rA | apply rN | apply rD)); exact Kd.R_mono HO103.out (fun _ hk => hk.1)⟩, ⟨bX HB.out⟩⟩
 case round =>
  clear H'
  try clear p2
  obtain ⟨x4_1, x5_1, rfl, rfl, HA, HK1, HO_0, HO_3, HB⟩ := hrel
  cases gk with
  | zero => exact absurd HA.out (by simp [spec_l12Wanted.l0])
  | succ k1 =>
   have H := HA.out
   clear HA
   simp only [spec_l12Wanted.l0] at H
   by_cases c4 : x5_1 < (l0.length : Int)
   ·
    rw [if_pos c4] at H
    have c4b0 : decide (x5_1 < (l0.length : Int)) = true := decide_eq_true c4
    clear c4
    have H' := AM H
    clear H
    go_wp2
    go_loopg [4, 6] k1 (fun kq v4 v6 w' => ∃ (x4_2 : Int) (x6_2 : Int), v4 = .int .i64 x4_2 ∧ v6 = .int .i64 x6_2 ∧ Aside0 (spec_l12Wanted.l1 kq l0 y101 x4_2 x5_1 x6_2 = some r) ∧ Aside0 (kq ≤ k1) ∧ Aside0 (Kd.V k26 26 w' w.heap.size (fun k_ => (P0_ k_ ∨ w.heap.size ≤ k_) ∧ some k_ ≠ (v102 : Value).ownBlock) (.slice A0 l0.length c0) l0) ∧ Aside0 (Kd.R k67 67 w' w.heap.size (fun k_ => (w.heap.size ≤ k_)) v102 y101) ∧ Aside0 (Below w.heap.size w w'))
    case atStart => exact ⟨(x4_1), (0), (by first | rfl | (simp; done) | (simp [*]; done)), (by first | rfl | (simp; done) | (simp [*]; done)), H', ⟨Nat.le_refl _⟩, ⟨by (with_reducible repeat (first | apply Kd.V_alloc | apply Kd.V_drewN | apply Kd.V_drew)); exact HO_0.out⟩, ⟨rX HO_3.out⟩, ⟨bX HB.out⟩⟩
    case round =>
     clear H'
     (try clear p2); (try clear c4); (try clear c4b0)
     obtain ⟨x4_2, x6_2, rfl, rfl, HA, HK2, HO_0, HO_3, HB⟩ := hrel
     cases gk with
     | zero => exact absurd HA.out (by simp [spec_l12Wanted.l1])
     | succ k2 =>
      have H := HA.out
      clear HA
      simp only [spec_l12Wanted.l1] at H
      by_cases c5 : 0 ≤ x5_1
      ·
       rw [if_pos c5] at H
       have c5b0 : decide (0 ≤ x5_1) = true := decide_eq_true c5
       clear c5
       by_cases c6 : x5_1 < (l0.length : Int)
       ·
        rw [if_pos c6] at H
        have c6b0 : decide (x5_1 < (l0.length : Int)) = true := decide_eq_true c6
        clear c6
        by_cases c7 : x6_2 < (((rd_T26 l0 x5_1).f2).length : Int)
        ·
         rw [if_pos c7] at H
         have c7b0 : decide (x6_2 < (((rd_T26 l0 x5_1).f2).length : Int)) = true := decide_eq_true c7
         clear c7
         by_cases c8 : 0 ≤ x6_2
         ·
          rw [if_pos c8] at H
          have c8b0 : decide (0 ≤ x6_2) = true := decide_eq_true c8
          clear c8
          replace H := Option.bind_eq_some_iff.mp H
          obtain ⟨t107, A90, H⟩ := H
          replace H : (spec_l12Wanted.l1 k2 l0 y101 t107 x5_1 (wrap64 (x6_2 + 1))) = some r := H
          have A9 := AM A90
          clear A90
          have H' := AM H
          clear H
          have p104 : 0 ≤ (x5_1 : Int) := of_decide_eq_true (by assumption)
          have q104 : x5_1 < (l0.length : Int) := of_decide_eq_true (by assumption)
          obtain ⟨ad104, A104_2, c104_2, e104, hx104_0, hx104_1, hx104_2, hl104_2, hi104_2⟩ := at_T26 (Kd.V_reads' HO_0.out).2.2 x5_1 p104 q104
          cases e104
          obtain ⟨ce104, hce104, hMe104, hcc104⟩ := Kd.V_get HO_0.out z26 x5_1 p104 (by first | exact q104 | exact of_decide_eq_true (by assumption) | (have e_ := (Kd.V_reads' HO_0.out).1; omega))
          obtain ⟨ua104_2, uc104_2, rfl, ul104_2, ge104_2⟩ := k26_openF hMe104
          have hv104_2 := hcc104 2 _ rfl
          rw [add_field _ _ 2 (by omega)] at hv104_2
          replace hv104_2 := Option.some.inj (hv104_2.symm.trans hx104_2)
          injection hv104_2 with hva_ hvn_ hvc_
          rw [hva_] at ge104_2
          rw [hvc_] at ul104_2
          have HL104_2 := AM (show Kd.V k72 72 _ w.heap.size _ _ ((rd_T26 l0 x5_1).f2) from Kd.V_mk ul104_2 ge104_2)
          clear hva_ hvn_ hvc_ ge104_2 ul104_2
          clear hcc104 hce104
          have HR104_2 := AM hi104_2
          have HC104_2 := AM hl104_2
          clear hi104_2 hl104_2
          replace p104 := eq_true p104
          replace q104 := eq_true q104
          have p105 : 0 ≤ (x5_1 : Int) := of_decide_eq_true (by assumption)
          have q105 : x5_1 < (l0.length : Int) := of_decide_eq_true (by assumption)
          obtain ⟨ad105, A105_2, c105_2, e105, hx105_0, hx105_1, hx105_2, hl105_2, hi105_2⟩ := at_T26 (Kd.V_reads' HO_0.out).2.2 x5_1 p105 q105
          obtain rfl : ad104 = ad105 := (by injection e105)
          obtain ⟨ce105, hce105, hMe105, hcc105⟩ := Kd.V_get HO_0.out z26 x5_1 p105 (by first | exact q105 | exact of_decide_eq_true (by assumption) | (have e_ := (Kd.V_reads' HO_0.out).1; omega))
          obtain ⟨ua105_2, uc105_2, rfl, ul105_2, ge105_2⟩ := k26_openF hMe105
          have hv105_2 := hcc105 2 _ rfl
          rw [add_field _ _ 2 (by omega)] at hv105_2
          replace hv105_2 := Option.some.inj (hv105_2.symm.trans hx105_2)
          injection hv105_2 with hva_ hvn_ hvc_
          rw [hva_] at ge105_2
          rw [hvc_] at ul105_2
          have HL105_2 := AM (show Kd.V k72 72 _ w.heap.size _ _ ((rd_T26 l0 x5_1).f2) from Kd.V_mk ul105_2 ge105_2)
          clear hva_ hvn_ hvc_ ge105_2 ul105_2
          clear hcc105 hce105
          have HR105_2 := AM hi105_2
          have HC105_2 := AM hl105_2
          clear hi105_2 hl105_2
          replace p105 := eq_true p105
          replace q105 := eq_true q105
          have ea_ := Option.some.inj (hx104_2.symm.trans hx105_2)
          injection ea_ with ea_ en_ ec_
          subst ea_
          subst ec_
          clear en_
          have p106 : 0 ≤ (x6_2 : Int) := of_decide_eq_true (by assumption)
          have q106 : x6_2 < (((rd_T26 l0 x5_1).f2).length : Int) := of_decide_eq_true (by assumption)
          obtain ⟨ad106, A106_3, c106_3, e106, hx106_0, hx106_1, hx106_2, hx106_3, hl106_3, hi106_3⟩ := at_T72 (by repeat (first | (with_reducible exact HR105_2.out) | (with_reducible first | apply cA | apply cN | apply cD) | exact HR105_2.out)) x6_2 p106 q106
          cases e106
          obtain ⟨ce106, hce106, hMe106, hcc106⟩ := Kd.V_get HL105_2.out z72 x6_2 p106 (by first | exact q106 | exact of_decide_eq_true (by assumption) | (have e_ := (Kd.V_reads' HL105_2.out).1; omega))
          obtain ⟨ua106_3, uc106_3, rfl, ul106_3, ge106_3⟩ := k72_openF hMe106
          have hv106_3 := hcc106 3 _ rfl
          rw [add_field _ _ 3 (by omega)] at hv106_3
          replace hv106_3 := Option.some.inj (hv106_3.symm.trans hx106_3)
          injection hv106_3 with hva_ hvn_ hvc_
          rw [hva_] at ge106_3
          rw [hvc_] at ul106_3
          have HL106_3 := AM (show Kd.V (Kd.int .i64) 2 _ w.heap.size _ _ ((rd_T72 ((rd_T26 l0 x5_1).f2) x6_2).f3) from Kd.V_mk ul106_3 ge106_3)
          clear hva_ hvn_ hvc_ ge106_3 ul106_3
          clear hcc106 hce106
          have HR106_3 := AM hi106_3
          have HC106_3 := AM hl106_3
          clear hi106_3 hl106_3
          replace p106 := eq_true p106
          replace q106 := eq_true q106
          go_wp2_with (first | ((with_reducible refine gate_callee (f := 57) rfl ?_); refine goesL_ (some 39) rfl rfl Try.func57 (by kernel_rfl) rfl #[.int .i64 x4_2, .int .i64 ((rd_T72 ((rd_T26 l0 x5_1).f2) x6_2).f1)] rfl (by (try simp only [mA, mB, mC]); first | done | rfl | (simp only [mD, mE]; rfl)) ?_; (with_reducible refine (spec_l01Max.calls x4_2 ((rd_T72 ((rd_T26 l0 x5_1).f2) x6_2).f1) t107 _ A9.out).mono ?_); rintro e w' ⟨rfl, ⟨nd, rfl⟩⟩; refine ⟨_, rfl, ?_⟩))
          go_roundg k2
          case measure => have := HK1.out; have := HK2.out; omega
          case rel => exact ⟨(t107), (wrap64 (x6_2 + 1)), (by first | rfl | (simp; done) | (simp [*]; done)), (by first | rfl | (simp; done) | (simp [*]; done)), H', ⟨by have := HK1.out; have := HK2.out; omega⟩, ⟨by (with_reducible repeat (first | apply Kd.V_alloc | apply Kd.V_drewN | apply Kd.V_drew)); exact HO_0.out⟩, ⟨rX HO_3.out⟩, ⟨bX HB.out⟩⟩
         rw [if_neg c8] at H
         exact absurd H (by simp)
        rw [if_neg c7] at H
        have c7b0 : decide (x6_2 < (((rd_T26 l0 x5_1).f2).length : Int)) = false := decide_eq_false c7
        clear c7
        have H' := AM H
        clear H
        have p104 : 0 ≤ (x5_1 : Int) := of_decide_eq_true (by assumption)
        have q104 : x5_1 < (l0.length : Int) := of_decide_eq_true (by assumption)
        obtain ⟨ad104, A104_2, c104_2, e104, hx104_0, hx104_1, hx104_2, hl104_2, hi104_2⟩ := at_T26 (Kd.V_reads' HO_0.out).2.2 x5_1 p104 q104
        cases e104
        obtain ⟨ce104, hce104, hMe104, hcc104⟩ := Kd.V_get HO_0.out z26 x5_1 p104 (by first | exact q104 | exact of_decide_eq_true (by assumption) | (have e_ := (Kd.V_reads' HO_0.out).1; omega))
        obtain ⟨ua104_2, uc104_2, rfl, ul104_2, ge104_2⟩ := k26_openF hMe104
        have hv104_2 := hcc104 2 _ rfl
        rw [add_field _ _ 2 (by omega)] at hv104_2
        replace hv104_2 := Option.some.inj (hv104_2.symm.trans hx104_2)
        injection hv104_2 with hva_ hvn_ hvc_
        rw [hva_] at ge104_2
        rw [hvc_] at ul104_2
        have HL104_2 := AM (show Kd.V k72 72 _ w.heap.size _ _ ((rd_T26 l0 x5_1).f2) from Kd.V_mk ul104_2 ge104_2)
        clear hva_ hvn_ hvc_ ge104_2 ul104_2
        clear hcc104 hce104
        have HR104_2 := AM hi104_2
        have HC104_2 := AM hl104_2
        clear hi104_2 hl104_2
        replace p104 := eq_true p104
        replace q104 := eq_true q104
        go_wp2
        go_roundg k2
        case measure => have := HK1.out; have := HK2.out; omega
        case rel => exact ⟨(x4_2), (wrap64 (x5_1 + 1)), (by first | rfl | (simp; done) | (simp [*]; done)), (by first | rfl | (simp; done) | (simp [*]; done)), H', ⟨by have := HK1.out; have := HK2.out; omega⟩, ⟨by (with_reducible repeat (first | apply Kd.V_alloc | apply Kd.V_drewN | apply Kd.V_drew)); exact HO_0.out⟩, ⟨rX HO_3.out⟩, ⟨bX HB.out⟩⟩
       rw [if_neg c6] at H
       exact absurd H (by simp)
      rw [if_neg c5] at H
      exact absurd H (by simp)
   rw [if_neg c4] at H
   have c4b0 : decide (x5_1 < (l0.length : Int)) = false := decide_eq_false c4
   clear c4
   have H' := AM H
   clear H
   go_wp2
   go_loopg [3, 7] k1 (fun kq v3 v7 w' => ∃ (x3_2 : List (S67)) (x7_2 : Int), v7 = .int .i64 x7_2 ∧ Aside0 (spec_l12Wanted.l2 kq l0 x3_2 x4_1 x7_2 = some r) ∧ Aside0 (kq ≤ k1) ∧ Aside0 (Kd.V k26 26 w' w.heap.size (fun k_ => (P0_ k_ ∨ w.heap.size ≤ k_) ∧ some k_ ≠ (v3 : Value).ownBlock) (.slice A0 l0.length c0) l0) ∧ Aside0 (Kd.R k67 67 w' w.heap.size (fun k_ => (w.heap.size ≤ k_)) v3 x3_2) ∧ Aside0 (Below w.heap.size w w'))
   case atStart => exact ⟨(y101), (1), (by first | rfl | (simp; done) | (simp [*]; done)), H', ⟨Nat.le_refl _⟩, ⟨by (with_reducible repeat (first | apply Kd.V_alloc | apply Kd.V_drewN | apply Kd.V_drew)); exact HO_0.out⟩, ⟨rX HO_3.out⟩, ⟨bX HB.out⟩⟩
   case round =>
    clear H'
    (try clear c1); (try clear p1); (try clear q1); (try clear hx1); (try clear p2); (try clear c4); (try clear c4b0); (try clear c5); (try clear c5b0); (try clear c6); (try clear c6b0); (try clear p6); (try clear c7); (try clear c7b0); (try clear c8); (try clear c8b0); (try clear hx104_0); (try clear hx104_1); (try clear hx104_2); (try clear hx105_0); (try clear hx105_1); (try clear hx105_2); (try clear hx106_0); (try clear hx106_1); (try clear hx106_2); (try clear hx106_3); (try clear p104); (try clear p105); (try clear p106); (try clear q104); (try clear q105); (try clear q106)
    obtain ⟨x3_2, x7_2, rfl, HA, HK2, HO_0, HO_3, HB⟩ := hrel
    cases gk with
    | zero => exact absurd HA.out (by simp [spec_l12Wanted.l2])
    | succ k2 =>
     have H := HA.out
     clear HA
     simp only [spec_l12Wanted.l2] at H
     by_cases c10 : x7_2 ≤ x4_1
     ·
      rw [if_pos c10] at H
      have c10b0 : decide (x7_2 ≤ x4_1) = true := decide_eq_true c10
      clear c10
      have H' := AM H
      clear H
      go_wp2_with (first | ((with_reducible refine gate_dst (N := 8) rfl ?_); refine box_event (by rfl) (N := 8) (by rfl) (cs := #[.int .i64 0, .int .i64 0, .string (⟨#[]⟩ : ByteArray), .slice none 0 0]) (t := 72) (by first | (go_simp; done) | (go_simp; rfl)) ?_; intro gb108 hg w11 hbox hb; have _ := AM (Kd.V_below (Kd.V_elderB (by (with_reducible repeat (first | apply Kd.V_alloc | apply Kd.V_drewN | apply Kd.V_drew)); exact HO_0.out) gb108 (Nat.le_of_eq hg.symm)) hb); have _ := AM (Kd.R_below (rX HO_3.out) hb); have _ := AM (below_step (bX HB.out) hb); have _ := AM (hbox); have n4_ := AM ((by rw [hg]; exact (bZ (bX HB.out)) : w.heap.size ≤ gb108)); clear HO_0 HO_3 HB; rename_i HO_0 HO_3 HB BK108; have GW108 := n4_; have GE108 := n4_; clear n4_; clear hb hbox hg; have hcz12 := q4 BK108.out; have hfz12 := fZ BK108.out))
      go_loopg [9] k2 (fun kq v9 w' => ∃ (x9_3 : Int) (x109000_3 : Int) (x109001_3 : Int) (x109002_3 : ByteArray) (x109003_3 : List Int) (u109003 : Value), v9 = .int .i64 x9_3 ∧ Aside0 (spec_l12Wanted.l3 kq l0 x3_2 x4_1 x7_2 x9_3 x109000_3 x109001_3 x109002_3 x109003_3 = some r) ∧ Aside0 (kq ≤ k2) ∧ Aside0 (Kd.V k26 26 w' w.heap.size (fun k_ => (P0_ k_ ∨ w.heap.size ≤ k_) ∧ some k_ ≠ (u3 : Value).ownBlock ∧ k_ ≠ gb108) (.slice A0 l0.length c0) l0) ∧ Aside0 (Kd.R k67 67 w' w.heap.size (fun k_ => (w.heap.size ≤ k_)) u3 x3_2) ∧ Aside0 (Kd.V (Kd.int .i64) 2 w' w.heap.size (fun k_ => (P0_ k_ ∨ w.heap.size ≤ k_) ∧ some k_ ≠ (u3 : Value).ownBlock ∧ k_ ≠ gb108) u109003 x109003_3) ∧ Aside0 (w'.heap[gb108]? = some (.cells #[.int .i64 x109000_3, .int .i64 x109001_3, .string x109002_3, u109003] 72 (0, 0))) ∧ Aside0 (Below w.heap.size w w'))
      case atStart => exact ⟨(0), ((-1)), (0), ((⟨#[]⟩ : ByteArray)), (([] : List Int)), (.slice none 0 0), (by first | rfl | (simp; done) | (simp [*]; done)), H', ⟨Nat.le_refl _⟩, ⟨by (with_reducible repeat (first | apply Kd.V_alloc | apply Kd.V_drewN | apply Kd.V_drew)); exact Kd.V_mono (Kd.V_far (p := ⟨gb108, 3, none⟩) (Kd.V_far (p := ⟨gb108, 2, none⟩) (Kd.V_far (p := ⟨gb108, 1, none⟩) (Kd.V_far (p := ⟨gb108, 0, none⟩) (Kd.V_mono HO_0.out (fun k_ hk => (⟨hk, hk.2⟩ : _ ∧ k_ ≠ gb108))) (fun _ hk => hk.2) (.int .i64 (-1))) (fun _ hk => hk.2) (.int .i64 0)) (fun _ hk => hk.2) (.string (⟨#[]⟩ : ByteArray))) (fun _ hk => hk.2) (.slice none 0 0)) (fun _ hk => ⟨hk.1.1.1, ⟨hk.1.1.2, hk.1.2⟩⟩)⟩, ⟨by (with_reducible repeat (first | apply rA | apply rN | apply rD)); exact Rf4 HO_3.out BK108.out (by decide) (fun _ hk => hk.1)⟩, ⟨Kd.V_nil _ _ _ _ _⟩, ⟨by refine kP (cs := #[.int .i64 (-1), .int .i64 0, .string (⟨#[]⟩ : ByteArray), .slice none 0 0]) 3 ?_; refine kP (cs := #[.int .i64 (-1), .int .i64 0, .string (⟨#[]⟩ : ByteArray), .slice none 0 0]) 2 ?_; refine kP (cs := #[.int .i64 (-1), .int .i64 0, .string (⟨#[]⟩ : ByteArray), .slice none 0 0]) 1 ?_; refine kP (cs := #[.int .i64 0, .int .i64 0, .string (⟨#[]⟩ : ByteArray), .slice none 0 0]) 0 ?_; (with_reducible repeat (first | apply kN | apply kD | apply kA)); exact BK108.out⟩, ⟨bX HB.out⟩⟩
      case round =>
       clear H'
       (try clear c1); (try clear p1); (try clear q1); (try clear hx1); (try clear p2); (try clear c4); (try clear c4b0); (try clear c5); (try clear c5b0); (try clear c6); (try clear c6b0); (try clear p6); (try clear c7); (try clear c7b0); (try clear c8); (try clear c8b0); (try clear c10); (try clear c10b0); (try clear p10); (try clear q10); (try clear hx10); (try clear hcz12); (try clear hfz12); (try clear hx104_0); (try clear hx104_1); (try clear hx104_2); (try clear hx105_0); (try clear hx105_1); (try clear hx105_2); (try clear hx106_0); (try clear hx106_1); (try clear hx106_2); (try clear hx106_3); (try clear p104); (try clear p105); (try clear p106); (try clear q104); (try clear q105); (try clear q106)
       obtain ⟨x9_3, x109000_3, x109001_3, x109002_3, x109003_3, u109003, rfl, HA, HK3, HO_0, HO_3, HO_109003, BK108, HB⟩ := hrel
       cases gk with
       | zero => exact absurd HA.out (by simp [spec_l12Wanted.l3])
       | succ k3 =>
        have H := HA.out
        clear HA
        simp only [spec_l12Wanted.l3] at H
        by_cases c13 : x9_3 < (l0.length : Int)
        ·
         rw [if_pos c13] at H
         have c13b0 : decide (x9_3 < (l0.length : Int)) = true := decide_eq_true c13
         clear c13
         have H' := AM H
         clear H
         go_wp2
         go_loopg [10] k3 (fun kq v10 w' => ∃ (x10_4 : Int) (x109000_4 : Int) (x109001_4 : Int) (x109002_4 : ByteArray) (x109003_4 : List Int) (u109003 : Value), v10 = .int .i64 x10_4 ∧ Aside0 (spec_l12Wanted.l4 kq l0 x3_2 x4_1 x7_2 x9_3 x10_4 x109000_4 x109001_4 x109002_4 x109003_4 = some r) ∧ Aside0 (kq ≤ k3) ∧ Aside0 (Kd.V k26 26 w' w.heap.size (fun k_ => (P0_ k_ ∨ w.heap.size ≤ k_) ∧ some k_ ≠ (u3 : Value).ownBlock ∧ k_ ≠ gb108) (.slice A0 l0.length c0) l0) ∧ Aside0 (Kd.R k67 67 w' w.heap.size (fun k_ => (w.heap.size ≤ k_)) u3 x3_2) ∧ Aside0 (Kd.V (Kd.int .i64) 2 w' w.heap.size (fun k_ => (P0_ k_ ∨ w.heap.size ≤ k_) ∧ some k_ ≠ (u3 : Value).ownBlock ∧ k_ ≠ gb108) u109003 x109003_4) ∧ Aside0 (w'.heap[gb108]? = some (.cells #[.int .i64 x109000_4, .int .i64 x109001_4, .string x109002_4, u109003] 72 (0, 0))) ∧ Aside0 (Below w.heap.size w w'))
         case atStart => exact ⟨(0), (x109000_3), (x109001_3), (x109002_3), (x109003_3), (u109003), (by first | rfl | (simp; done) | (simp [*]; done)), H', ⟨Nat.le_refl _⟩, ⟨by (with_reducible repeat (first | apply Kd.V_alloc | apply Kd.V_drewN | apply Kd.V_drew)); exact HO_0.out⟩, ⟨rX HO_3.out⟩, ⟨by (with_reducible repeat (first | apply Kd.V_alloc | apply Kd.V_drewN | apply Kd.V_drew)); exact HO_109003.out⟩, ⟨kX BK108.out⟩, ⟨bX HB.out⟩⟩
         case round =>
          clear H'
          (try clear c1); (try clear p1); (try clear q1); (try clear hx1); (try clear p2); (try clear c4); (try clear c4b0); (try clear c5); (try clear c5b0); (try clear c6); (try clear c6b0); (try clear p6); (try clear c7); (try clear c7b0); (try clear c8); (try clear c8b0); (try clear c10); (try clear c10b0); (try clear p10); (try clear q10); (try clear hx10); (try clear c13); (try clear c13b0); (try clear hcz12); (try clear hfz12); (try clear hx104_0); (try clear hx104_1); (try clear hx104_2); (try clear hx105_0); (try clear hx105_1); (try clear hx105_2); (try clear hx106_0); (try clear hx106_1); (try clear hx106_2); (try clear hx106_3); (try clear p104); (try clear p105); (try clear p106); (try clear q104); (try clear q105); (try clear q106)
          obtain ⟨x10_4, x109000_4, x109001_4, x109002_4, x109003_4, u109003, rfl, HA, HK4, HO_0, HO_3, HO_109003, BK108, HB⟩ := hrel
          cases gk with
          | zero => exact absurd HA.out (by simp [spec_l12Wanted.l4])
          | succ k4 =>
           have H := HA.out
           clear HA
           simp only [spec_l12Wanted.l4] at H
           by_cases c14 : 0 ≤ x9_3
           ·
            rw [if_pos c14] at H
            have c14b0 : decide (0 ≤ x9_3) = true := decide_eq_true c14
            clear c14
            by_cases c15 : x9_3 < (l0.length : Int)
            ·
             rw [if_pos c15] at H
             have c15b0 : decide (x9_3 < (l0.length : Int)) = true := decide_eq_true c15
             clear c15
             by_cases c16 : x10_4 < (((rd_T26 l0 x9_3).f2).length : Int)
             ·
              rw [if_pos c16] at H
              have c16b0 : decide (x10_4 < (((rd_T26 l0 x9_3).f2).length : Int)) = true := decide_eq_true c16
              clear c16
              by_cases c17 : 0 ≤ x10_4
              ·
               rw [if_pos c17] at H
               have c17b0 : decide (0 ≤ x10_4) = true := decide_eq_true c17
               clear c17
               by_cases c18 : ((rd_T72 ((rd_T26 l0 x9_3).f2) x10_4).f1) = x7_2
               ·
                rw [if_pos c18] at H
                have c18b0 : (((rd_T72 ((rd_T26 l0 x9_3).f2) x10_4).f1) == x7_2) = true := beq_iff_eq.mpr c18
                have c18b1 : (((rd_T72 ((rd_T26 l0 x9_3).f2) x10_4).f1) != x7_2) = false := bne_eq_false_iff_eq.mpr c18
                clear c18
                by_cases c19 : ((rd_T72 ((rd_T26 l0 x9_3).f2) x10_4).f0) > x109000_4
                ·
                 rw [if_pos c19] at H
                 have c19b0 : decide (x109000_4 < ((rd_T72 ((rd_T26 l0 x9_3).f2) x10_4).f0)) = true := decide_eq_true c19
                 clear c19
                 have H' := AM H
                 clear H
                 have p112 : 0 ≤ (x9_3 : Int) := of_decide_eq_true (by assumption)
                 have q112 : x9_3 < (l0.length : Int) := of_decide_eq_true (by assumption)
                 obtain ⟨ad112, A112_2, c112_2, e112, hx112_0, hx112_1, hx112_2, hl112_2, hi112_2⟩ := at_T26 (Kd.V_reads' HO_0.out).2.2 x9_3 p112 q112
                 cases e112
                 obtain ⟨ce112, hce112, hMe112, hcc112⟩ := Kd.V_get HO_0.out z26 x9_3 p112 (by first | exact q112 | exact of_decide_eq_true (by assumption) | (have e_ := (Kd.V_reads' HO_0.out).1; omega))
                 obtain ⟨ua112_2, uc112_2, rfl, ul112_2, ge112_2⟩ := k26_openF hMe112
                 have hv112_2 := hcc112 2 _ rfl
                 rw [add_field _ _ 2 (by omega)] at hv112_2
                 replace hv112_2 := Option.some.inj (hv112_2.symm.trans hx112_2)
                 injection hv112_2 with hva_ hvn_ hvc_
                 rw [hva_] at ge112_2
                 rw [hvc_] at ul112_2
                 have HL112_2 := AM (show Kd.V k72 72 _ w.heap.size _ _ ((rd_T26 l0 x9_3).f2) from Kd.V_mk ul112_2 ge112_2)
                 clear hva_ hvn_ hvc_ ge112_2 ul112_2
                 clear hcc112 hce112
                 have HR112_2 := AM hi112_2
                 have HC112_2 := AM hl112_2
                 clear hi112_2 hl112_2
                 replace p112 := eq_true p112
                 replace q112 := eq_true q112
                 have p113 : 0 ≤ (x9_3 : Int) := of_decide_eq_true (by assumption)
                 have q113 : x9_3 < (l0.length : Int) := of_decide_eq_true (by assumption)
                 obtain ⟨ad113, A113_2, c113_2, e113, hx113_0, hx113_1, hx113_2, hl113_2, hi113_2⟩ := at_T26 (Kd.V_reads' HO_0.out).2.2 x9_3 p113 q113
                 obtain rfl : ad112 = ad113 := (by injection e113)
                 obtain ⟨ce113, hce113, hMe113, hcc113⟩ := Kd.V_get HO_0.out z26 x9_3 p113 (by first | exact q113 | exact of_decide_eq_true (by assumption) | (have e_ := (Kd.V_reads' HO_0.out).1; omega))
                 obtain ⟨ua113_2, uc113_2, rfl, ul113_2, ge113_2⟩ := k26_openF hMe113
                 have hv113_2 := hcc113 2 _ rfl
                 rw [add_field _ _ 2 (by omega)] at hv113_2
                 replace hv113_2 := Option.some.inj (hv113_2.symm.trans hx113_2)
                 injection hv113_2 with hva_ hvn_ hvc_
                 rw [hva_] at ge113_2
                 rw [hvc_] at ul113_2
                 have HL113_2 := AM (show Kd.V k72 72 _ w.heap.size _ _ ((rd_T26 l0 x9_3).f2) from Kd.V_mk ul113_2 ge113_2)
                 clear hva_ hvn_ hvc_ ge113_2 ul113_2
                 clear hcc113 hce113
                 have HR113_2 := AM hi113_2
                 have HC113_2 := AM hl113_2
                 clear hi113_2 hl113_2
                 replace p113 := eq_true p113
                 replace q113 := eq_true q113
                 have ea_ := Option.some.inj (hx112_2.symm.trans hx113_2)
                 injection ea_ with ea_ en_ ec_
                 subst ea_
                 subst ec_
                 clear en_
                 have p114 : 0 ≤ (x10_4 : Int) := of_decide_eq_true (by assumption)
                 have q114 : x10_4 < (((rd_T26 l0 x9_3).f2).length : Int) := of_decide_eq_true (by assumption)
                 obtain ⟨ad114, A114_3, c114_3, e114, hx114_0, hx114_1, hx114_2, hx114_3, hl114_3, hi114_3⟩ := at_T72 (by repeat (first | (with_reducible exact HR113_2.out) | (with_reducible first | apply cA | apply cN | apply cD) | exact HR113_2.out)) x10_4 p114 q114
                 cases e114
                 obtain ⟨ce114, hce114, hMe114, hcc114⟩ := Kd.V_get HL113_2.out z72 x10_4 p114 (by first | exact q114 | exact of_decide_eq_true (by assumption) | (have e_ := (Kd.V_reads' HL113_2.out).1; omega))
                 obtain ⟨ua114_3, uc114_3, rfl, ul114_3, ge114_3⟩ := k72_openF hMe114
                 have hv114_3 := hcc114 3 _ rfl
                 rw [add_field _ _ 3 (by omega)] at hv114_3
                 replace hv114_3 := Option.some.inj (hv114_3.symm.trans hx114_3)
                 injection hv114_3 with hva_ hvn_ hvc_
                 rw [hva_] at ge114_3
                 rw [hvc_] at ul114_3
                 have HL114_3 := AM (show Kd.V (Kd.int .i64) 2 _ w.heap.size _ _ ((rd_T72 ((rd_T26 l0 x9_3).f2) x10_4).f3) from Kd.V_mk ul114_3 ge114_3)
                 clear hva_ hvn_ hvc_ ge114_3 ul114_3
                 clear hcc114 hce114
                 have HR114_3 := AM hi114_3
                 have HC114_3 := AM hl114_3
                 clear hi114_3 hl114_3
                 replace p114 := eq_true p114
                 replace q114 := eq_true q114
                 go_wp2_with (first | ((with_reducible refine gate_dst (N := 11) rfl ?_); refine box_event (by rfl) (N := 11) (by rfl) (cs := #[.int .i64 0, .int .i64 0, .string (⟨#[]⟩ : ByteArray), .slice none 0 0]) (t := 72) (by first | (go_simp; done) | (go_simp; rfl)) ?_; intro gb115 hg w20 hbox hb; have _ := AM (Kd.V_below (Kd.V_elderB (by (with_reducible repeat (first | apply Kd.V_alloc | apply Kd.V_drewN | apply Kd.V_drew)); exact HO_0.out) gb115 (Nat.le_of_eq hg.symm)) hb); have _ := AM (Kd.R_below (rX HO_3.out) hb); have _ := AM (Kd.V_below (Kd.V_elderB (by (with_reducible repeat (first | apply Kd.V_alloc | apply Kd.V_drewN | apply Kd.V_drew)); exact HO_109003.out) gb115 (Nat.le_of_eq hg.symm)) hb); have _ := AM (Kd.V_below (Kd.V_elderB (by (with_reducible repeat (first | apply Kd.V_alloc | apply Kd.V_drewN | apply Kd.V_drew)); exact HL112_2.out) gb115 (Nat.le_of_eq hg.symm)) hb); have _ := AM (Kd.V_below (Kd.V_elderB (by (with_reducible repeat (first | apply Kd.V_alloc | apply Kd.V_drewN | apply Kd.V_drew)); exact HL113_2.out) gb115 (Nat.le_of_eq hg.symm)) hb); have _ := AM (Kd.V_below (Kd.V_elderB (by (with_reducible repeat (first | apply Kd.V_alloc | apply Kd.V_drewN | apply Kd.V_drew)); exact HL114_3.out) gb115 (Nat.le_of_eq hg.symm)) hb); have _ := AM (nB BK108.out hb); have _ := AM (cB (by repeat (first | (with_reducible exact HR112_2.out) | (with_reducible first | apply cA | apply cN | apply cD) | exact HR112_2.out)) hb); have _ := AM (cB (by repeat (first | (with_reducible exact HR113_2.out) | (with_reducible first | apply cA | apply cN | apply cD) | exact HR113_2.out)) hb); have _ := AM (cB (by repeat (first | (with_reducible exact HR114_3.out) | (with_reducible first | apply cA | apply cN | apply cD) | exact HR114_3.out)) hb); have _ := AM (below_step (bX HB.out) hb); have _ := AM (hbox); have n12_ := AM ((by rw [hg]; exact (bZ (bX HB.out)) : w.heap.size ≤ gb115)); have _ := AM (lX hg BK108.out); have _ := AM (lX hg BK108.out).symm; clear HO_0 HO_3 HO_109003 HL112_2 HL113_2 HL114_3 BK108 HR112_2 HR113_2 HR114_3 HB; rename_i HO_0 HO_3 HO_109003 HL112_2 HL113_2 HL114_3 BK108 HR112_2 HR113_2 HR114_3 HB BK115 NB108_115 NB115_108; have GW115 := n12_; have GE115 := n12_; clear n12_; clear hb hbox hg; have hnb21 := NB115_108.out; have hnc21 := NB108_115.out; have hcz22 := q4 BK115.out; have hfz22 := fZ BK115.out; have hcz23 := q4 BK108.out; have hfz23 := fZ BK108.out))
                 go_roundg k4
                 case measure => have := HK1.out; have := HK2.out; have := HK3.out; have := HK4.out; omega
                 case rel => exact ⟨(wrap64 (x10_4 + 1)), ((rd_T72 ((rd_T26 l0 x9_3).f2) x10_4).f0), ((rd_T72 ((rd_T26 l0 x9_3).f2) x10_4).f1), ((rd_T72 ((rd_T26 l0 x9_3).f2) x10_4).f2), ((rd_T72 ((rd_T26 l0 x9_3).f2) x10_4).f3), (.slice A114_3 ((rd_T72 ((rd_T26 l0 x9_3).f2) x10_4).f3).length c114_3), (by first | rfl | (simp; done) | (simp [*]; done)), H', ⟨by have := HK1.out; have := HK2.out; have := HK3.out; have := HK4.out; omega⟩, ⟨by (with_reducible repeat (first | apply Kd.V_alloc | apply Kd.V_drewN | apply Kd.V_drew)); exact Kd.V_mono (Kd.V_far (p := ⟨gb108, 3, none⟩) (Kd.V_far (p := ⟨gb108, 2, none⟩) (Kd.V_far (p := ⟨gb108, 1, none⟩) (Kd.V_far (p := ⟨gb108, 0, none⟩) (Kd.V_far (p := ⟨gb115, 3, none⟩) (Kd.V_far (p := ⟨gb115, 2, none⟩) (Kd.V_far (p := ⟨gb115, 1, none⟩) (Kd.V_far (p := ⟨gb115, 0, none⟩) (Kd.V_mono (Kd.V_mono HO_0.out (fun k_ hk => (⟨hk, hk.2⟩ : _ ∧ k_ ≠ gb115))) (fun k_ hk => (⟨hk, hk.1.1.2.2⟩ : _ ∧ k_ ≠ gb108))) (fun _ hk => hk.1.2) (.int .i64 ((rd_T72 ((rd_T26 l0 x9_3).f2) x10_4).f0))) (fun _ hk => hk.1.2) (.int .i64 ((rd_T72 ((rd_T26 l0 x9_3).f2) x10_4).f1))) (fun _ hk => hk.1.2) (.string ((rd_T72 ((rd_T26 l0 x9_3).f2) x10_4).f2))) (fun _ hk => hk.1.2) (.slice A114_3 ((rd_T72 ((rd_T26 l0 x9_3).f2) x10_4).f3).length c114_3)) (fun _ hk => hk.2) (.int .i64 ((rd_T72 ((rd_T26 l0 x9_3).f2) x10_4).f0))) (fun _ hk => hk.2) (.int .i64 ((rd_T72 ((rd_T26 l0 x9_3).f2) x10_4).f1))) (fun _ hk => hk.2) (.string ((rd_T72 ((rd_T26 l0 x9_3).f2) x10_4).f2))) (fun _ hk => hk.2) (.slice A114_3 ((rd_T72 ((rd_T26 l0 x9_3).f2) x10_4).f3).length c114_3)) (fun _ hk => ⟨hk.1.1.1.1, ⟨hk.1.1.1.2.1, hk.1.1.1.2.2⟩⟩)⟩, ⟨by (with_reducible repeat (first | apply rA | apply rN | apply rD)); exact Kd.R_mono (Kd.R_far (p := ⟨gb108, 3, none⟩) (Kd.R_far (p := ⟨gb108, 2, none⟩) (Kd.R_far (p := ⟨gb108, 1, none⟩) (Kd.R_far (p := ⟨gb108, 0, none⟩) (Kd.R_far (p := ⟨gb115, 3, none⟩) (Kd.R_far (p := ⟨gb115, 2, none⟩) (Kd.R_far (p := ⟨gb115, 1, none⟩) (Kd.R_far (p := ⟨gb115, 0, none⟩) (Kd.R_types (Kd.R_types HO_3.out BK115.out (by decide)) BK108.out (by decide)) (fun _ hk => hk.1.2) (.int .i64 ((rd_T72 ((rd_T26 l0 x9_3).f2) x10_4).f0))) (fun _ hk => hk.1.2) (.int .i64 ((rd_T72 ((rd_T26 l0 x9_3).f2) x10_4).f1))) (fun _ hk => hk.1.2) (.string ((rd_T72 ((rd_T26 l0 x9_3).f2) x10_4).f2))) (fun _ hk => hk.1.2) (.slice A114_3 ((rd_T72 ((rd_T26 l0 x9_3).f2) x10_4).f3).length c114_3)) (fun _ hk => hk.2) (.int .i64 ((rd_T72 ((rd_T26 l0 x9_3).f2) x10_4).f0))) (fun _ hk => hk.2) (.int .i64 ((rd_T72 ((rd_T26 l0 x9_3).f2) x10_4).f1))) (fun _ hk => hk.2) (.string ((rd_T72 ((rd_T26 l0 x9_3).f2) x10_4).f2))) (fun _ hk => hk.2) (.slice A114_3 ((rd_T72 ((rd_T26 l0 x9_3).f2) x10_4).f3).length c114_3)) (fun _ hk => hk.1.1)⟩, ⟨by (with_reducible repeat (first | apply Kd.V_alloc | apply Kd.V_drewN | apply Kd.V_drew)); exact Kd.V_mono (Kd.V_far (p := ⟨gb108, 3, none⟩) (Kd.V_far (p := ⟨gb108, 2, none⟩) (Kd.V_far (p := ⟨gb108, 1, none⟩) (Kd.V_far (p := ⟨gb108, 0, none⟩) (Kd.V_far (p := ⟨gb115, 3, none⟩) (Kd.V_far (p := ⟨gb115, 2, none⟩) (Kd.V_far (p := ⟨gb115, 1, none⟩) (Kd.V_far (p := ⟨gb115, 0, none⟩) (Kd.V_mono (Kd.V_mono HL114_3.out (fun k_ hk => (⟨hk, hk.2⟩ : _ ∧ k_ ≠ gb115))) (fun k_ hk => (⟨hk, hk.1.1.2.2⟩ : _ ∧ k_ ≠ gb108))) (fun _ hk => hk.1.2) (.int .i64 ((rd_T72 ((rd_T26 l0 x9_3).f2) x10_4).f0))) (fun _ hk => hk.1.2) (.int .i64 ((rd_T72 ((rd_T26 l0 x9_3).f2) x10_4).f1))) (fun _ hk => hk.1.2) (.string ((rd_T72 ((rd_T26 l0 x9_3).f2) x10_4).f2))) (fun _ hk => hk.1.2) (.slice A114_3 ((rd_T72 ((rd_T26 l0 x9_3).f2) x10_4).f3).length c114_3)) (fun _ hk => hk.2) (.int .i64 ((rd_T72 ((rd_T26 l0 x9_3).f2) x10_4).f0))) (fun _ hk => hk.2) (.int .i64 ((rd_T72 ((rd_T26 l0 x9_3).f2) x10_4).f1))) (fun _ hk => hk.2) (.string ((rd_T72 ((rd_T26 l0 x9_3).f2) x10_4).f2))) (fun _ hk => hk.2) (.slice A114_3 ((rd_T72 ((rd_T26 l0 x9_3).f2) x10_4).f3).length c114_3)) (fun _ hk => ⟨hk.1.1.1.1, ⟨hk.1.1.1.2.1, hk.1.1.1.2.2⟩⟩)⟩, ⟨by refine kP (cs := #[.int .i64 ((rd_T72 ((rd_T26 l0 x9_3).f2) x10_4).f0), .int .i64 ((rd_T72 ((rd_T26 l0 x9_3).f2) x10_4).f1), .string ((rd_T72 ((rd_T26 l0 x9_3).f2) x10_4).f2), u109003]) 3 ?_; refine kP (cs := #[.int .i64 ((rd_T72 ((rd_T26 l0 x9_3).f2) x10_4).f0), .int .i64 ((rd_T72 ((rd_T26 l0 x9_3).f2) x10_4).f1), .string x109002_4, u109003]) 2 ?_; refine kP (cs := #[.int .i64 ((rd_T72 ((rd_T26 l0 x9_3).f2) x10_4).f0), .int .i64 x109001_4, .string x109002_4, u109003]) 1 ?_; refine kP (cs := #[.int .i64 x109000_4, .int .i64 x109001_4, .string x109002_4, u109003]) 0 ?_; (iterate 4 refine kF NB108_115.out ?_); (with_reducible repeat (first | apply kN | apply kD | apply kA)); exact BK108.out⟩, ⟨bX HB.out⟩⟩
                rw [if_neg c19] at H
                have c19b0 : decide (x109000_4 < ((rd_T72 ((rd_T26 l0 x9_3).f2) x10_4).f0)) = false := decide_eq_false c19
                clear c19
                have H' := AM H
                clear H
                have p112 : 0 ≤ (x9_3 : Int) := of_decide_eq_true (by assumption)
                have q112 : x9_3 < (l0.length : Int) := of_decide_eq_true (by assumption)
                obtain ⟨ad112, A112_2, c112_2, e112, hx112_0, hx112_1, hx112_2, hl112_2, hi112_2⟩ := at_T26 (Kd.V_reads' HO_0.out).2.2 x9_3 p112 q112
                cases e112
                obtain ⟨ce112, hce112, hMe112, hcc112⟩ := Kd.V_get HO_0.out z26 x9_3 p112 (by first | exact q112 | exact of_decide_eq_true (by assumption) | (have e_ := (Kd.V_reads' HO_0.out).1; omega))
                obtain ⟨ua112_2, uc112_2, rfl, ul112_2, ge112_2⟩ := k26_openF hMe112
                have hv112_2 := hcc112 2 _ rfl
                rw [add_field _ _ 2 (by omega)] at hv112_2
                replace hv112_2 := Option.some.inj (hv112_2.symm.trans hx112_2)
                injection hv112_2 with hva_ hvn_ hvc_
                rw [hva_] at ge112_2
                rw [hvc_] at ul112_2
                have HL112_2 := AM (show Kd.V k72 72 _ w.heap.size _ _ ((rd_T26 l0 x9_3).f2) from Kd.V_mk ul112_2 ge112_2)
                clear hva_ hvn_ hvc_ ge112_2 ul112_2
                clear hcc112 hce112
                have HR112_2 := AM hi112_2
                have HC112_2 := AM hl112_2
                clear hi112_2 hl112_2
                replace p112 := eq_true p112
                replace q112 := eq_true q112
                have p113 : 0 ≤ (x9_3 : Int) := of_decide_eq_true (by assumption)
                have q113 : x9_3 < (l0.length : Int) := of_decide_eq_true (by assumption)
                obtain ⟨ad113, A113_2, c113_2, e113, hx113_0, hx113_1, hx113_2, hl113_2, hi113_2⟩ := at_T26 (Kd.V_reads' HO_0.out).2.2 x9_3 p113 q113
                obtain rfl : ad112 = ad113 := (by injection e113)
                obtain ⟨ce113, hce113, hMe113, hcc113⟩ := Kd.V_get HO_0.out z26 x9_3 p113 (by first | exact q113 | exact of_decide_eq_true (by assumption) | (have e_ := (Kd.V_reads' HO_0.out).1; omega))
                obtain ⟨ua113_2, uc113_2, rfl, ul113_2, ge113_2⟩ := k26_openF hMe113
                have hv113_2 := hcc113 2 _ rfl
                rw [add_field _ _ 2 (by omega)] at hv113_2
                replace hv113_2 := Option.some.inj (hv113_2.symm.trans hx113_2)
                injection hv113_2 with hva_ hvn_ hvc_
                rw [hva_] at ge113_2
                rw [hvc_] at ul113_2
                have HL113_2 := AM (show Kd.V k72 72 _ w.heap.size _ _ ((rd_T26 l0 x9_3).f2) from Kd.V_mk ul113_2 ge113_2)
                clear hva_ hvn_ hvc_ ge113_2 ul113_2
                clear hcc113 hce113
                have HR113_2 := AM hi113_2
                have HC113_2 := AM hl113_2
                clear hi113_2 hl113_2
                replace p113 := eq_true p113
                replace q113 := eq_true q113
                have ea_ := Option.some.inj (hx112_2.symm.trans hx113_2)
                injection ea_ with ea_ en_ ec_
                subst ea_
                subst ec_
                clear en_
                have p114 : 0 ≤ (x10_4 : Int) := of_decide_eq_true (by assumption)
                have q114 : x10_4 < (((rd_T26 l0 x9_3).f2).length : Int) := of_decide_eq_true (by assumption)
                obtain ⟨ad114, A114_3, c114_3, e114, hx114_0, hx114_1, hx114_2, hx114_3, hl114_3, hi114_3⟩ := at_T72 (by repeat (first | (with_reducible exact HR113_2.out) | (with_reducible first | apply cA | apply cN | apply cD) | exact HR113_2.out)) x10_4 p114 q114
                cases e114
                obtain ⟨ce114, hce114, hMe114, hcc114⟩ := Kd.V_get HL113_2.out z72 x10_4 p114 (by first | exact q114 | exact of_decide_eq_true (by assumption) | (have e_ := (Kd.V_reads' HL113_2.out).1; omega))
                obtain ⟨ua114_3, uc114_3, rfl, ul114_3, ge114_3⟩ := k72_openF hMe114
                have hv114_3 := hcc114 3 _ rfl
                rw [add_field _ _ 3 (by omega)] at hv114_3
                replace hv114_3 := Option.some.inj (hv114_3.symm.trans hx114_3)
                injection hv114_3 with hva_ hvn_ hvc_
                rw [hva_] at ge114_3
                rw [hvc_] at ul114_3
                have HL114_3 := AM (show Kd.V (Kd.int .i64) 2 _ w.heap.size _ _ ((rd_T72 ((rd_T26 l0 x9_3).f2) x10_4).f3) from Kd.V_mk ul114_3 ge114_3)
                clear hva_ hvn_ hvc_ ge114_3 ul114_3
                clear hcc114 hce114
                have HR114_3 := AM hi114_3
                have HC114_3 := AM hl114_3
                clear hi114_3 hl114_3
                replace p114 := eq_true p114
                replace q114 := eq_true q114
                go_wp2_with (first | ((with_reducible refine gate_dst (N := 11) rfl ?_); refine box_event (by rfl) (N := 11) (by rfl) (cs := #[.int .i64 0, .int .i64 0, .string (⟨#[]⟩ : ByteArray), .slice none 0 0]) (t := 72) (by first | (go_simp; done) | (go_simp; rfl)) ?_; intro gb115 hg w24 hbox hb; have _ := AM (Kd.V_below (Kd.V_elderB (by (with_reducible repeat (first | apply Kd.V_alloc | apply Kd.V_drewN | apply Kd.V_drew)); exact HO_0.out) gb115 (Nat.le_of_eq hg.symm)) hb); have _ := AM (Kd.R_below (rX HO_3.out) hb); have _ := AM (Kd.V_below (Kd.V_elderB (by (with_reducible repeat (first | apply Kd.V_alloc | apply Kd.V_drewN | apply Kd.V_drew)); exact HO_109003.out) gb115 (Nat.le_of_eq hg.symm)) hb); have _ := AM (Kd.V_below (Kd.V_elderB (by (with_reducible repeat (first | apply Kd.V_alloc | apply Kd.V_drewN | apply Kd.V_drew)); exact HL112_2.out) gb115 (Nat.le_of_eq hg.symm)) hb); have _ := AM (Kd.V_below (Kd.V_elderB (by (with_reducible repeat (first | apply Kd.V_alloc | apply Kd.V_drewN | apply Kd.V_drew)); exact HL113_2.out) gb115 (Nat.le_of_eq hg.symm)) hb); have _ := AM (Kd.V_below (Kd.V_elderB (by (with_reducible repeat (first | apply Kd.V_alloc | apply Kd.V_drewN | apply Kd.V_drew)); exact HL114_3.out) gb115 (Nat.le_of_eq hg.symm)) hb); have _ := AM (nB BK108.out hb); have _ := AM (cB (by repeat (first | (with_reducible exact HR112_2.out) | (with_reducible first | apply cA | apply cN | apply cD) | exact HR112_2.out)) hb); have _ := AM (cB (by repeat (first | (with_reducible exact HR113_2.out) | (with_reducible first | apply cA | apply cN | apply cD) | exact HR113_2.out)) hb); have _ := AM (cB (by repeat (first | (with_reducible exact HR114_3.out) | (with_reducible first | apply cA | apply cN | apply cD) | exact HR114_3.out)) hb); have _ := AM (below_step (bX HB.out) hb); have _ := AM (hbox); have n12_ := AM ((by rw [hg]; exact (bZ (bX HB.out)) : w.heap.size ≤ gb115)); have _ := AM (lX hg BK108.out); have _ := AM (lX hg BK108.out).symm; clear HO_0 HO_3 HO_109003 HL112_2 HL113_2 HL114_3 BK108 HR112_2 HR113_2 HR114_3 HB; rename_i HO_0 HO_3 HO_109003 HL112_2 HL113_2 HL114_3 BK108 HR112_2 HR113_2 HR114_3 HB BK115 NB108_115 NB115_108; have GW115 := n12_; have GE115 := n12_; clear n12_; clear hb hbox hg; have hnb25 := NB115_108.out; have hnc25 := NB108_115.out; have hcz26 := q4 BK115.out; have hfz26 := fZ BK115.out; have hcz27 := q4 BK108.out; have hfz27 := fZ BK108.out))
                go_roundg k4
                case measure => have := HK1.out; have := HK2.out; have := HK3.out; have := HK4.out; omega
                case rel => exact ⟨(wrap64 (x10_4 + 1)), (x109000_4), (x109001_4), (x109002_4), (x109003_4), (u109003), (by first | rfl | (simp; done) | (simp [*]; done)), H', ⟨by have := HK1.out; have := HK2.out; have := HK3.out; have := HK4.out; omega⟩, ⟨by (with_reducible repeat (first | apply Kd.V_alloc | apply Kd.V_drewN | apply Kd.V_drew)); exact Kd.V_mono (Kd.V_far (p := ⟨gb115, 3, none⟩) (Kd.V_far (p := ⟨gb115, 2, none⟩) (Kd.V_far (p := ⟨gb115, 1, none⟩) (Kd.V_far (p := ⟨gb115, 0, none⟩) (Kd.V_mono HO_0.out (fun k_ hk => (⟨hk, hk.2⟩ : _ ∧ k_ ≠ gb115))) (fun _ hk => hk.2) (.int .i64 ((rd_T72 ((rd_T26 l0 x9_3).f2) x10_4).f0))) (fun _ hk => hk.2) (.int .i64 ((rd_T72 ((rd_T26 l0 x9_3).f2) x10_4).f1))) (fun _ hk => hk.2) (.string ((rd_T72 ((rd_T26 l0 x9_3).f2) x10_4).f2))) (fun _ hk => hk.2) (.slice A114_3 ((rd_T72 ((rd_T26 l0 x9_3).f2) x10_4).f3).length c114_3)) (fun _ hk => ⟨hk.1.1.1, ⟨hk.1.1.2.1, hk.1.1.2.2⟩⟩)⟩, ⟨by (with_reducible repeat (first | apply rA | apply rN | apply rD)); exact Kd.R_mono (Kd.R_far (p := ⟨gb115, 3, none⟩) (Kd.R_far (p := ⟨gb115, 2, none⟩) (Kd.R_far (p := ⟨gb115, 1, none⟩) (Kd.R_far (p := ⟨gb115, 0, none⟩) (Kd.R_types HO_3.out BK115.out (by decide)) (fun _ hk => hk.2) (.int .i64 ((rd_T72 ((rd_T26 l0 x9_3).f2) x10_4).f0))) (fun _ hk => hk.2) (.int .i64 ((rd_T72 ((rd_T26 l0 x9_3).f2) x10_4).f1))) (fun _ hk => hk.2) (.string ((rd_T72 ((rd_T26 l0 x9_3).f2) x10_4).f2))) (fun _ hk => hk.2) (.slice A114_3 ((rd_T72 ((rd_T26 l0 x9_3).f2) x10_4).f3).length c114_3)) (fun _ hk => hk.1)⟩, ⟨by (with_reducible repeat (first | apply Kd.V_alloc | apply Kd.V_drewN | apply Kd.V_drew)); exact Kd.V_mono (Kd.V_far (p := ⟨gb115, 3, none⟩) (Kd.V_far (p := ⟨gb115, 2, none⟩) (Kd.V_far (p := ⟨gb115, 1, none⟩) (Kd.V_far (p := ⟨gb115, 0, none⟩) (Kd.V_mono HO_109003.out (fun k_ hk => (⟨hk, hk.2⟩ : _ ∧ k_ ≠ gb115))) (fun _ hk => hk.2) (.int .i64 ((rd_T72 ((rd_T26 l0 x9_3).f2) x10_4).f0))) (fun _ hk => hk.2) (.int .i64 ((rd_T72 ((rd_T26 l0 x9_3).f2) x10_4).f1))) (fun _ hk => hk.2) (.string ((rd_T72 ((rd_T26 l0 x9_3).f2) x10_4).f2))) (fun _ hk => hk.2) (.slice A114_3 ((rd_T72 ((rd_T26 l0 x9_3).f2) x10_4).f3).length c114_3)) (fun _ hk => ⟨hk.1.1.1, ⟨hk.1.1.2.1, hk.1.1.2.2⟩⟩)⟩, ⟨by (iterate 4 refine kF NB108_115.out ?_); (with_reducible repeat (first | apply kN | apply kD | apply kA)); exact BK108.out⟩, ⟨bX HB.out⟩⟩
               rw [if_neg c18] at H
               have c18b0 : (((rd_T72 ((rd_T26 l0 x9_3).f2) x10_4).f1) == x7_2) = false := beq_eq_false_iff_ne.mpr c18
               have c18b1 : (((rd_T72 ((rd_T26 l0 x9_3).f2) x10_4).f1) != x7_2) = true := bne_iff_ne.mpr c18
               have H' := AM H
               clear H
               have p112 : 0 ≤ (x9_3 : Int) := of_decide_eq_true (by assumption)
               have q112 : x9_3 < (l0.length : Int) := of_decide_eq_true (by assumption)
               obtain ⟨ad112, A112_2, c112_2, e112, hx112_0, hx112_1, hx112_2, hl112_2, hi112_2⟩ := at_T26 (Kd.V_reads' HO_0.out).2.2 x9_3 p112 q112
               cases e112
               obtain ⟨ce112, hce112, hMe112, hcc112⟩ := Kd.V_get HO_0.out z26 x9_3 p112 (by first | exact q112 | exact of_decide_eq_true (by assumption) | (have e_ := (Kd.V_reads' HO_0.out).1; omega))
               obtain ⟨ua112_2, uc112_2, rfl, ul112_2, ge112_2⟩ := k26_openF hMe112
               have hv112_2 := hcc112 2 _ rfl
               rw [add_field _ _ 2 (by omega)] at hv112_2
               replace hv112_2 := Option.some.inj (hv112_2.symm.trans hx112_2)
               injection hv112_2 with hva_ hvn_ hvc_
               rw [hva_] at ge112_2
               rw [hvc_] at ul112_2
               have HL112_2 := AM (show Kd.V k72 72 _ w.heap.size _ _ ((rd_T26 l0 x9_3).f2) from Kd.V_mk ul112_2 ge112_2)
               clear hva_ hvn_ hvc_ ge112_2 ul112_2
               clear hcc112 hce112
               have HR112_2 := AM hi112_2
               have HC112_2 := AM hl112_2
               clear hi112_2 hl112_2
               replace p112 := eq_true p112
               replace q112 := eq_true q112
               have p113 : 0 ≤ (x9_3 : Int) := of_decide_eq_true (by assumption)
               have q113 : x9_3 < (l0.length : Int) := of_decide_eq_true (by assumption)
               obtain ⟨ad113, A113_2, c113_2, e113, hx113_0, hx113_1, hx113_2, hl113_2, hi113_2⟩ := at_T26 (Kd.V_reads' HO_0.out).2.2 x9_3 p113 q113
               obtain rfl : ad112 = ad113 := (by injection e113)
               obtain ⟨ce113, hce113, hMe113, hcc113⟩ := Kd.V_get HO_0.out z26 x9_3 p113 (by first | exact q113 | exact of_decide_eq_true (by assumption) | (have e_ := (Kd.V_reads' HO_0.out).1; omega))
               obtain ⟨ua113_2, uc113_2, rfl, ul113_2, ge113_2⟩ := k26_openF hMe113
               have hv113_2 := hcc113 2 _ rfl
               rw [add_field _ _ 2 (by omega)] at hv113_2
               replace hv113_2 := Option.some.inj (hv113_2.symm.trans hx113_2)
               injection hv113_2 with hva_ hvn_ hvc_
               rw [hva_] at ge113_2
               rw [hvc_] at ul113_2
               have HL113_2 := AM (show Kd.V k72 72 _ w.heap.size _ _ ((rd_T26 l0 x9_3).f2) from Kd.V_mk ul113_2 ge113_2)
               clear hva_ hvn_ hvc_ ge113_2 ul113_2
               clear hcc113 hce113
               have HR113_2 := AM hi113_2
               have HC113_2 := AM hl113_2
               clear hi113_2 hl113_2
               replace p113 := eq_true p113
               replace q113 := eq_true q113
               have ea_ := Option.some.inj (hx112_2.symm.trans hx113_2)
               injection ea_ with ea_ en_ ec_
               subst ea_
               subst ec_
               clear en_
               have p114 : 0 ≤ (x10_4 : Int) := of_decide_eq_true (by assumption)
               have q114 : x10_4 < (((rd_T26 l0 x9_3).f2).length : Int) := of_decide_eq_true (by assumption)
               obtain ⟨ad114, A114_3, c114_3, e114, hx114_0, hx114_1, hx114_2, hx114_3, hl114_3, hi114_3⟩ := at_T72 (by repeat (first | (with_reducible exact HR113_2.out) | (with_reducible first | apply cA | apply cN | apply cD) | exact HR113_2.out)) x10_4 p114 q114
               cases e114
               obtain ⟨ce114, hce114, hMe114, hcc114⟩ := Kd.V_get HL113_2.out z72 x10_4 p114 (by first | exact q114 | exact of_decide_eq_true (by assumption) | (have e_ := (Kd.V_reads' HL113_2.out).1; omega))
               obtain ⟨ua114_3, uc114_3, rfl, ul114_3, ge114_3⟩ := k72_openF hMe114
               have hv114_3 := hcc114 3 _ rfl
               rw [add_field _ _ 3 (by omega)] at hv114_3
               replace hv114_3 := Option.some.inj (hv114_3.symm.trans hx114_3)
               injection hv114_3 with hva_ hvn_ hvc_
               rw [hva_] at ge114_3
               rw [hvc_] at ul114_3
               have HL114_3 := AM (show Kd.V (Kd.int .i64) 2 _ w.heap.size _ _ ((rd_T72 ((rd_T26 l0 x9_3).f2) x10_4).f3) from Kd.V_mk ul114_3 ge114_3)
               clear hva_ hvn_ hvc_ ge114_3 ul114_3
               clear hcc114 hce114
               have HR114_3 := AM hi114_3
               have HC114_3 := AM hl114_3
               clear hi114_3 hl114_3
               replace p114 := eq_true p114
               replace q114 := eq_true q114
               go_wp2_with (first | ((with_reducible refine gate_dst (N := 11) rfl ?_); refine box_event (by rfl) (N := 11) (by rfl) (cs := #[.int .i64 0, .int .i64 0, .string (⟨#[]⟩ : ByteArray), .slice none 0 0]) (t := 72) (by first | (go_simp; done) | (go_simp; rfl)) ?_; intro gb115 hg w28 hbox hb; have _ := AM (Kd.V_below (Kd.V_elderB (by (with_reducible repeat (first | apply Kd.V_alloc | apply Kd.V_drewN | apply Kd.V_drew)); exact HO_0.out) gb115 (Nat.le_of_eq hg.symm)) hb); have _ := AM (Kd.R_below (rX HO_3.out) hb); have _ := AM (Kd.V_below (Kd.V_elderB (by (with_reducible repeat (first | apply Kd.V_alloc | apply Kd.V_drewN | apply Kd.V_drew)); exact HO_109003.out) gb115 (Nat.le_of_eq hg.symm)) hb); have _ := AM (Kd.V_below (Kd.V_elderB (by (with_reducible repeat (first | apply Kd.V_alloc | apply Kd.V_drewN | apply Kd.V_drew)); exact HL112_2.out) gb115 (Nat.le_of_eq hg.symm)) hb); have _ := AM (Kd.V_below (Kd.V_elderB (by (with_reducible repeat (first | apply Kd.V_alloc | apply Kd.V_drewN | apply Kd.V_drew)); exact HL113_2.out) gb115 (Nat.le_of_eq hg.symm)) hb); have _ := AM (Kd.V_below (Kd.V_elderB (by (with_reducible repeat (first | apply Kd.V_alloc | apply Kd.V_drewN | apply Kd.V_drew)); exact HL114_3.out) gb115 (Nat.le_of_eq hg.symm)) hb); have _ := AM (nB BK108.out hb); have _ := AM (cB (by repeat (first | (with_reducible exact HR112_2.out) | (with_reducible first | apply cA | apply cN | apply cD) | exact HR112_2.out)) hb); have _ := AM (cB (by repeat (first | (with_reducible exact HR113_2.out) | (with_reducible first | apply cA | apply cN | apply cD) | exact HR113_2.out)) hb); have _ := AM (cB (by repeat (first | (with_reducible exact HR114_3.out) | (with_reducible first | apply cA | apply cN | apply cD) | exact HR114_3.out)) hb); have _ := AM (below_step (bX HB.out) hb); have _ := AM (hbox); have n12_ := AM ((by rw [hg]; exact (bZ (bX HB.out)) : w.heap.size ≤ gb115)); have _ := AM (lX hg BK108.out); have _ := AM (lX hg BK108.out).symm; clear HO_0 HO_3 HO_109003 HL112_2 HL113_2 HL114_3 BK108 HR112_2 HR113_2 HR114_3 HB; rename_i HO_0 HO_3 HO_109003 HL112_2 HL113_2 HL114_3 BK108 HR112_2 HR113_2 HR114_3 HB BK115 NB108_115 NB115_108; have GW115 := n12_; have GE115 := n12_; clear n12_; clear hb hbox hg; have hnb29 := NB115_108.out; have hnc29 := NB108_115.out; have hcz30 := q4 BK115.out; have hfz30 := fZ BK115.out))
               go_roundg k4
               case measure => have := HK1.out; have := HK2.out; have := HK3.out; have := HK4.out; omega
               case rel => exact ⟨(wrap64 (x10_4 + 1)), (x109000_4), (x109001_4), (x109002_4), (x109003_4), (u109003), (by first | rfl | (simp; done) | (simp [*]; done)), H', ⟨by have := HK1.out; have := HK2.out; have := HK3.out; have := HK4.out; omega⟩, ⟨by (with_reducible repeat (first | apply Kd.V_alloc | apply Kd.V_drewN | apply Kd.V_drew)); exact Kd.V_mono (Kd.V_far (p := ⟨gb115, 3, none⟩) (Kd.V_far (p := ⟨gb115, 2, none⟩) (Kd.V_far (p := ⟨gb115, 1, none⟩) (Kd.V_far (p := ⟨gb115, 0, none⟩) (Kd.V_mono HO_0.out (fun k_ hk => (⟨hk, hk.2⟩ : _ ∧ k_ ≠ gb115))) (fun _ hk => hk.2) (.int .i64 ((rd_T72 ((rd_T26 l0 x9_3).f2) x10_4).f0))) (fun _ hk => hk.2) (.int .i64 ((rd_T72 ((rd_T26 l0 x9_3).f2) x10_4).f1))) (fun _ hk => hk.2) (.string ((rd_T72 ((rd_T26 l0 x9_3).f2) x10_4).f2))) (fun _ hk => hk.2) (.slice A114_3 ((rd_T72 ((rd_T26 l0 x9_3).f2) x10_4).f3).length c114_3)) (fun _ hk => ⟨hk.1.1.1, ⟨hk.1.1.2.1, hk.1.1.2.2⟩⟩)⟩, ⟨by (with_reducible repeat (first | apply rA | apply rN | apply rD)); exact Kd.R_mono (Kd.R_far (p := ⟨gb115, 3, none⟩) (Kd.R_far (p := ⟨gb115, 2, none⟩) (Kd.R_far (p := ⟨gb115, 1, none⟩) (Kd.R_far (p := ⟨gb115, 0, none⟩) (Kd.R_types HO_3.out BK115.out (by decide)) (fun _ hk => hk.2) (.int .i64 ((rd_T72 ((rd_T26 l0 x9_3).f2) x10_4).f0))) (fun _ hk => hk.2) (.int .i64 ((rd_T72 ((rd_T26 l0 x9_3).f2) x10_4).f1))) (fun _ hk => hk.2) (.string ((rd_T72 ((rd_T26 l0 x9_3).f2) x10_4).f2))) (fun _ hk => hk.2) (.slice A114_3 ((rd_T72 ((rd_T26 l0 x9_3).f2) x10_4).f3).length c114_3)) (fun _ hk => hk.1)⟩, ⟨by (with_reducible repeat (first | apply Kd.V_alloc | apply Kd.V_drewN | apply Kd.V_drew)); exact Kd.V_mono (Kd.V_far (p := ⟨gb115, 3, none⟩) (Kd.V_far (p := ⟨gb115, 2, none⟩) (Kd.V_far (p := ⟨gb115, 1, none⟩) (Kd.V_far (p := ⟨gb115, 0, none⟩) (Kd.V_mono HO_109003.out (fun k_ hk => (⟨hk, hk.2⟩ : _ ∧ k_ ≠ gb115))) (fun _ hk => hk.2) (.int .i64 ((rd_T72 ((rd_T26 l0 x9_3).f2) x10_4).f0))) (fun _ hk => hk.2) (.int .i64 ((rd_T72 ((rd_T26 l0 x9_3).f2) x10_4).f1))) (fun _ hk => hk.2) (.string ((rd_T72 ((rd_T26 l0 x9_3).f2) x10_4).f2))) (fun _ hk => hk.2) (.slice A114_3 ((rd_T72 ((rd_T26 l0 x9_3).f2) x10_4).f3).length c114_3)) (fun _ hk => ⟨hk.1.1.1, ⟨hk.1.1.2.1, hk.1.1.2.2⟩⟩)⟩, ⟨by (iterate 4 refine kF NB108_115.out ?_); (with_reducible repeat (first | apply kN | apply kD | apply kA)); exact BK108.out⟩, ⟨bX HB.out⟩⟩
              rw [if_neg c17] at H
              exact absurd H (by simp)
             rw [if_neg c16] at H
             have c16b0 : decide (x10_4 < (((rd_T26 l0 x9_3).f2).length : Int)) = false := decide_eq_false c16
             clear c16
             have H' := AM H
             clear H
             have p112 : 0 ≤ (x9_3 : Int) := of_decide_eq_true (by assumption)
             have q112 : x9_3 < (l0.length : Int) := of_decide_eq_true (by assumption)
             obtain ⟨ad112, A112_2, c112_2, e112, hx112_0, hx112_1, hx112_2, hl112_2, hi112_2⟩ := at_T26 (Kd.V_reads' HO_0.out).2.2 x9_3 p112 q112
             cases e112
             obtain ⟨ce112, hce112, hMe112, hcc112⟩ := Kd.V_get HO_0.out z26 x9_3 p112 (by first | exact q112 | exact of_decide_eq_true (by assumption) | (have e_ := (Kd.V_reads' HO_0.out).1; omega))
             obtain ⟨ua112_2, uc112_2, rfl, ul112_2, ge112_2⟩ := k26_openF hMe112
             have hv112_2 := hcc112 2 _ rfl
             rw [add_field _ _ 2 (by omega)] at hv112_2
             replace hv112_2 := Option.some.inj (hv112_2.symm.trans hx112_2)
             injection hv112_2 with hva_ hvn_ hvc_
             rw [hva_] at ge112_2
             rw [hvc_] at ul112_2
             have HL112_2 := AM (show Kd.V k72 72 _ w.heap.size _ _ ((rd_T26 l0 x9_3).f2) from Kd.V_mk ul112_2 ge112_2)
             clear hva_ hvn_ hvc_ ge112_2 ul112_2
             clear hcc112 hce112
             have HR112_2 := AM hi112_2
             have HC112_2 := AM hl112_2
             clear hi112_2 hl112_2
             replace p112 := eq_true p112
             replace q112 := eq_true q112
             go_wp2
             go_roundg k4
             case measure => have := HK1.out; have := HK2.out; have := HK3.out; have := HK4.out; omega
             case rel => exact ⟨(wrap64 (x9_3 + 1)), (x109000_4), (x109001_4), (x109002_4), (x109003_4), (u109003), (by first | rfl | (simp; done) | (simp [*]; done)), H', ⟨by have := HK1.out; have := HK2.out; have := HK3.out; have := HK4.out; omega⟩, ⟨by (with_reducible repeat (first | apply Kd.V_alloc | apply Kd.V_drewN | apply Kd.V_drew)); exact HO_0.out⟩, ⟨rX HO_3.out⟩, ⟨by (with_reducible repeat (first | apply Kd.V_alloc | apply Kd.V_drewN | apply Kd.V_drew)); exact HO_109003.out⟩, ⟨kX BK108.out⟩, ⟨bX HB.out⟩⟩
            rw [if_neg c15] at H
            exact absurd H (by simp)
           rw [if_neg c14] at H
           exact absurd H (by simp)
        rw [if_neg c13] at H
        have c13b0 : decide (x9_3 < (l0.length : Int)) = false := decide_eq_false c13
        clear c13
        by_cases c31 : x3_2.length < 5864062014805
        ·
         rw [if_pos c31] at H
         have LMc31 := AM c31
         clear c31
         obtain ⟨y109, hy109⟩ : ∃ y_ : List (S67), y_ = (x3_2 ++ [(⟨x7_2, x109002_3⟩ : S67)]) := ⟨_, rfl⟩
         replace H : (spec_l12Wanted.l2 k3 l0 y109 x4_1 (wrap64 (x7_2 + 1))) = some r := by first | (rw [hy109]; with_reducible exact H) | (have H2_ := (Option.bind_some _ _).symm.trans H; rw [hy109]; with_reducible exact H2_) | (have H2_ := (Option.bind_some _ _).symm.trans H; with_reducible exact H2_) | with_reducible exact H | (rw [hy109]; exact H) | exact H
         have Ny109 := AM hy109
         clear hy109
         have H' := AM H
         clear H
         have hcz32 := q4 BK108.out
         have hfz32 := fZ BK108.out
         go_wp2_with (first | ((with_reducible refine gate_builtin (b := .append) (xs := #[.tmp 82, .tmp 87]) rfl ?_); at_builtin; refine Kd.R_append k67 (w0 := w) w.heap.size rfl (.tmp 82) (.tmp 87) 37 67 (.agg #[(.int .i64 0), (.string ⟨#[]⟩)]) 24 rfl Try.underlying37 info67 rfl (by decide) (by omega) u3 x3_2 (⟨x7_2, x109002_3⟩ : S67) [.int .i64 x7_2, .string x109002_3] (fun k_ => (w.heap.size ≤ k_)) (fun _ => False) rfl rfl ?aP (fun _ hk => hk.elim) ?aF ?aO ?aB ?aS ?aL ?_; (case aP => exact k67_mkM _ _ _ (⟨x7_2, x109002_3⟩ : S67)); (case aB => exact (bX HB.out)); (case aF => exact (fun k_ hk => (Nat.le_trans (bZ (bX HB.out)) hk))); (case aO => exact (rX HO_3.out)); (case aS => exact (bZ (bX HB.out))); (case aL => have := LMc31.out; omega); intro v110 w33 ho hb hg hat; rw [← Ny109.out] at ho; have _ := AM (Kd.V_afterv (ok := (fun k_ => (P0_ k_ ∨ w.heap.size ≤ k_) ∧ k_ ≠ gb108)) (by (with_reducible repeat (first | apply Kd.V_alloc | apply Kd.V_drewN | apply Kd.V_drew)); exact Kd.V_mono HO_0.out (fun _ hk => ⟨⟨hk.1, hk.2.2⟩, hk.2.1⟩)) hg hat); have _ := AM (Kd.V_afterv (ok := (fun k_ => (P0_ k_ ∨ w.heap.size ≤ k_) ∧ k_ ≠ gb108)) (by (with_reducible repeat (first | apply Kd.V_alloc | apply Kd.V_drewN | apply Kd.V_drew)); exact Kd.V_mono HO_109003.out (fun _ hk => ⟨⟨hk.1, hk.2.2⟩, hk.2.1⟩)) hg hat); have _ := AM (blk_grown (g := gb108) (o := .cells #[.int .i64 x109000_3, .int .i64 x109001_3, .string x109002_3, u109003] 72 (0, 0)) (kX BK108.out) hg (Kd.R_ne HO_3.out BK108.out (by decide))); have _ := AM (hb); have _ := AM (ho); clear HO_0 HO_109003 BK108 HB HO_3; rename_i HO_0 HO_109003 BK108 HB HO111; clear ho hb hg hat))
         go_roundg k3
         case measure => have := HK1.out; have := HK2.out; have := HK3.out; omega
         case rel => exact ⟨(y109), (wrap64 (x7_2 + 1)), (by first | rfl | (simp; done) | (simp [*]; done)), H', ⟨by have := HK1.out; have := HK2.out; have := HK3.out; omega⟩, ⟨by (with_reducible repeat (first | apply Kd.V_alloc | apply Kd.V_drewN | apply Kd.V_drew)); exact Kd.V_mono HO_0.out (fun _ hk => ⟨hk.1.1, hk.2⟩)⟩, ⟨rX HO111.out⟩, ⟨bX HB.out⟩⟩
        rw [if_neg c31] at H
        exact absurd H (by simp)
     rw [if_neg c10] at H
     have c10b0 : decide (x7_2 ≤ x4_1) = false := decide_eq_false c10
     clear c10
     obtain rfl := Option.some.inj H
     go_wp2
     go_ret
     exact ⟨_, by first | rfl | (simp [*, errW_none, errW_some] <;> rfl), rX HO_3.out, bX HB.out⟩

/-! ### spec_Wanted: function 15 -/
abbrev spec_Wanted.b0 : Array Bool := #[true, true, true, true, true, true, true, true, true, true, true, true, true, true, true, false, true, false, false, false, false, false, false, false]
abbrev spec_Wanted.b1 : Array Bool := #[true, true, true, true, true, true, true, true, true, true, true, true, true, true, true, false, true, true, false, false, false, false, false, false]
abbrev spec_Wanted.b2 : Array Bool := #[true, true, true, true, true, true, true, true, true, true, true, true, true, true, true, false, true, true, true, false, false, false, false, false]
abbrev spec_Wanted.b3 : Array Bool := #[true, true, true, true, true, true, true, true, true, true, true, true, true, true, true, false, true, true, true, true, false, false, false, false]
def spec_Wanted.l0 : Nat → List (S26) → Int → Option ((List (S67)))
  | 0, _, _ => none
  | k + 1, x0, x3 => if x3 < (x0.length : Int) then (if 0 ≤ x3 then ((spec_ChangeRight.f k ((rd_T26 x0 x3).f0) ((rd_T26 x0 x3).f1) ((rd_T26 x0 x3).f2)).bind fun t105 => (if t105 = true then (if x3 > 0 then (if 0 ≤ (wrap64 (x3 - 1)) then (if (wrap64 (x3 - 1)) < (x0.length : Int) then (if ((rd_T26 x0 (wrap64 (x3 - 1))).f0) ≥ ((rd_T26 x0 x3).f0) then (some (([] : List (S67)))) else (spec_Wanted.l0 k x0 (wrap64 (x3 + 1)))) else (none)) else (none)) else (spec_Wanted.l0 k x0 (wrap64 (x3 + 1)))) else (some (([] : List (S67)))))) else (none)) else ((spec_l12Wanted.f k x0).bind fun t114 => (some t114))
def spec_Wanted.f (k : Nat) (l0 : List (S26)) : Option ((List (S67))) := if (l0.length : Int) > 4 then (some (([] : List (S67)))) else (spec_Wanted.l0 k l0 0)
theorem spec_Wanted.mono_l : ∀ k, (∀ y0 y1, LeO (spec_Wanted.l0 k y0 y1) (spec_Wanted.l0 (k + 1) y0 y1))
  | 0 => fun _ _ r h => by simp [spec_Wanted.l0] at h
  | k + 1 => by
    have ih0 := spec_Wanted.mono_l k
    · intro y0 y1
      unfold spec_Wanted.l0
      repeat' first
      | (with_reducible exact ih0 _ _)
      | (with_reducible exact spec_ChangeRight.mono _ _ _ _)
      | (with_reducible exact spec_l12Wanted.mono _ _)
      | (with_reducible exact LeO.refl _)
      | (with_reducible exact LeO.none _)
      | (with_reducible refine LeO.ite ?_ ?_)
      | (with_reducible refine LeO.bind ?_ (fun _ => ?_))
      | exact ih0 _ _
      | exact spec_ChangeRight.mono _ _ _ _
      | exact spec_l12Wanted.mono _ _
      | exact LeO.none _
      | refine LeO.ite ?_ ?_
      | refine LeO.bind ?_ (fun _ => ?_)
theorem spec_Wanted.mono : ∀ a0 k, LeO (spec_Wanted.f k a0) (spec_Wanted.f (k + 1) a0) := by
  intro a0 k
  have ih0 := spec_Wanted.mono_l k
  unfold spec_Wanted.f
  repeat' first
      | (with_reducible exact ih0 _ _)
      | (with_reducible exact spec_ChangeRight.mono _ _ _ _)
      | (with_reducible exact spec_l12Wanted.mono _ _)
      | (with_reducible exact LeO.refl _)
      | (with_reducible exact LeO.none _)
      | (with_reducible refine LeO.ite ?_ ?_)
      | (with_reducible refine LeO.bind ?_ (fun _ => ?_))
      | exact ih0 _ _
      | exact spec_ChangeRight.mono _ _ _ _
      | exact spec_l12Wanted.mono _ _
      | exact LeO.none _
      | refine LeO.ite ?_ ?_
      | refine LeO.bind ?_ (fun _ => ?_)
def spec_Wanted.T6 : Bool × List (List Nat × List Nat) := (true, [([], []), ([], []), ([0, 1], [0, 1]), ([2], [2]), ([3], [3]), ([4], [4]), ([5, 4], [5]), ([6], [6]), ([7, 6], [6, 7]), ([8, 6, 6], [6, 8]), ([9], [9]), ([9], [9]), ([11, 9], [9, 11]), ([10, 12, 9], [9, 10, 12]), ([13, 9], [9, 13]), ([14, 9], [9, 14]), ([9], [9]), ([9], [9]), ([16, 17, 9], [9, 16, 17]), ([18, 9], [9, 18]), ([19, 9], [9, 19]), ([15, 20, 9], [9, 15, 20]), ([9, 21, 6], [6, 9, 21]), ([6, 22], [6, 22])])
def spec_Wanted.B6 : List Nat := [0, 0, 3, 7, 15, 31, 63, 127, 255, 511, 1023, 1023, 3071, 8191, 16383, 32767, 1023, 1023, 197631, 459775, 984063, 2097151, 4194303, 8388607]
theorem spec_Wanted.tab6 : rtab .any (opsOf Try.f15 6) = spec_Wanted.T6 := by kernel_rfl
theorem spec_Wanted.bits6 : waitsOk spec_Wanted.T6.2 spec_Wanted.B6 = true := by kernel_rfl
set_option maxHeartbeats 60000000 in
set_option maxRecDepth 100000 in
theorem spec_Wanted.calls (k : Nat) (A0 : Option Addr) (c0 : Nat) (l0 : List (S26)) (r : List (S67)) (w : World) (hr0 : Kd.C k26 w A0 l0.length l0) (hc0 : l0.length ≤ c0) (h : spec_Wanted.f k l0 = some r) :
    Calls Try.prog 15 #[.slice A0 l0.length c0] w fun e w' => ∃ v0_ : Value, e = .returned (v0_) ∧ Kd.R k67 67 w' w.heap.size (fun _ => True) v0_ r ∧ Below w.heap.size w w' := by
 have hu26 := Try.underlying26
 have HR0 := AM hr0
 have HC0 := AM hc0
 clear hr0 hc0
 have HB := AM (Below.refl w.heap.size w)
 have H : (if (l0.length : Int) > 4 then (some (([] : List (S67)))) else (spec_Wanted.l0 k l0 0)) = some r := h
 clear h
 by_cases c2 : (l0.length : Int) > 4
 ·
  rw [if_pos c2] at H
  have c2b0 : decide (4 < (l0.length : Int)) = true := decide_eq_true c2
  have c2b1 : decide (4 < l0.length) = true := decide_eq_true (by omega)
  clear c2
  obtain ⟨y101, hy101⟩ : ∃ y_ : List (S67), y_ = (([] : List (S67))) := ⟨_, rfl⟩
  replace H : (some y101) = some r := by first | (rw [hy101]; with_reducible exact H) | (have H2_ := (Option.bind_some _ _).symm.trans H; rw [hy101]; with_reducible exact H2_) | (have H2_ := (Option.bind_some _ _).symm.trans H; with_reducible exact H2_) | with_reducible exact H | (rw [hy101]; exact H) | exact H
  have Ny101 := AM hy101
  clear hy101
  obtain rfl := Option.some.inj H
  go_enter Try.func15, Try.ntmps15
  go_wp2_with (first | ((with_reducible refine gate_dst (N := 7) rfl ?_); refine Kd.R_lit k67 _ 67 ?hg (N := 7) ?hd (xs := ([] : List (S67))) (inner := []) (ok := fun _ => True) (okp := fun _ => True) ?hr ?hp (fun _ hk => hk) trivial (Below.refl _ _) (Nat.le_refl _) (by simp) ?_; (case hd => rfl); (case hg => rfl); (case hr => first | (go_simp; done) | (go_simp; rfl)); (case hp => exact (Reps.none _ _)); intro v102 w3 ho4 hb hg_ hnew_; clear hg_ hnew_; (first | rw [← Ny101.out] at ho4 | (simp only [Int.reduceToNat] at ho4; rw [← Ny101.out] at ho4)); have _ := AM (Kd.R_lower ho4 (bZ (bX HB.out))); have _ := AM (below_step (bX HB.out) hb); clear HB; rename_i HO103 HB; clear hb ho4))
  go_ret
  exact ⟨_, by first | rfl | (simp [*, errW_none, errW_some] <;> rfl), rX HO103.out, bX HB.out⟩
 rw [if_neg c2] at H
 have c2b0 : decide (4 < (l0.length : Int)) = false := decide_eq_false c2
 have c2b1 : decide (4 < l0.length) = false := decide_eq_false (by omega)
 clear c2
 have H' := AM H
 clear H
 go_enter Try.func15, Try.ntmps15
 go_wp2
 go_loopg [3] k (fun kq v3 w' => ∃ (x3_1 : Int), v3 = .int .i64 x3_1 ∧ Aside0 (spec_Wanted.l0 kq l0 x3_1 = some r) ∧ Aside0 (kq ≤ k) ∧ Aside0 (Below w.heap.size w w'))
 case atStart => exact ⟨(0), (by first | rfl | (simp; done) | (simp [*]; done)), H', ⟨Nat.le_refl _⟩, ⟨bX HB.out⟩⟩
 case round =>
  clear H'
  (try clear c1); (try clear c2); (try clear c2b0); (try clear c2b1); (try clear p2)
  obtain ⟨x3_1, rfl, HA, HK1, HB⟩ := hrel
  cases gk with
  | zero => exact absurd HA.out (by simp [spec_Wanted.l0])
  | succ k1 =>
   have H := HA.out
   clear HA
   simp only [spec_Wanted.l0] at H
   by_cases c5 : x3_1 < (l0.length : Int)
   ·
    rw [if_pos c5] at H
    have c5b0 : decide (x3_1 < (l0.length : Int)) = true := decide_eq_true c5
    clear c5
    by_cases c6 : 0 ≤ x3_1
    ·
     rw [if_pos c6] at H
     have c6b0 : decide (0 ≤ x3_1) = true := decide_eq_true c6
     clear c6
     replace H := Option.bind_eq_some_iff.mp H
     obtain ⟨t105, A70, H⟩ := H
     replace H : (if t105 = true then (if x3_1 > 0 then (if 0 ≤ (wrap64 (x3_1 - 1)) then (if (wrap64 (x3_1 - 1)) < (l0.length : Int) then (if ((rd_T26 l0 (wrap64 (x3_1 - 1))).f0) ≥ ((rd_T26 l0 x3_1).f0) then (some (([] : List (S67)))) else (spec_Wanted.l0 k1 l0 (wrap64 (x3_1 + 1)))) else (none)) else (none)) else (spec_Wanted.l0 k1 l0 (wrap64 (x3_1 + 1)))) else (some (([] : List (S67))))) = some r := H
     have A7 := AM A70
     clear A70
     by_cases c8 : t105 = true
     ·
      subst c8
      have H1 : (if x3_1 > 0 then (if 0 ≤ (wrap64 (x3_1 - 1)) then (if (wrap64 (x3_1 - 1)) < (l0.length : Int) then (if ((rd_T26 l0 (wrap64 (x3_1 - 1))).f0) ≥ ((rd_T26 l0 x3_1).f0) then (some (([] : List (S67)))) else (spec_Wanted.l0 k1 l0 (wrap64 (x3_1 + 1)))) else (none)) else (none)) else (spec_Wanted.l0 k1 l0 (wrap64 (x3_1 + 1)))) = some r := by rw [if_pos rfl] at H; exact H
      clear H
      have H := H1
      clear H1
      by_cases c9 : x3_1 > 0
      ·
       rw [if_pos c9] at H
       have c9b0 : decide (0 < x3_1) = true := decide_eq_true c9
       clear c9
       obtain ⟨ji10, hji10⟩ : ∃ j_ : Int, (wrap64 (x3_1 - 1)) = j_ := ⟨_, rfl⟩
       replace H : (if 0 ≤ (ji10) then (if (ji10) < (l0.length : Int) then (if ((rd_T26 l0 (ji10)).f0) ≥ ((rd_T26 l0 x3_1).f0) then (some (([] : List (S67)))) else (spec_Wanted.l0 k1 l0 (wrap64 (x3_1 + 1)))) else (none)) else (none)) = some r := by first | (rw [hji10] at H; exact H) | (simp only [hji10] at H ⊢; exact H)
       (try rw [hji10] at A7)
       have hji10w : (IntKind.i64.wrap (x3_1 - 1)) = ji10 := (i64_w _).trans hji10
       by_cases c11 : 0 ≤ (ji10)
       ·
        rw [if_pos c11] at H
        have c11b0 : decide (0 ≤ (ji10)) = true := decide_eq_true c11
        clear c11
        by_cases c12 : (ji10) < (l0.length : Int)
        ·
         rw [if_pos c12] at H
         have c12b0 : decide ((ji10) < (l0.length : Int)) = true := decide_eq_true c12
         clear c12
         by_cases c13 : ((rd_T26 l0 (ji10)).f0) ≥ ((rd_T26 l0 x3_1).f0)
         ·
          rw [if_pos c13] at H
          have c13b0 : decide (((rd_T26 l0 x3_1).f0) ≤ ((rd_T26 l0 (ji10)).f0)) = true := decide_eq_true c13
          clear c13
          obtain ⟨y108, hy108⟩ : ∃ y_ : List (S67), y_ = (([] : List (S67))) := ⟨_, rfl⟩
          replace H : (some y108) = some r := by first | (rw [hy108]; with_reducible exact H) | (have H2_ := (Option.bind_some _ _).symm.trans H; rw [hy108]; with_reducible exact H2_) | (have H2_ := (Option.bind_some _ _).symm.trans H; with_reducible exact H2_) | with_reducible exact H | (rw [hy108]; exact H) | exact H
          have Ny108 := AM hy108
          clear hy108
          obtain rfl := Option.some.inj H
          try go_wp2
          have _ := AM (bD HB.out)
          clear HB
          rename_i HB
          have p104 : 0 ≤ (x3_1 : Int) := of_decide_eq_true (by assumption)
          have q104 : x3_1 < (l0.length : Int) := of_decide_eq_true (by assumption)
          obtain ⟨ad104, A104_2, c104_2, e104, hx104_0, hx104_1, hx104_2, hl104_2, hi104_2⟩ := at_T26 HR0.out x3_1 p104 q104
          have hw104_2 := hx104_2
          have hw104_1 := hx104_1
          have hw104_0 := hx104_0
          cases e104
          replace hx104_0 := pw_cell_below HB.out hx104_0
          replace hx104_1 := pw_cell_below HB.out hx104_1
          replace hx104_2 := pw_cell_below HB.out hx104_2
          have HR104_2 := AM hi104_2
          have HC104_2 := AM hl104_2
          clear hi104_2 hl104_2
          replace p104 := eq_true p104
          replace q104 := eq_true q104
          have p106 : 0 ≤ ((ji10) : Int) := of_decide_eq_true (by assumption)
          have q106 : (ji10) < (l0.length : Int) := of_decide_eq_true (by assumption)
          obtain ⟨ad106, A106_2, c106_2, e106, hx106_0, hx106_1, hx106_2, hl106_2, hi106_2⟩ := at_T26 HR0.out (ji10) p106 q106
          have hw106_2 := hx106_2
          have hw106_1 := hx106_1
          have hw106_0 := hx106_0
          obtain rfl : ad104 = ad106 := (by injection e106)
          replace hx106_0 := pw_cell_below HB.out hx106_0
          replace hx106_1 := pw_cell_below HB.out hx106_1
          replace hx106_2 := pw_cell_below HB.out hx106_2
          have HR106_2 := AM hi106_2
          have HC106_2 := AM hl106_2
          clear hi106_2 hl106_2
          replace p106 := eq_true p106
          replace q106 := eq_true q106
          have p107 : 0 ≤ (x3_1 : Int) := of_decide_eq_true (by assumption)
          have q107 : x3_1 < (l0.length : Int) := of_decide_eq_true (by assumption)
          obtain ⟨ad107, A107_2, c107_2, e107, hx107_0, hx107_1, hx107_2, hl107_2, hi107_2⟩ := at_T26 HR0.out x3_1 p107 q107
          have hw107_2 := hx107_2
          have hw107_1 := hx107_1
          have hw107_0 := hx107_0
          obtain rfl : ad104 = ad107 := (by injection e107)
          replace hx107_0 := pw_cell_below HB.out hx107_0
          replace hx107_1 := pw_cell_below HB.out hx107_1
          replace hx107_2 := pw_cell_below HB.out hx107_2
          have HR107_2 := AM hi107_2
          have HC107_2 := AM hl107_2
          clear hi107_2 hl107_2
          replace p107 := eq_true p107
          replace q107 := eq_true q107
          refine start_ (n := 24) (S := fun w' => w'.cell? (ad104.add ((x3_1).toNat * 3)) = some (.int .i64 ((rd_T26 l0 x3_1).f0)) ∧ w'.cell? ⟨(ad104.add ((x3_1).toNat * 3)).block, (ad104.add ((x3_1).toNat * 3)).off + 1, none⟩ = some (.int .i64 ((rd_T26 l0 x3_1).f1)) ∧ w'.cell? ⟨(ad104.add ((x3_1).toNat * 3)).block, (ad104.add ((x3_1).toNat * 3)).off + 2, none⟩ = some (.slice A104_2 ((rd_T26 l0 x3_1).f2).length c104_2) ∧ w'.cell? (ad104.add (((ji10)).toNat * 3)) = some (.int .i64 ((rd_T26 l0 (ji10)).f0)) ∧ w'.cell? ⟨(ad104.add (((ji10)).toNat * 3)).block, (ad104.add (((ji10)).toNat * 3)).off + 1, none⟩ = some (.int .i64 ((rd_T26 l0 (ji10)).f1)) ∧ w'.cell? ⟨(ad104.add (((ji10)).toNat * 3)).block, (ad104.add (((ji10)).toNat * 3)).off + 2, none⟩ = some (.slice A106_2 ((rd_T26 l0 (ji10)).f2).length c106_2) ∧ w'.cell? (ad104.add ((x3_1).toNat * 3)) = some (.int .i64 ((rd_T26 l0 x3_1).f0)) ∧ w'.cell? ⟨(ad104.add ((x3_1).toNat * 3)).block, (ad104.add ((x3_1).toNat * 3)).off + 1, none⟩ = some (.int .i64 ((rd_T26 l0 x3_1).f1)) ∧ w'.cell? ⟨(ad104.add ((x3_1).toNat * 3)).block, (ad104.add ((x3_1).toNat * 3)).off + 2, none⟩ = some (.slice A107_2 ((rd_T26 l0 x3_1).f2).length c107_2)) (ds := []) (upTo 0 24) (by kernel_rfl) rfl rfl ⟨(pw_cell_below HB.out hw104_0), (pw_cell_below HB.out hw104_1), (pw_cell_below HB.out hw104_2), (pw_cell_below HB.out hw106_0), (pw_cell_below HB.out hw106_1), (pw_cell_below HB.out hw106_2), (pw_cell_below HB.out hw107_0), (pw_cell_below HB.out hw107_1), (pw_cell_below HB.out hw107_2)⟩ (fun hHeld => ?_); refine with_tabW spec_Wanted.tab6 spec_Wanted.bits6 (fun HT_ HW_ => ?_)
          generalize wr.drew = w14 at HB HR104_2 HR106_2 HR107_2 hx104_0 hx104_1 hx104_2 hx106_0 hx106_1 hx106_2 hx107_0 hx107_1 hx107_2 hHeld ⊢
          refine pF 0 1 24 14 ?_
          refine pF 1 2 24 15 ?_
          refine pF 2 3 24 16 ?_
          refine pT2 3 17 (upTo 4 24) ?_ hHeld
          refine one_ (i := 4) (N := some 18) (upTo 5 24) rfl rfl (one_of HT_.out (by kernel_rfl)) (by decide) (fun K hK => ?_)
          refine goes_ Try.func39 (by kernel_rfl) rfl #[.agg #[.int .i64 ((rd_T26 l0 x3_1).f0), .int .i64 ((rd_T26 l0 x3_1).f1), .slice A104_2 ((rd_T26 l0 x3_1).f2).length c104_2]] (by rfl) rfl rfl (by (try simp only [mA, mB, mC]); first | done | rfl | (simp only [mD, mE]; rfl)) ?_
          with_reducible refine (spec_ChangeRight.calls k1 ((rd_T26 l0 x3_1).f0) ((rd_T26 l0 x3_1).f1) _ _ ((rd_T26 l0 x3_1).f2) true _ ?side1 ?side2 A7.out).mono ?_
          (case side1 => repeat (first | exact (cB HR104_2.out HB.out) | (with_reducible first | apply cA | apply cN | apply cD)))
          (case side2 => exact HC104_2.out)
          rintro e w15 ⟨rfl, hb⟩
          refine ⟨_, rfl, ?_⟩
          have _ := AM (below_step (bX HB.out) hb)
          clear HB
          rename_i HB
          (try clear hb)
          (try clear hk)
          refine hK.out _ _ ⟨(pw_cell_below HB.out hw104_0), (pw_cell_below HB.out hw104_1), (pw_cell_below HB.out hw104_2), (pw_cell_below HB.out hw106_0), (pw_cell_below HB.out hw106_1), (pw_cell_below HB.out hw106_2), (pw_cell_below HB.out hw107_0), (pw_cell_below HB.out hw107_1), (pw_cell_below HB.out hw107_2)⟩ (fun hHeld => ?_)
          clear hK K
          refine norm_ (a' := ?_) ?_ ?_
          rotate_left
          ·
           show Act.put _ (some 18) _ = _
           simp only [Act.put, sA, sB, sC, i64_w, i32_w]
           rfl
          refine pF 5 6 24 19 ?_
          refine pF 6 7 24 20 ?_
          refine pF 7 8 24 21 ?_
          refine pF 8 9 24 22 ?_
          refine pF 9 10 24 23 ?_
          refine pF 10 11 24 24 ?_
          refine pF 11 12 24 25 ?_
          refine pF 12 13 24 26 ?_
          refine pF 13 14 24 27 ?_
          refine pF 14 15 24 28 ?_
          refine pF2 16 30 spec_Wanted.b0 ?_
          refine pF2 17 31 spec_Wanted.b1 ?_
          refine pF2 18 32 spec_Wanted.b2 ?_
          refine pF2 19 33 spec_Wanted.b3 ?_
          refine pT2 15 29 (upTo 20 24) ?_ hHeld
          refine pT2 20 34 (upTo 21 24) ?_ hHeld
          refine pF 21 22 24 35 ?_
          refine pF 22 23 24 36 ?_
          refine pF 23 24 24 37 ?_
          refine done_ (done_of HT_.out (by kernel_rfl)) ?_
          try go_wp2_with (first | ((with_reducible refine gate_dst (N := 38) rfl ?_); refine Kd.R_lit k67 _ 67 ?hg (N := 38) ?hd (xs := ([] : List (S67))) (inner := []) (ok := fun _ => True) (okp := fun _ => True) ?hr ?hp (fun _ hk => hk) trivial (Below.refl _ _) (Nat.le_refl _) (by simp) ?_; (case hd => rfl); (case hg => rfl); (case hr => first | (go_simp; done) | (go_simp; rfl)); (case hp => exact (Reps.none _ _)); intro v109 w16 ho17 hb hg_ hnew_; clear hg_ hnew_; (first | rw [← Ny108.out] at ho17 | (simp only [Int.reduceToNat] at ho17; rw [← Ny108.out] at ho17)); have _ := AM (Kd.R_lower ho17 (bZ (bX HB.out))); have _ := AM (below_step (bX HB.out) hb); clear HB; rename_i HO110 HB; clear hb ho17))
          go_ret
          exact ⟨_, by first | rfl | (simp [errW_none, errW_some] <;> rfl) | (simp only [← hji10]; first | rfl | (simp [errW_none, errW_some] <;> rfl)) | (simp [*, errW_none, errW_some] <;> rfl), rX HO110.out, bX HB.out⟩
         rw [if_neg c13] at H
         have c13b0 : decide (((rd_T26 l0 x3_1).f0) ≤ ((rd_T26 l0 (ji10)).f0)) = false := decide_eq_false c13
         clear c13
         have H' := AM H
         clear H
         try go_wp2
         have _ := AM (bD HB.out)
         clear HB
         rename_i HB
         have p104 : 0 ≤ (x3_1 : Int) := of_decide_eq_true (by assumption)
         have q104 : x3_1 < (l0.length : Int) := of_decide_eq_true (by assumption)
         obtain ⟨ad104, A104_2, c104_2, e104, hx104_0, hx104_1, hx104_2, hl104_2, hi104_2⟩ := at_T26 HR0.out x3_1 p104 q104
         have hw104_2 := hx104_2
         have hw104_1 := hx104_1
         have hw104_0 := hx104_0
         cases e104
         replace hx104_0 := pw_cell_below HB.out hx104_0
         replace hx104_1 := pw_cell_below HB.out hx104_1
         replace hx104_2 := pw_cell_below HB.out hx104_2
         have HR104_2 := AM hi104_2
         have HC104_2 := AM hl104_2
         clear hi104_2 hl104_2
         replace p104 := eq_true p104
         replace q104 := eq_true q104
         have p106 : 0 ≤ ((ji10) : Int) := of_decide_eq_true (by assumption)
         have q106 : (ji10) < (l0.length : Int) := of_decide_eq_true (by assumption)
         obtain ⟨ad106, A106_2, c106_2, e106, hx106_0, hx106_1, hx106_2, hl106_2, hi106_2⟩ := at_T26 HR0.out (ji10) p106 q106
         have hw106_2 := hx106_2
         have hw106_1 := hx106_1
         have hw106_0 := hx106_0
         obtain rfl : ad104 = ad106 := (by injection e106)
         replace hx106_0 := pw_cell_below HB.out hx106_0
         replace hx106_1 := pw_cell_below HB.out hx106_1
         replace hx106_2 := pw_cell_below HB.out hx106_2
         have HR106_2 := AM hi106_2
         have HC106_2 := AM hl106_2
         clear hi106_2 hl106_2
         replace p106 := eq_true p106
         replace q106 := eq_true q106
         have p107 : 0 ≤ (x3_1 : Int) := of_decide_eq_true (by assumption)
         have q107 : x3_1 < (l0.length : Int) := of_decide_eq_true (by assumption)
         obtain ⟨ad107, A107_2, c107_2, e107, hx107_0, hx107_1, hx107_2, hl107_2, hi107_2⟩ := at_T26 HR0.out x3_1 p107 q107
         have hw107_2 := hx107_2
         have hw107_1 := hx107_1
         have hw107_0 := hx107_0
         obtain rfl : ad104 = ad107 := (by injection e107)
         replace hx107_0 := pw_cell_below HB.out hx107_0
         replace hx107_1 := pw_cell_below HB.out hx107_1
         replace hx107_2 := pw_cell_below HB.out hx107_2
         have HR107_2 := AM hi107_2
         have HC107_2 := AM hl107_2
         clear hi107_2 hl107_2
         replace p107 := eq_true p107
         replace q107 := eq_true q107
         refine start_ (n := 24) (S := fun w' => w'.cell? (ad104.add ((x3_1).toNat * 3)) = some (.int .i64 ((rd_T26 l0 x3_1).f0)) ∧ w'.cell? ⟨(ad104.add ((x3_1).toNat * 3)).block, (ad104.add ((x3_1).toNat * 3)).off + 1, none⟩ = some (.int .i64 ((rd_T26 l0 x3_1).f1)) ∧ w'.cell? ⟨(ad104.add ((x3_1).toNat * 3)).block, (ad104.add ((x3_1).toNat * 3)).off + 2, none⟩ = some (.slice A104_2 ((rd_T26 l0 x3_1).f2).length c104_2) ∧ w'.cell? (ad104.add (((ji10)).toNat * 3)) = some (.int .i64 ((rd_T26 l0 (ji10)).f0)) ∧ w'.cell? ⟨(ad104.add (((ji10)).toNat * 3)).block, (ad104.add (((ji10)).toNat * 3)).off + 1, none⟩ = some (.int .i64 ((rd_T26 l0 (ji10)).f1)) ∧ w'.cell? ⟨(ad104.add (((ji10)).toNat * 3)).block, (ad104.add (((ji10)).toNat * 3)).off + 2, none⟩ = some (.slice A106_2 ((rd_T26 l0 (ji10)).f2).length c106_2) ∧ w'.cell? (ad104.add ((x3_1).toNat * 3)) = some (.int .i64 ((rd_T26 l0 x3_1).f0)) ∧ w'.cell? ⟨(ad104.add ((x3_1).toNat * 3)).block, (ad104.add ((x3_1).toNat * 3)).off + 1, none⟩ = some (.int .i64 ((rd_T26 l0 x3_1).f1)) ∧ w'.cell? ⟨(ad104.add ((x3_1).toNat * 3)).block, (ad104.add ((x3_1).toNat * 3)).off + 2, none⟩ = some (.slice A107_2 ((rd_T26 l0 x3_1).f2).length c107_2)) (ds := []) (upTo 0 24) (by kernel_rfl) rfl rfl ⟨(pw_cell_below HB.out hw104_0), (pw_cell_below HB.out hw104_1), (pw_cell_below HB.out hw104_2), (pw_cell_below HB.out hw106_0), (pw_cell_below HB.out hw106_1), (pw_cell_below HB.out hw106_2), (pw_cell_below HB.out hw107_0), (pw_cell_below HB.out hw107_1), (pw_cell_below HB.out hw107_2)⟩ (fun hHeld => ?_); refine with_tabW spec_Wanted.tab6 spec_Wanted.bits6 (fun HT_ HW_ => ?_)
         generalize wr.drew = w18 at HB HR104_2 HR106_2 HR107_2 hx104_0 hx104_1 hx104_2 hx106_0 hx106_1 hx106_2 hx107_0 hx107_1 hx107_2 hHeld ⊢
         refine pF 0 1 24 14 ?_
         refine pF 1 2 24 15 ?_
         refine pF 2 3 24 16 ?_
         refine pT2 3 17 (upTo 4 24) ?_ hHeld
         refine one_ (i := 4) (N := some 18) (upTo 5 24) rfl rfl (one_of HT_.out (by kernel_rfl)) (by decide) (fun K hK => ?_)
         refine goes_ Try.func39 (by kernel_rfl) rfl #[.agg #[.int .i64 ((rd_T26 l0 x3_1).f0), .int .i64 ((rd_T26 l0 x3_1).f1), .slice A104_2 ((rd_T26 l0 x3_1).f2).length c104_2]] (by rfl) rfl rfl (by (try simp only [mA, mB, mC]); first | done | rfl | (simp only [mD, mE]; rfl)) ?_
         with_reducible refine (spec_ChangeRight.calls k1 ((rd_T26 l0 x3_1).f0) ((rd_T26 l0 x3_1).f1) _ _ ((rd_T26 l0 x3_1).f2) true _ ?side1 ?side2 A7.out).mono ?_
         (case side1 => repeat (first | exact (cB HR104_2.out HB.out) | (with_reducible first | apply cA | apply cN | apply cD)))
         (case side2 => exact HC104_2.out)
         rintro e w19 ⟨rfl, hb⟩
         refine ⟨_, rfl, ?_⟩
         have _ := AM (below_step (bX HB.out) hb)
         clear HB
         rename_i HB
         (try clear hb)
         (try clear hk)
         refine hK.out _ _ ⟨(pw_cell_below HB.out hw104_0), (pw_cell_below HB.out hw104_1), (pw_cell_below HB.out hw104_2), (pw_cell_below HB.out hw106_0), (pw_cell_below HB.out hw106_1), (pw_cell_below HB.out hw106_2), (pw_cell_below HB.out hw107_0), (pw_cell_below HB.out hw107_1), (pw_cell_below HB.out hw107_2)⟩ (fun hHeld => ?_)
         clear hK K
         refine norm_ (a' := ?_) ?_ ?_
         rotate_left
         ·
          show Act.put _ (some 18) _ = _
          simp only [Act.put, sA, sB, sC, i64_w, i32_w]
          rfl
         refine pF 5 6 24 19 ?_
         refine pF 6 7 24 20 ?_
         refine pF 7 8 24 21 ?_
         refine pF 8 9 24 22 ?_
         refine pF 9 10 24 23 ?_
         refine pF 10 11 24 24 ?_
         refine pF 11 12 24 25 ?_
         refine pF 12 13 24 26 ?_
         refine pF 13 14 24 27 ?_
         refine pF 14 15 24 28 ?_
         refine pF2 16 30 spec_Wanted.b0 ?_
         refine pF2 17 31 spec_Wanted.b1 ?_
         refine pF2 18 32 spec_Wanted.b2 ?_
         refine pF2 19 33 spec_Wanted.b3 ?_
         refine pT2 15 29 (upTo 20 24) ?_ hHeld
         refine pT2 20 34 (upTo 21 24) ?_ hHeld
         refine pF 21 22 24 35 ?_
         refine pF 22 23 24 36 ?_
         refine pF 23 24 24 37 ?_
         refine done_ (done_of HT_.out (by kernel_rfl)) ?_
         try go_wp2
         go_roundg k1
         case measure => have := HK1.out; omega
         case rel => exact ⟨(wrap64 (x3_1 + 1)), (by first | rfl | (simp; done) | (simp [*]; done)), H', ⟨by have := HK1.out; omega⟩, ⟨bX HB.out⟩⟩
        rw [if_neg c12] at H
        exact absurd H (by simp)
       rw [if_neg c11] at H
       exact absurd H (by simp)
      rw [if_neg c9] at H
      have c9b0 : decide (0 < x3_1) = false := decide_eq_false c9
      clear c9
      have H' := AM H
      clear H
      try go_wp2
      have _ := AM (bD HB.out)
      clear HB
      rename_i HB
      have p104 : 0 ≤ (x3_1 : Int) := of_decide_eq_true (by assumption)
      have q104 : x3_1 < (l0.length : Int) := of_decide_eq_true (by assumption)
      obtain ⟨ad104, A104_2, c104_2, e104, hx104_0, hx104_1, hx104_2, hl104_2, hi104_2⟩ := at_T26 HR0.out x3_1 p104 q104
      have hw104_2 := hx104_2
      have hw104_1 := hx104_1
      have hw104_0 := hx104_0
      cases e104
      replace hx104_0 := pw_cell_below HB.out hx104_0
      replace hx104_1 := pw_cell_below HB.out hx104_1
      replace hx104_2 := pw_cell_below HB.out hx104_2
      have HR104_2 := AM hi104_2
      have HC104_2 := AM hl104_2
      clear hi104_2 hl104_2
      replace p104 := eq_true p104
      replace q104 := eq_true q104
      refine start_ (n := 24) (S := fun w' => w'.cell? (ad104.add ((x3_1).toNat * 3)) = some (.int .i64 ((rd_T26 l0 x3_1).f0)) ∧ w'.cell? ⟨(ad104.add ((x3_1).toNat * 3)).block, (ad104.add ((x3_1).toNat * 3)).off + 1, none⟩ = some (.int .i64 ((rd_T26 l0 x3_1).f1)) ∧ w'.cell? ⟨(ad104.add ((x3_1).toNat * 3)).block, (ad104.add ((x3_1).toNat * 3)).off + 2, none⟩ = some (.slice A104_2 ((rd_T26 l0 x3_1).f2).length c104_2)) (ds := []) (upTo 0 24) (by kernel_rfl) rfl rfl ⟨(pw_cell_below HB.out hw104_0), (pw_cell_below HB.out hw104_1), (pw_cell_below HB.out hw104_2)⟩ (fun hHeld => ?_); refine with_tabW spec_Wanted.tab6 spec_Wanted.bits6 (fun HT_ HW_ => ?_)
      generalize wr.drew = w20 at HB HR104_2 hx104_0 hx104_1 hx104_2 hHeld ⊢
      refine pF 0 1 24 14 ?_
      refine pF 1 2 24 15 ?_
      refine pF 2 3 24 16 ?_
      refine pT2 3 17 (upTo 4 24) ?_ hHeld
      refine one_ (i := 4) (N := some 18) (upTo 5 24) rfl rfl (one_of HT_.out (by kernel_rfl)) (by decide) (fun K hK => ?_)
      refine goes_ Try.func39 (by kernel_rfl) rfl #[.agg #[.int .i64 ((rd_T26 l0 x3_1).f0), .int .i64 ((rd_T26 l0 x3_1).f1), .slice A104_2 ((rd_T26 l0 x3_1).f2).length c104_2]] (by rfl) rfl rfl (by (try simp only [mA, mB, mC]); first | done | rfl | (simp only [mD, mE]; rfl)) ?_
      with_reducible refine (spec_ChangeRight.calls k1 ((rd_T26 l0 x3_1).f0) ((rd_T26 l0 x3_1).f1) _ _ ((rd_T26 l0 x3_1).f2) true _ ?side1 ?side2 A7.out).mono ?_
      (case side1 => repeat (first | exact (cB HR104_2.out HB.out) | (with_reducible first | apply cA | apply cN | apply cD)))
      (case side2 => exact HC104_2.out)
      rintro e w21 ⟨rfl, hb⟩
      refine ⟨_, rfl, ?_⟩
      have _ := AM (below_step (bX HB.out) hb)
      clear HB
      rename_i HB
      (try clear hb)
      (try clear hk)
      refine hK.out _ _ ⟨(pw_cell_below HB.out hw104_0), (pw_cell_below HB.out hw104_1), (pw_cell_below HB.out hw104_2)⟩ (fun hHeld => ?_)
      clear hK K
      refine norm_ (a' := ?_) ?_ ?_
      rotate_left
      ·
       show Act.put _ (some 18) _ = _
       simp only [Act.put, sA, sB, sC, i64_w, i32_w]
       rfl
      refine pF 5 6 24 19 ?_
      refine pF 6 7 24 20 ?_
      refine pF 7 8 24 21 ?_
      refine pF 8 9 24 22 ?_
      refine pF 9 10 24 23 ?_
      refine pU 10 11 24 24 ?_
      refine pU 11 12 24 25 ?_
      refine pU 12 13 24 26 ?_
      refine pU 13 14 24 27 ?_
      refine pU 14 15 24 28 ?_
      refine pU 15 16 24 29 ?_
      refine pU 16 17 24 30 ?_
      refine pU 17 18 24 31 ?_
      refine pU 18 19 24 32 ?_
      refine pU 19 20 24 33 ?_
      refine pU 20 21 24 34 ?_
      refine pU 21 22 24 35 ?_
      refine pF 22 23 24 36 ?_
      refine pF 23 24 24 37 ?_
      refine done_ (done_of HT_.out (by kernel_rfl)) ?_
      try go_wp2
      go_roundg k1
      case measure => have := HK1.out; omega
      case rel => exact ⟨(wrap64 (x3_1 + 1)), (by first | rfl | (simp; done) | (simp [*]; done)), H', ⟨by have := HK1.out; omega⟩, ⟨bX HB.out⟩⟩
     replace c8 := Bool.eq_false_iff.mpr c8
     subst c8
     have H1 : (some (([] : List (S67)))) = some r := by rw [if_neg (show ¬ (false = true) by decide)] at H; exact H
     clear H
     have H := H1
     clear H1
     obtain ⟨y111, hy111⟩ : ∃ y_ : List (S67), y_ = (([] : List (S67))) := ⟨_, rfl⟩
     replace H : (some y111) = some r := by first | (rw [hy111]; with_reducible exact H) | (have H2_ := (Option.bind_some _ _).symm.trans H; rw [hy111]; with_reducible exact H2_) | (have H2_ := (Option.bind_some _ _).symm.trans H; with_reducible exact H2_) | with_reducible exact H | (rw [hy111]; exact H) | exact H
     have Ny111 := AM hy111
     clear hy111
     obtain rfl := Option.some.inj H
     try go_wp2
     have _ := AM (bD HB.out)
     clear HB
     rename_i HB
     have p104 : 0 ≤ (x3_1 : Int) := of_decide_eq_true (by assumption)
     have q104 : x3_1 < (l0.length : Int) := of_decide_eq_true (by assumption)
     obtain ⟨ad104, A104_2, c104_2, e104, hx104_0, hx104_1, hx104_2, hl104_2, hi104_2⟩ := at_T26 HR0.out x3_1 p104 q104
     have hw104_2 := hx104_2
     have hw104_1 := hx104_1
     have hw104_0 := hx104_0
     cases e104
     replace hx104_0 := pw_cell_below HB.out hx104_0
     replace hx104_1 := pw_cell_below HB.out hx104_1
     replace hx104_2 := pw_cell_below HB.out hx104_2
     have HR104_2 := AM hi104_2
     have HC104_2 := AM hl104_2
     clear hi104_2 hl104_2
     replace p104 := eq_true p104
     replace q104 := eq_true q104
     refine start_ (n := 24) (S := fun w' => w'.cell? (ad104.add ((x3_1).toNat * 3)) = some (.int .i64 ((rd_T26 l0 x3_1).f0)) ∧ w'.cell? ⟨(ad104.add ((x3_1).toNat * 3)).block, (ad104.add ((x3_1).toNat * 3)).off + 1, none⟩ = some (.int .i64 ((rd_T26 l0 x3_1).f1)) ∧ w'.cell? ⟨(ad104.add ((x3_1).toNat * 3)).block, (ad104.add ((x3_1).toNat * 3)).off + 2, none⟩ = some (.slice A104_2 ((rd_T26 l0 x3_1).f2).length c104_2)) (ds := []) (upTo 0 24) (by kernel_rfl) rfl rfl ⟨(pw_cell_below HB.out hw104_0), (pw_cell_below HB.out hw104_1), (pw_cell_below HB.out hw104_2)⟩ (fun hHeld => ?_); refine with_tabW spec_Wanted.tab6 spec_Wanted.bits6 (fun HT_ HW_ => ?_)
     generalize wr.drew = w22 at HB HR104_2 hx104_0 hx104_1 hx104_2 hHeld ⊢
     refine pF 0 1 24 14 ?_
     refine pF 1 2 24 15 ?_
     refine pF 2 3 24 16 ?_
     refine pT2 3 17 (upTo 4 24) ?_ hHeld
     refine one_ (i := 4) (N := some 18) (upTo 5 24) rfl rfl (one_of HT_.out (by kernel_rfl)) (by decide) (fun K hK => ?_)
     refine goes_ Try.func39 (by kernel_rfl) rfl #[.agg #[.int .i64 ((rd_T26 l0 x3_1).f0), .int .i64 ((rd_T26 l0 x3_1).f1), .slice A104_2 ((rd_T26 l0 x3_1).f2).length c104_2]] (by rfl) rfl rfl (by (try simp only [mA, mB, mC]); first | done | rfl | (simp only [mD, mE]; rfl)) ?_
     with_reducible refine (spec_ChangeRight.calls k1 ((rd_T26 l0 x3_1).f0) ((rd_T26 l0 x3_1).f1) _ _ ((rd_T26 l0 x3_1).f2) false _ ?side1 ?side2 A7.out).mono ?_
     (case side1 => repeat (first | exact (cB HR104_2.out HB.out) | (with_reducible first | apply cA | apply cN | apply cD)))
     (case side2 => exact HC104_2.out)
     rintro e w23 ⟨rfl, hb⟩
     refine ⟨_, rfl, ?_⟩
     have _ := AM (below_step (bX HB.out) hb)
     clear HB
     rename_i HB
     (try clear hb)
     (try clear hk)
     refine hK.out _ _ ⟨(pw_cell_below HB.out hw104_0), (pw_cell_below HB.out hw104_1), (pw_cell_below HB.out hw104_2)⟩ (fun hHeld => ?_)
     clear hK K
     refine norm_ (a' := ?_) ?_ ?_
     rotate_left
     ·
      show Act.put _ (some 18) _ = _
      simp only [Act.put, sA, sB, sC, i64_w, i32_w]
      rfl
     refine pF 5 6 24 19 ?_
     refine pF 6 7 24 20 ?_
     refine pU 7 8 24 21 ?_
     refine pU 8 9 24 22 ?_
     refine pU 9 10 24 23 ?_
     refine pU 10 11 24 24 ?_
     refine pU 11 12 24 25 ?_
     refine pU 12 13 24 26 ?_
     refine pU 13 14 24 27 ?_
     refine pU 14 15 24 28 ?_
     refine pU 15 16 24 29 ?_
     refine pU 16 17 24 30 ?_
     refine pU 17 18 24 31 ?_
     refine pU 18 19 24 32 ?_
     refine pU 19 20 24 33 ?_
     refine pU 20 21 24 34 ?_
     refine pU 21 22 24 35 ?_
     refine pU 22 23 24 36 ?_
     refine pF 23 24 24 37 ?_
     refine done_ (done_of HT_.out (by kernel_rfl)) ?_
     try go_wp2_with (first | ((with_reducible refine gate_dst (N := 38) rfl ?_); refine Kd.R_lit k67 _ 67 ?hg (N := 38) ?hd (xs := ([] : List (S67))) (inner := []) (ok := fun _ => True) (okp := fun _ => True) ?hr ?hp (fun _ hk => hk) trivial (Below.refl _ _) (Nat.le_refl _) (by simp) ?_; (case hd => rfl); (case hg => rfl); (case hr => first | (go_simp; done) | (go_simp; rfl)); (case hp => exact (Reps.none _ _)); intro v112 w24 ho25 hb hg_ hnew_; clear hg_ hnew_; (first | rw [← Ny111.out] at ho25 | (simp only [Int.reduceToNat] at ho25; rw [← Ny111.out] at ho25)); have _ := AM (Kd.R_lower ho25 (bZ (bX HB.out))); have _ := AM (below_step (bX HB.out) hb); clear HB; rename_i HO113 HB; clear hb ho25))
     go_ret
     exact ⟨_, by first | rfl | (simp [*, errW_none, errW_some] <;> rfl), rX HO113.out, bX HB.out⟩
    rw [if_neg c6] at H
    exact absurd H (by simp)
   rw [if_neg c5] at H
   have c5b0 : decide (x3_1 < (l0.length : Int)) = false := decide_eq_false c5
   clear c5
   replace H := Option.bind_eq_some_iff.mp H
   obtain ⟨t114, A260, H⟩ := H
   replace H : (some t114) = some r := H
   have A26 := AM A260
   clear A260
   obtain rfl := Option.some.inj H
   go_wp2_with (first | ((with_reducible refine gate_callee (f := 40) rfl ?_); refine goesL_ (some 40) rfl rfl Try.func40 (by kernel_rfl) rfl #[.slice A0 l0.length c0] rfl (by (try simp only [mA, mB, mC]); first | done | rfl | (simp only [mD, mE]; rfl)) ?_; (with_reducible refine (spec_l12Wanted.calls k1 (fun k_ => k_ < w.heap.size) _ _ l0 t114 _ ?side1 A26.out).mono ?_); (case side1 => exact Kd.V_mk HC0.out (Kd.F_below (Kd.C_F k26_heap HR0.out) (bX HB.out))); rintro e w27 ⟨v115, rfl, ho0, hb⟩; refine ⟨_, rfl, ?_⟩; have _ := AM (Kd.R_lower (Kd.R_mono (ok' := fun k_ => True) ho0 (fun _ hk_ => trivial)) (bZ (bX HB.out))); have _ := AM (below_step (bX HB.out) hb); clear HB; rename_i HO116 HB; (try clear hb); (try clear hk); (try clear ho0)))
   go_ret
   exact ⟨_, by first | rfl | (simp [*, errW_none, errW_some] <;> rfl), rX HO116.out, bX HB.out⟩

/-! ### laws_toInt64S: function 80 -/

def laws_toInt64S.l0 : Nat → List Int → List Int → Int → Option (List Int)
  | 0, _, _, _ => none
  | k + 1, x0, x3, x4 => if x4 < (x0.length : Int) then (if 0 ≤ x4 then (if x4 < (x3.length : Int) then (laws_toInt64S.l0 k x0 (x3.set (x4 : Int).toNat (rd x0 x4)) (wrap64 (x4 + 1))) else (none)) else (none)) else (some x3)
def laws_toInt64S.f (k : Nat) (l0 : List Int) : Option (List Int) := if 0 ≤ (l0.length : Int) then (if ((l0.length : Int) : Int).toNat ≤ 35184372088832 then (laws_toInt64S.l0 k l0 (List.replicate ((l0.length : Int) : Int).toNat 0) 0) else (none)) else (none)
theorem laws_toInt64S.mono_l : ∀ k, (∀ y0 y1 y2, LeO (laws_toInt64S.l0 k y0 y1 y2) (laws_toInt64S.l0 (k + 1) y0 y1 y2))
  | 0 => fun _ _ _ r h => by simp [laws_toInt64S.l0] at h
  | k + 1 => by
    have ih0 := laws_toInt64S.mono_l k
    · intro y0 y1 y2
      unfold laws_toInt64S.l0
      repeat' first
      | (with_reducible exact ih0 _ _ _)
      | (with_reducible exact LeO.refl _)
      | (with_reducible exact LeO.none _)
      | (with_reducible refine LeO.ite ?_ ?_)
      | (with_reducible refine LeO.bind ?_ (fun _ => ?_))
      | exact ih0 _ _ _
      | exact LeO.none _
      | refine LeO.ite ?_ ?_
      | refine LeO.bind ?_ (fun _ => ?_)
theorem laws_toInt64S.mono : ∀ a0 k, LeO (laws_toInt64S.f k a0) (laws_toInt64S.f (k + 1) a0) := by
  intro a0 k
  have ih0 := laws_toInt64S.mono_l k
  unfold laws_toInt64S.f
  repeat' first
      | (with_reducible exact ih0 _ _ _)
      | (with_reducible exact LeO.refl _)
      | (with_reducible exact LeO.none _)
      | (with_reducible refine LeO.ite ?_ ?_)
      | (with_reducible refine LeO.bind ?_ (fun _ => ?_))
      | exact ih0 _ _ _
      | exact LeO.none _
      | refine LeO.ite ?_ ?_
      | refine LeO.bind ?_ (fun _ => ?_)
set_option maxHeartbeats 60000000 in
set_option maxRecDepth 100000 in
theorem laws_toInt64S.calls (k : Nat) (A0 : Option Addr) (c0 : Nat) (l0 : List Int) (r : List Int) (w : World) (hr0 : Kd.C (Kd.int .i64) w A0 l0.length l0) (hc0 : l0.length ≤ c0) (h : laws_toInt64S.f k l0 = some r) :
    Calls Try.prog 80 #[.slice A0 l0.length c0] w fun e w' => ∃ v0_ : Value, e = .returned (v0_) ∧ Kd.R (Kd.int .i64) 2 w' w.heap.size (fun _ => True) v0_ r ∧ Below w.heap.size w w' := by
 have HR0 := AM hr0
 have HC0 := AM hc0
 clear hr0 hc0
 have HB := AM (Below.refl w.heap.size w)
 have H : (if 0 ≤ (l0.length : Int) then (if ((l0.length : Int) : Int).toNat ≤ 35184372088832 then (laws_toInt64S.l0 k l0 (List.replicate ((l0.length : Int) : Int).toNat 0) 0) else (none)) else (none)) = some r := h
 clear h
 by_cases c2 : 0 ≤ (l0.length : Int)
 ·
  rw [if_pos c2] at H
  have c2b0 := eq_true c2
  have c2b1 : decide (0 ≤ (l0.length : Int)) = true := decide_eq_true c2
  clear c2
  by_cases c3 : ((l0.length : Int) : Int).toNat ≤ 35184372088832
  ·
   rw [if_pos c3] at H
   have c3b0 := eq_true c3
   have c3b1 : decide (((l0.length : Int) : Int).toNat ≤ 35184372088832) = true := decide_eq_true c3
   clear c3
   obtain ⟨y101, hy101⟩ : ∃ y_ : List Int, y_ = (List.replicate ((l0.length : Int) : Int).toNat 0) := ⟨_, rfl⟩
   replace H : (laws_toInt64S.l0 k l0 y101 0) = some r := by first | (rw [hy101]; with_reducible exact H) | (have H2_ := (Option.bind_some _ _).symm.trans H; rw [hy101]; with_reducible exact H2_) | (have H2_ := (Option.bind_some _ _).symm.trans H; with_reducible exact H2_) | with_reducible exact H | (rw [hy101]; exact H) | exact H
   have Ny101 := AM hy101
   clear hy101
   have H' := AM H
   clear H
   go_enter Try.func80, Try.ntmps80
   go_wp2_with (first | ((with_reducible refine gate_dst (N := 7) rfl ?_); refine Kd.R_make (Kd.int .i64) _ 2 rfl (N := 7) rfl 70 _ _ rfl (l0.length : Int) rfl rfl Try.underlying70 (.int .i64 0) 8 info2 rfl (by decide) (by omega) 0 (ok := fun _ => True) (okp := fun _ => True) rfl (fun _ hk => hk) trivial (of_decide_eq_true (by assumption)) (Nat.le_trans (Nat.mul_le_mul_right _ (of_decide_eq_true (by assumption) : (l0.length : Int).toNat ≤ 35184372088832)) (by omega)) (Below.refl _ _) (Nat.le_refl _) ?_; intro v102 w4 ho5 hb hg_ hnew_; clear hg_ hnew_; (first | rw [← Ny101.out] at ho5 | (simp only [Int.reduceToNat] at ho5; rw [← Ny101.out] at ho5)); have _ := AM (Kd.R_lower ho5 (bZ (bX HB.out))); have _ := AM (below_step (bX HB.out) hb); clear HB; rename_i HO103 HB; clear hb ho5))
   go_loopg [4] k (fun kq v4 w' => ∃ (x3_1 : List Int) (x4_1 : Int), v4 = .int .i64 x4_1 ∧ Aside0 (laws_toInt64S.l0 kq l0 x3_1 x4_1 = some r) ∧ Aside0 (kq ≤ k) ∧ Aside0 (Kd.R (Kd.int .i64) 2 w' w.heap.size (fun _ => True) v102 x3_1) ∧ Aside0 (Below w.heap.size w w'))
   case atStart => exact ⟨(y101), (0), (by first | rfl | (simp; done) | (simp [*]; done)), H', ⟨Nat.le_refl _⟩, ⟨rX HO103.out⟩, ⟨bX HB.out⟩⟩
   case round =>
    clear H'
    (try clear c2); (try clear c2b0); (try clear c2b1); (try clear p2); (try clear c3); (try clear c3b0); (try clear c3b1)
    obtain ⟨x3_1, x4_1, rfl, HA, HK1, HO_3, HB⟩ := hrel
    cases gk with
    | zero => exact absurd HA.out (by simp [laws_toInt64S.l0])
    | succ k1 =>
     have H := HA.out
     clear HA
     simp only [laws_toInt64S.l0] at H
     by_cases c6 : x4_1 < (l0.length : Int)
     ·
      rw [if_pos c6] at H
      have c6b0 : decide (x4_1 < (l0.length : Int)) = true := decide_eq_true c6
      clear c6
      by_cases c7 : 0 ≤ x4_1
      ·
       rw [if_pos c7] at H
       have c7b0 : decide (0 ≤ x4_1) = true := decide_eq_true c7
       clear c7
       by_cases c8 : x4_1 < (x3_1.length : Int)
       ·
        rw [if_pos c8] at H
        have c8b0 : decide (x4_1 < (x3_1.length : Int)) = true := decide_eq_true c8
        clear c8
        obtain ⟨y105, hy105⟩ : ∃ y_ : List Int, y_ = (x3_1.set (x4_1 : Int).toNat (rd l0 x4_1)) := ⟨_, rfl⟩
        replace H : (laws_toInt64S.l0 k1 l0 y105 (wrap64 (x4_1 + 1))) = some r := by first | (rw [hy105]; with_reducible exact H) | (have H2_ := (Option.bind_some _ _).symm.trans H; rw [hy105]; with_reducible exact H2_) | (have H2_ := (Option.bind_some _ _).symm.trans H; with_reducible exact H2_) | with_reducible exact H | (rw [hy105]; exact H) | exact H
        have Ny105 := AM hy105
        clear hy105
        have H' := AM H
        clear H
        have p104 : 0 ≤ (x4_1 : Int) := of_decide_eq_true (by assumption)
        have q104 : x4_1 < (l0.length : Int) := of_decide_eq_true (by assumption)
        obtain ⟨ad104, e104, hx104_0⟩ := Kd.at_int HR0.out x4_1 p104 q104
        cases e104
        replace hx104_0 := pw_cell_below HB.out hx104_0
        replace p104 := eq_true p104
        replace q104 := eq_true q104
        have p9 : 0 ≤ (x4_1 : Int) := of_decide_eq_true (by assumption)
        have q9 : (x4_1 : Int) < ((x3_1.length : Int) : Int) := of_decide_eq_true (by assumption)
        obtain ⟨go9, co9, eo9, gb9, gl9, cl9, HG9⟩ := Kd.R_form HO_3.out (by omega)
        (first | cases eo9 | (injection eo9 with ea_ en_ ec_; (first | subst ea_ | (injection ea_ with ea_; subst ea_)); subst ec_; clear en_))
        have GB9 := AM gb9
        have GG9 := AM HG9
        clear gb9 gl9 HG9
        obtain ⟨hx9_0, hf9_0⟩ := Kd.R_celln 0 HO_3.out (x4_1 : Int) p9 q9
        replace p9 := eq_true p9
        replace q9 := eq_true q9
        have HP10 := Kd.R_putg HO_3.out (x4_1 : Int) (rd l0 x4_1)
        go_wp2_with (first | ((with_reducible refine gate_store (t := 2) (p := 20) rfl ?_); refine store_event (t := 2) (p := 20) (v := ?vo_w11) (w1 := (wr.setCell ⟨go9, (x4_1 : Int).toNat, none⟩ (.int .i64 (rd l0 x4_1)))) ?hg ?ho ?hn ?hr ?_; (case ho => rfl); (case hg => rfl); (case hn => rfl); (case hr => first | (go_simp; done) | (go_simp; rfl)); intro w11 hw; have hg : wr.grownBy w11 (some go9) := (by rw [hw]; exact HP10.2); have hp_ : Kd.R (Kd.int .i64) 2 w11 w.heap.size (fun _ => True) (.slice (some ⟨go9, 0, none⟩) x3_1.length co9) y105 := (by rw [hw, Ny105.out]; exact HP10.1); clear HP10; have _ := AM (hp_); have _ := AM ((by rw [hw]; exact bS (HB.out) GB9.out : Below w.heap.size w w11)); clear HO_3 HB; rename_i HO_3 HB; clear hg hw hp_))
        go_roundg k1
        case measure => have := HK1.out; omega
        case rel => exact ⟨(y105), (wrap64 (x4_1 + 1)), (by first | rfl | (simp; done) | (simp [*]; done)), H', ⟨by have := HK1.out; omega⟩, ⟨rX HO_3.out⟩, ⟨bX HB.out⟩⟩
       rw [if_neg c8] at H
       exact absurd H (by simp)
      rw [if_neg c7] at H
      exact absurd H (by simp)
     rw [if_neg c6] at H
     have c6b0 : decide (x4_1 < (l0.length : Int)) = false := decide_eq_false c6
     clear c6
     obtain rfl := Option.some.inj H
     go_wp2
     go_ret
     exact ⟨_, by first | rfl | (simp [*, errW_none, errW_some] <;> rfl), rX HO_3.out, bX HB.out⟩
  rw [if_neg c3] at H
  exact absurd H (by simp)
 rw [if_neg c2] at H
 exact absurd H (by simp)

end Go.Proofs.Ytmaliehmbodioaa.Q
