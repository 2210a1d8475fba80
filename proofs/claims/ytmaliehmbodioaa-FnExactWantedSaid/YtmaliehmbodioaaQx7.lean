/- Printed by a program of this session (wip/mp.py over the kit's print.py): functions of the translation as plain Lean functions, and that the machine's calls do what these say. -/
import Derived.Test.YtmaliehmbodioaaQx0
import Derived.Test.YtmaliehmbodioaaQx1
import Derived.Test.YtmaliehmbodioaaQx3
import Derived.Test.YtmaliehmbodioaaQx4
import Derived.Test.YtmaliehmbodioaaQx6
namespace Go.Proofs.Ytmaliehmbodioaa.Q
open Go.RowKit Go.Proofs.Ytmaliehmbodioaa.HB Go.Proofs.YtmaliehmbodioaaW.PrintWords Go.Proofs.YtmaliehmbodioaaW.PrintLast Go.Proofs.YtmaliehmbodioaaW.PrintMore
attribute [local go_sem] max2_int min2_int max_two min_two max_three min_three max_four min_four   -- for this text's walks alone
set_option linter.unusedVariables false
set_option linter.unusedSimpArgs false

/-! ### laws_eqChangeS: function 19 -/
abbrev laws_eqChangeS.b0 : Array Bool := #[true, true, true, false, true, false, false, false, false, false]
abbrev laws_eqChangeS.b1 : Array Bool := #[true, true, true, false, true, true, false, false, false, false]
abbrev laws_eqChangeS.b2 : Array Bool := #[true, true, true, false, true, true, true, false, false, false]
def laws_eqChangeS.l0 : Nat → List (S26) → List (S26) → Int → Option (Bool)
  | 0, _, _, _ => none
  | k + 1, x0, x1, x5 => if x5 < (x0.length : Int) then (if 0 ≤ x5 then (if x5 < (x1.length : Int) then ((laws_eqChange.f k ((rd_T26 x0 x5).f0) ((rd_T26 x0 x5).f1) ((rd_T26 x0 x5).f2) ((rd_T26 x1 x5).f0) ((rd_T26 x1 x5).f1) ((rd_T26 x1 x5).f2)).bind fun t103 => (if t103 = true then (laws_eqChangeS.l0 k x0 x1 (wrap64 (x5 + 1))) else (some false))) else (none)) else (none)) else (some true)
def laws_eqChangeS.f (k : Nat) (l0 : List (S26)) (l1 : List (S26)) : Option (Bool) := if (l0.length : Int) = (l1.length : Int) then (laws_eqChangeS.l0 k l0 l1 0) else (some false)
theorem laws_eqChangeS.mono_l : ∀ k, (∀ y0 y1 y2, LeO (laws_eqChangeS.l0 k y0 y1 y2) (laws_eqChangeS.l0 (k + 1) y0 y1 y2))
  | 0 => fun _ _ _ r h => by simp [laws_eqChangeS.l0] at h
  | k + 1 => by
    have ih0 := laws_eqChangeS.mono_l k
    · intro y0 y1 y2
      unfold laws_eqChangeS.l0
      repeat' first
      | (with_reducible exact ih0 _ _ _)
      | (with_reducible exact laws_eqChange.mono _ _ _ _ _ _ _)
      | (with_reducible exact LeO.refl _)
      | (with_reducible exact LeO.none _)
      | (with_reducible refine LeO.ite ?_ ?_)
      | (with_reducible refine LeO.bind ?_ (fun _ => ?_))
      | exact ih0 _ _ _
      | exact laws_eqChange.mono _ _ _ _ _ _ _
      | exact LeO.none _
      | refine LeO.ite ?_ ?_
      | refine LeO.bind ?_ (fun _ => ?_)
theorem laws_eqChangeS.mono : ∀ a0 a1 k, LeO (laws_eqChangeS.f k a0 a1) (laws_eqChangeS.f (k + 1) a0 a1) := by
  intro a0 a1 k
  have ih0 := laws_eqChangeS.mono_l k
  unfold laws_eqChangeS.f
  repeat' first
      | (with_reducible exact ih0 _ _ _)
      | (with_reducible exact laws_eqChange.mono _ _ _ _ _ _ _)
      | (with_reducible exact LeO.refl _)
      | (with_reducible exact LeO.none _)
      | (with_reducible refine LeO.ite ?_ ?_)
      | (with_reducible refine LeO.bind ?_ (fun _ => ?_))
      | exact ih0 _ _ _
      | exact laws_eqChange.mono _ _ _ _ _ _ _
      | exact LeO.none _
      | refine LeO.ite ?_ ?_
      | refine LeO.bind ?_ (fun _ => ?_)
def laws_eqChangeS.T6 : Bool × List (List Nat × List Nat) := (true, [([], []), ([], []), ([0, 1], [0, 1]), ([2], [2]), ([], []), ([], []), ([4, 5], [4, 5]), ([6], [6]), ([3, 7], [3, 7]), ([8], [8])])
def laws_eqChangeS.B6 : List Nat := [0, 0, 3, 7, 0, 0, 48, 112, 255, 511]
theorem laws_eqChangeS.tab6 : rtab .any (opsOf Try.f19 6) = laws_eqChangeS.T6 := by kernel_rfl
theorem laws_eqChangeS.bits6 : waitsOk laws_eqChangeS.T6.2 laws_eqChangeS.B6 = true := by kernel_rfl
set_option maxHeartbeats 60000000 in
set_option maxRecDepth 100000 in
theorem laws_eqChangeS.calls (k : Nat) (A0 : Option Addr) (c0 : Nat) (l0 : List (S26)) (A1 : Option Addr) (c1 : Nat) (l1 : List (S26)) (r : Bool) (w : World) (hr0 : Kd.C k26 w A0 l0.length l0) (hc0 : l0.length ≤ c0) (hr1 : Kd.C k26 w A1 l1.length l1) (hc1 : l1.length ≤ c1) (h : laws_eqChangeS.f k l0 l1 = some r) :
    Calls Try.prog 19 #[.slice A0 l0.length c0, .slice A1 l1.length c1] w fun e w' => e = .returned (.bool r) ∧ Below w.heap.size w w' := by
 have hu26 := Try.underlying26
 have HR0 := AM hr0
 have HC0 := AM hc0
 clear hr0 hc0
 have HR1 := AM hr1
 have HC1 := AM hc1
 clear hr1 hc1
 have HB := AM (Below.refl w.heap.size w)
 have H : (if (l0.length : Int) = (l1.length : Int) then (laws_eqChangeS.l0 k l0 l1 0) else (some false)) = some r := h
 clear h
 by_cases c3 : (l0.length : Int) = (l1.length : Int)
 ·
  rw [if_pos c3] at H
  have c3b0 : ((l0.length : Int) == (l1.length : Int)) = true := beq_iff_eq.mpr c3
  have c3b1 : ((l0.length : Int) != (l1.length : Int)) = false := bne_eq_false_iff_eq.mpr c3
  have c3b2 : (l0.length == l1.length) = true := by first | simpa using c3 | (simp at c3 ⊢; omega)
  clear c3
  have H' := AM H
  clear H
  go_enter Try.func19, Try.ntmps19
  go_wp2
  go_loopg [5] k (fun kq v5 w' => ∃ (x5_1 : Int), v5 = .int .i64 x5_1 ∧ Aside0 (laws_eqChangeS.l0 kq l0 l1 x5_1 = some r) ∧ Aside0 (kq ≤ k) ∧ Aside0 (Below w.heap.size w w'))
  case atStart => exact ⟨(0), (by first | rfl | (simp; done) | (simp [*]; done)), H', ⟨Nat.le_refl _⟩, ⟨bX HB.out⟩⟩
  case round =>
   clear H'
   (try clear c1); (try clear p2); (try clear c3); (try clear c3b0); (try clear c3b1); (try clear c3b2)
   obtain ⟨x5_1, rfl, HA, HK1, HB⟩ := hrel
   cases gk with
   | zero => exact absurd HA.out (by simp [laws_eqChangeS.l0])
   | succ k1 =>
    have H := HA.out
    clear HA
    simp only [laws_eqChangeS.l0] at H
    by_cases c4 : x5_1 < (l0.length : Int)
    ·
     rw [if_pos c4] at H
     have c4b0 : decide (x5_1 < (l0.length : Int)) = true := decide_eq_true c4
     clear c4
     by_cases c5 : 0 ≤ x5_1
     ·
      rw [if_pos c5] at H
      have c5b0 : decide (0 ≤ x5_1) = true := decide_eq_true c5
      clear c5
      by_cases c6 : x5_1 < (l1.length : Int)
      ·
       rw [if_pos c6] at H
       have c6b0 : decide (x5_1 < (l1.length : Int)) = true := decide_eq_true c6
       clear c6
       replace H := Option.bind_eq_some_iff.mp H
       obtain ⟨t103, A70, H⟩ := H
       replace H : (if t103 = true then (laws_eqChangeS.l0 k1 l0 l1 (wrap64 (x5_1 + 1))) else (some false)) = some r := H
       have A7 := AM A70
       clear A70
       by_cases c8 : t103 = true
       ·
        subst c8
        have H1 : (laws_eqChangeS.l0 k1 l0 l1 (wrap64 (x5_1 + 1))) = some r := by rw [if_pos rfl] at H; exact H
        clear H
        have H := H1
        clear H1
        have H' := AM H
        clear H
        try go_wp2
        have _ := AM (bD HB.out)
        clear HB
        rename_i HB
        have p101 : 0 ≤ (x5_1 : Int) := of_decide_eq_true (by assumption)
        have q101 : x5_1 < (l0.length : Int) := of_decide_eq_true (by assumption)
        obtain ⟨ad101, A101_2, c101_2, e101, hx101_0, hx101_1, hx101_2, hl101_2, hi101_2⟩ := at_T26 HR0.out x5_1 p101 q101
        have hw101_2 := hx101_2
        have hw101_1 := hx101_1
        have hw101_0 := hx101_0
        cases e101
        replace hx101_0 := pw_cell_below HB.out hx101_0
        replace hx101_1 := pw_cell_below HB.out hx101_1
        replace hx101_2 := pw_cell_below HB.out hx101_2
        have HR101_2 := AM hi101_2
        have HC101_2 := AM hl101_2
        clear hi101_2 hl101_2
        replace p101 := eq_true p101
        replace q101 := eq_true q101
        have p102 : 0 ≤ (x5_1 : Int) := of_decide_eq_true (by assumption)
        have q102 : x5_1 < (l1.length : Int) := of_decide_eq_true (by assumption)
        obtain ⟨ad102, A102_2, c102_2, e102, hx102_0, hx102_1, hx102_2, hl102_2, hi102_2⟩ := at_T26 HR1.out x5_1 p102 q102
        have hw102_2 := hx102_2
        have hw102_1 := hx102_1
        have hw102_0 := hx102_0
        cases e102
        replace hx102_0 := pw_cell_below HB.out hx102_0
        replace hx102_1 := pw_cell_below HB.out hx102_1
        replace hx102_2 := pw_cell_below HB.out hx102_2
        have HR102_2 := AM hi102_2
        have HC102_2 := AM hl102_2
        clear hi102_2 hl102_2
        replace p102 := eq_true p102
        replace q102 := eq_true q102
        refine start_ (n := 10) (S := fun w' => w'.cell? (ad101.add ((x5_1).toNat * 3)) = some (.int .i64 ((rd_T26 l0 x5_1).f0)) ∧ w'.cell? ⟨(ad101.add ((x5_1).toNat * 3)).block, (ad101.add ((x5_1).toNat * 3)).off + 1, none⟩ = some (.int .i64 ((rd_T26 l0 x5_1).f1)) ∧ w'.cell? ⟨(ad101.add ((x5_1).toNat * 3)).block, (ad101.add ((x5_1).toNat * 3)).off + 2, none⟩ = some (.slice A101_2 ((rd_T26 l0 x5_1).f2).length c101_2) ∧ w'.cell? (ad102.add ((x5_1).toNat * 3)) = some (.int .i64 ((rd_T26 l1 x5_1).f0)) ∧ w'.cell? ⟨(ad102.add ((x5_1).toNat * 3)).block, (ad102.add ((x5_1).toNat * 3)).off + 1, none⟩ = some (.int .i64 ((rd_T26 l1 x5_1).f1)) ∧ w'.cell? ⟨(ad102.add ((x5_1).toNat * 3)).block, (ad102.add ((x5_1).toNat * 3)).off + 2, none⟩ = some (.slice A102_2 ((rd_T26 l1 x5_1).f2).length c102_2)) (ds := []) (upTo 0 10) (by kernel_rfl) rfl rfl ⟨(pw_cell_below HB.out hw101_0), (pw_cell_below HB.out hw101_1), (pw_cell_below HB.out hw101_2), (pw_cell_below HB.out hw102_0), (pw_cell_below HB.out hw102_1), (pw_cell_below HB.out hw102_2)⟩ (fun hHeld => ?_); refine with_tabW laws_eqChangeS.tab6 laws_eqChangeS.bits6 (fun HT_ HW_ => ?_)
        generalize wr.drew = w9 at HB HR101_2 HR102_2 hx101_0 hx101_1 hx101_2 hx102_0 hx102_1 hx102_2 hHeld ⊢
        refine pF 0 1 10 17 ?_
        refine pF 1 2 10 18 ?_
        refine pF 2 3 10 19 ?_
        refine pF2 4 21 laws_eqChangeS.b0 ?_
        refine pF2 5 22 laws_eqChangeS.b1 ?_
        refine pF2 6 23 laws_eqChangeS.b2 ?_
        refine pT2 3 20 (upTo 7 10) ?_ hHeld
        refine pT2 7 24 (upTo 8 10) ?_ hHeld
        refine one_ (i := 8) (N := some 25) (upTo 9 10) rfl rfl (one_of HT_.out (by kernel_rfl)) (by decide) (fun K hK => ?_)
        refine goes_ Try.func9 (by kernel_rfl) rfl #[.agg #[.int .i64 ((rd_T26 l0 x5_1).f0), .int .i64 ((rd_T26 l0 x5_1).f1), .slice A101_2 ((rd_T26 l0 x5_1).f2).length c101_2], .agg #[.int .i64 ((rd_T26 l1 x5_1).f0), .int .i64 ((rd_T26 l1 x5_1).f1), .slice A102_2 ((rd_T26 l1 x5_1).f2).length c102_2]] (by rfl) rfl rfl (by (try simp only [mA, mB, mC]); first | done | rfl | (simp only [mD, mE]; rfl)) ?_
        with_reducible refine (laws_eqChange.calls k1 ((rd_T26 l0 x5_1).f0) ((rd_T26 l0 x5_1).f1) _ _ ((rd_T26 l0 x5_1).f2) ((rd_T26 l1 x5_1).f0) ((rd_T26 l1 x5_1).f1) _ _ ((rd_T26 l1 x5_1).f2) true _ ?side1 ?side2 ?side3 ?side4 A7.out).mono ?_
        (case side1 => repeat (first | exact (cB HR101_2.out HB.out) | (with_reducible first | apply cA | apply cN | apply cD)))
        (case side2 => exact HC101_2.out)
        (case side3 => repeat (first | exact (cB HR102_2.out HB.out) | (with_reducible first | apply cA | apply cN | apply cD)))
        (case side4 => exact HC102_2.out)
        rintro e w10 ⟨rfl, hb⟩
        refine ⟨_, rfl, ?_⟩
        have _ := AM (below_step (bX HB.out) hb)
        clear HB
        rename_i HB
        (try clear hb)
        (try clear hk)
        refine hK.out _ _ ⟨(pw_cell_below HB.out hw101_0), (pw_cell_below HB.out hw101_1), (pw_cell_below HB.out hw101_2), (pw_cell_below HB.out hw102_0), (pw_cell_below HB.out hw102_1), (pw_cell_below HB.out hw102_2)⟩ (fun hHeld => ?_)
        clear hK K
        refine norm_ (a' := ?_) ?_ ?_
        rotate_left
        ·
         show Act.put _ (some 25) _ = _
         simp only [Act.put, sA, sB, sC, i64_w, i32_w]
         rfl
        refine pF 9 10 10 26 ?_
        refine done_ (done_of HT_.out (by kernel_rfl)) ?_
        try go_wp2
        go_roundg k1
        case measure => have := HK1.out; omega
        case rel => exact ⟨(wrap64 (x5_1 + 1)), (by first | rfl | (simp; done) | (simp [*]; done)), H', ⟨by have := HK1.out; omega⟩, ⟨bX HB.out⟩⟩
       replace c8 := Bool.eq_false_iff.mpr c8
       subst c8
       have H1 : (some false) = some r := by rw [if_neg (show ¬ (false = true) by decide)] at H; exact H
       clear H
       have H := H1
       clear H1
       obtain rfl := Option.some.inj H
       try go_wp2
       have _ := AM (bD HB.out)
       clear HB
       rename_i HB
       have p101 : 0 ≤ (x5_1 : Int) := of_decide_eq_true (by assumption)
       have q101 : x5_1 < (l0.length : Int) := of_decide_eq_true (by assumption)
       obtain ⟨ad101, A101_2, c101_2, e101, hx101_0, hx101_1, hx101_2, hl101_2, hi101_2⟩ := at_T26 HR0.out x5_1 p101 q101
       have hw101_2 := hx101_2
       have hw101_1 := hx101_1
       have hw101_0 := hx101_0
       cases e101
       replace hx101_0 := pw_cell_below HB.out hx101_0
       replace hx101_1 := pw_cell_below HB.out hx101_1
       replace hx101_2 := pw_cell_below HB.out hx101_2
       have HR101_2 := AM hi101_2
       have HC101_2 := AM hl101_2
       clear hi101_2 hl101_2
       replace p101 := eq_true p101
       replace q101 := eq_true q101
       have p102 : 0 ≤ (x5_1 : Int) := of_decide_eq_true (by assumption)
       have q102 : x5_1 < (l1.length : Int) := of_decide_eq_true (by assumption)
       obtain ⟨ad102, A102_2, c102_2, e102, hx102_0, hx102_1, hx102_2, hl102_2, hi102_2⟩ := at_T26 HR1.out x5_1 p102 q102
       have hw102_2 := hx102_2
       have hw102_1 := hx102_1
       have hw102_0 := hx102_0
       cases e102
       replace hx102_0 := pw_cell_below HB.out hx102_0
       replace hx102_1 := pw_cell_below HB.out hx102_1
       replace hx102_2 := pw_cell_below HB.out hx102_2
       have HR102_2 := AM hi102_2
       have HC102_2 := AM hl102_2
       clear hi102_2 hl102_2
       replace p102 := eq_true p102
       replace q102 := eq_true q102
       refine start_ (n := 10) (S := fun w' => w'.cell? (ad101.add ((x5_1).toNat * 3)) = some (.int .i64 ((rd_T26 l0 x5_1).f0)) ∧ w'.cell? ⟨(ad101.add ((x5_1).toNat * 3)).block, (ad101.add ((x5_1).toNat * 3)).off + 1, none⟩ = some (.int .i64 ((rd_T26 l0 x5_1).f1)) ∧ w'.cell? ⟨(ad101.add ((x5_1).toNat * 3)).block, (ad101.add ((x5_1).toNat * 3)).off + 2, none⟩ = some (.slice A101_2 ((rd_T26 l0 x5_1).f2).length c101_2) ∧ w'.cell? (ad102.add ((x5_1).toNat * 3)) = some (.int .i64 ((rd_T26 l1 x5_1).f0)) ∧ w'.cell? ⟨(ad102.add ((x5_1).toNat * 3)).block, (ad102.add ((x5_1).toNat * 3)).off + 1, none⟩ = some (.int .i64 ((rd_T26 l1 x5_1).f1)) ∧ w'.cell? ⟨(ad102.add ((x5_1).toNat * 3)).block, (ad102.add ((x5_1).toNat * 3)).off + 2, none⟩ = some (.slice A102_2 ((rd_T26 l1 x5_1).f2).length c102_2)) (ds := []) (upTo 0 10) (by kernel_rfl) rfl rfl ⟨(pw_cell_below HB.out hw101_0), (pw_cell_below HB.out hw101_1), (pw_cell_below HB.out hw101_2), (pw_cell_below HB.out hw102_0), (pw_cell_below HB.out hw102_1), (pw_cell_below HB.out hw102_2)⟩ (fun hHeld => ?_); refine with_tabW laws_eqChangeS.tab6 laws_eqChangeS.bits6 (fun HT_ HW_ => ?_)
       generalize wr.drew = w11 at HB HR101_2 HR102_2 hx101_0 hx101_1 hx101_2 hx102_0 hx102_1 hx102_2 hHeld ⊢
       refine pF 0 1 10 17 ?_
       refine pF 1 2 10 18 ?_
       refine pF 2 3 10 19 ?_
       refine pF2 4 21 laws_eqChangeS.b0 ?_
       refine pF2 5 22 laws_eqChangeS.b1 ?_
       refine pF2 6 23 laws_eqChangeS.b2 ?_
       refine pT2 3 20 (upTo 7 10) ?_ hHeld
       refine pT2 7 24 (upTo 8 10) ?_ hHeld
       refine one_ (i := 8) (N := some 25) (upTo 9 10) rfl rfl (one_of HT_.out (by kernel_rfl)) (by decide) (fun K hK => ?_)
       refine goes_ Try.func9 (by kernel_rfl) rfl #[.agg #[.int .i64 ((rd_T26 l0 x5_1).f0), .int .i64 ((rd_T26 l0 x5_1).f1), .slice A101_2 ((rd_T26 l0 x5_1).f2).length c101_2], .agg #[.int .i64 ((rd_T26 l1 x5_1).f0), .int .i64 ((rd_T26 l1 x5_1).f1), .slice A102_2 ((rd_T26 l1 x5_1).f2).length c102_2]] (by rfl) rfl rfl (by (try simp only [mA, mB, mC]); first | done | rfl | (simp only [mD, mE]; rfl)) ?_
       with_reducible refine (laws_eqChange.calls k1 ((rd_T26 l0 x5_1).f0) ((rd_T26 l0 x5_1).f1) _ _ ((rd_T26 l0 x5_1).f2) ((rd_T26 l1 x5_1).f0) ((rd_T26 l1 x5_1).f1) _ _ ((rd_T26 l1 x5_1).f2) false _ ?side1 ?side2 ?side3 ?side4 A7.out).mono ?_
       (case side1 => repeat (first | exact (cB HR101_2.out HB.out) | (with_reducible first | apply cA | apply cN | apply cD)))
       (case side2 => exact HC101_2.out)
       (case side3 => repeat (first | exact (cB HR102_2.out HB.out) | (with_reducible first | apply cA | apply cN | apply cD)))
       (case side4 => exact HC102_2.out)
       rintro e w12 ⟨rfl, hb⟩
       refine ⟨_, rfl, ?_⟩
       have _ := AM (below_step (bX HB.out) hb)
       clear HB
       rename_i HB
       (try clear hb)
       (try clear hk)
       refine hK.out _ _ ⟨(pw_cell_below HB.out hw101_0), (pw_cell_below HB.out hw101_1), (pw_cell_below HB.out hw101_2), (pw_cell_below HB.out hw102_0), (pw_cell_below HB.out hw102_1), (pw_cell_below HB.out hw102_2)⟩ (fun hHeld => ?_)
       clear hK K
       refine norm_ (a' := ?_) ?_ ?_
       rotate_left
       ·
        show Act.put _ (some 25) _ = _
        simp only [Act.put, sA, sB, sC, i64_w, i32_w]
        rfl
       refine pF 9 10 10 26 ?_
       refine done_ (done_of HT_.out (by kernel_rfl)) ?_
       try go_wp2
       go_ret
       exact ⟨by first | rfl | (simp [*, errW_none, errW_some] <;> rfl), bX HB.out⟩
      rw [if_neg c6] at H
      exact absurd H (by simp)
     rw [if_neg c5] at H
     exact absurd H (by simp)
    rw [if_neg c4] at H
    have c4b0 : decide (x5_1 < (l0.length : Int)) = false := decide_eq_false c4
    clear c4
    obtain rfl := Option.some.inj H
    go_wp2
    go_ret
    exact ⟨by first | rfl | (simp [*, errW_none, errW_some] <;> rfl), bX HB.out⟩
 rw [if_neg c3] at H
 have c3b0 : ((l0.length : Int) == (l1.length : Int)) = false := beq_eq_false_iff_ne.mpr c3
 have c3b1 : ((l0.length : Int) != (l1.length : Int)) = true := bne_iff_ne.mpr c3
 have c3b2 : (l0.length == l1.length) = false := by first | simpa using c3 | (simp at c3 ⊢; omega)
 obtain rfl := Option.some.inj H
 go_enter Try.func19, Try.ntmps19
 go_wp2
 go_ret
 exact ⟨by first | rfl | (simp [*, errW_none, errW_some] <;> rfl), bX HB.out⟩

/-! ### laws_markText: function 35 -/

def laws_markText.l0 : Nat → Int → ByteArray → Option (ByteArray)
  | 0, _, _ => none
  | k + 1, x0, x3 => if x0 > 0 then ((some (([(wrap64 (48 + (Int.tmod x0 10))) % 256] : List Int) : List Int)).bind fun y101 => (if (strOfNums y101).size + x3.size ≤ 9223372036854775807 then (laws_markText.l0 k (wrap64 (Int.tdiv x0 10)) ((strOfNums y101) ++ x3)) else (none))) else (if 1 + x3.size ≤ 9223372036854775807 then (some ((⟨#[109]⟩ : ByteArray) ++ x3)) else (none))
def laws_markText.f (k : Nat) (a0 : Int) : Option (ByteArray) := if a0 ≤ 0 then (some (⟨#[109, 48]⟩ : ByteArray)) else (laws_markText.l0 k a0 (⟨#[]⟩ : ByteArray))
theorem laws_markText.mono_l : ∀ k, (∀ y0 y1, LeO (laws_markText.l0 k y0 y1) (laws_markText.l0 (k + 1) y0 y1))
  | 0 => fun _ _ r h => by simp [laws_markText.l0] at h
  | k + 1 => by
    have ih0 := laws_markText.mono_l k
    · intro y0 y1
      unfold laws_markText.l0
      repeat' first
      | (with_reducible exact ih0 _ _)
      | (with_reducible exact LeO.refl _)
      | (with_reducible exact LeO.none _)
      | (with_reducible refine LeO.ite ?_ ?_)
      | (with_reducible refine LeO.bind ?_ (fun _ => ?_))
      | exact ih0 _ _
      | exact LeO.none _
      | refine LeO.ite ?_ ?_
      | refine LeO.bind ?_ (fun _ => ?_)
theorem laws_markText.mono : ∀ a0 k, LeO (laws_markText.f k a0) (laws_markText.f (k + 1) a0) := by
  intro a0 k
  have ih0 := laws_markText.mono_l k
  unfold laws_markText.f
  repeat' first
      | (with_reducible exact ih0 _ _)
      | (with_reducible exact LeO.refl _)
      | (with_reducible exact LeO.none _)
      | (with_reducible refine LeO.ite ?_ ?_)
      | (with_reducible refine LeO.bind ?_ (fun _ => ?_))
      | exact ih0 _ _
      | exact LeO.none _
      | refine LeO.ite ?_ ?_
      | refine LeO.bind ?_ (fun _ => ?_)
set_option maxHeartbeats 60000000 in
set_option maxRecDepth 100000 in
theorem laws_markText.calls (k : Nat) (a0 : Int) (r : ByteArray) (w : World) (h : laws_markText.f k a0 = some r) :
    Calls Try.prog 35 #[.int .i64 a0] w fun e w' => e = .returned (.string r) ∧ Below w.heap.size w w' := by
 have HB := AM (Below.refl w.heap.size w)
 have H : (if a0 ≤ 0 then (some (⟨#[109, 48]⟩ : ByteArray)) else (laws_markText.l0 k a0 (⟨#[]⟩ : ByteArray))) = some r := h
 clear h
 by_cases c2 : a0 ≤ 0
 ·
  rw [if_pos c2] at H
  have c2b0 : decide (a0 ≤ 0) = true := decide_eq_true c2
  clear c2
  obtain rfl := Option.some.inj H
  go_enter Try.func35, Try.ntmps35
  go_wp2
  go_ret
  exact ⟨by first | rfl | (simp [*, errW_none, errW_some] <;> rfl), bX HB.out⟩
 rw [if_neg c2] at H
 have c2b0 : decide (a0 ≤ 0) = false := decide_eq_false c2
 clear c2
 have H' := AM H
 clear H
 go_enter Try.func35, Try.ntmps35
 go_wp2
 go_loopg [0, 3] k (fun kq v0 v3 w' => ∃ (x0_1 : Int) (x3_1 : ByteArray), v0 = .int .i64 x0_1 ∧ v3 = .string x3_1 ∧ Aside0 (laws_markText.l0 kq x0_1 x3_1 = some r) ∧ Aside0 (kq ≤ k) ∧ Aside0 (Below w.heap.size w w'))
 case atStart => exact ⟨(a0), ((⟨#[]⟩ : ByteArray)), (by first | rfl | (simp; done) | (simp [*]; done)), (by first | rfl | (simp; done) | (simp [*]; done)), H', ⟨Nat.le_refl _⟩, ⟨bX HB.out⟩⟩
 case round =>
  clear H'
  (try clear c2); (try clear c2b0); (try clear p2)
  obtain ⟨x0_1, x3_1, rfl, rfl, HA, HK1, HB⟩ := hrel
  cases gk with
  | zero => exact absurd HA.out (by simp [laws_markText.l0])
  | succ k1 =>
   have H := HA.out
   clear HA
   simp only [laws_markText.l0] at H
   by_cases c3 : x0_1 > 0
   ·
    rw [if_pos c3] at H
    have c3b0 : decide (0 < x0_1) = true := decide_eq_true c3
    clear c3
    obtain ⟨y101, hy101⟩ : ∃ y_ : List Int, y_ = (([(wrap64 (48 + (Int.tmod x0_1 10))) % 256] : List Int)) := ⟨_, rfl⟩
    replace H : (if (strOfNums y101).size + x3_1.size ≤ 9223372036854775807 then (laws_markText.l0 k1 (wrap64 (Int.tdiv x0_1 10)) ((strOfNums y101) ++ x3_1)) else (none)) = some r := by first | (rw [hy101]; with_reducible exact H) | (have H2_ := (Option.bind_some _ _).symm.trans H; rw [hy101]; with_reducible exact H2_) | (have H2_ := (Option.bind_some _ _).symm.trans H; with_reducible exact H2_) | with_reducible exact H | (rw [hy101]; exact H) | exact H
    have Ny101 := AM hy101
    clear hy101
    by_cases c4 : (strOfNums y101).size + x3_1.size ≤ 9223372036854775807
    ·
     rw [if_pos c4] at H
     have c4b0 := eq_true c4
     have c4b1 : decide ((strOfNums y101).size + x3_1.size ≤ 9223372036854775807) = true := decide_eq_true c4
     try have c4b2 : (9223372036854775807 < (strOfNums y101).size + x3_1.size) = False := eq_false (Nat.not_lt.2 c4)
     have H' := AM H
     clear H
     go_wp2_with (first | ((with_reducible refine gate_dst (N := 12) rfl ?_); refine Kd.R_lit (Kd.int .u8) _ 5 ?hg (N := 12) ?hd (xs := ([(wrap64 (48 + (Int.tmod x0_1 10))) % 256] : List Int)) (inner := [.int .u8 ((wrap64 (48 + (Int.tmod x0_1 10))) % 256)]) (ok := fun _ => True) (okp := fun _ => True) ?hr ?hp (fun _ hk => hk) trivial (Below.refl _ _) (Nat.le_refl _) (by simp) ?_; (case hd => rfl); (case hg => rfl); (case hr => first | (go_simp; done) | (go_simp; rfl)); (case hp => exact (Reps.one (show Kd.M (Kd.int .u8) _ _ _ ((wrap64 (48 + (Int.tmod x0_1 10))) % 256) [.int .u8 ((wrap64 (48 + (Int.tmod x0_1 10))) % 256)] from rfl) (Reps.none _ _))); intro v102 w5 ho6 hb hg_ hnew_; clear hg_ hnew_; (first | rw [← Ny101.out] at ho6 | (simp only [Int.reduceToNat] at ho6; rw [← Ny101.out] at ho6)); have _ := AM (Kd.R_lower ho6 (bZ (bX HB.out))); have _ := AM (below_step (bX HB.out) hb); clear HB; rename_i HO103 HB; clear hb ho6; have hcv7 := own_string (P := Try.prog) Try.underlying78 Try.underlying5 Try.underlying9 (Kd.own_of_R HO103.out)))
     go_roundg k1
     case measure => have := HK1.out; omega
     case rel => exact ⟨(wrap64 (Int.tdiv x0_1 10)), ((strOfNums y101) ++ x3_1), (by first | rfl | (simp; done) | (simp [*]; done)), (by first | rfl | (simp; done) | (simp [*]; done)), H', ⟨by have := HK1.out; omega⟩, ⟨bX HB.out⟩⟩
    rw [if_neg c4] at H
    exact absurd H (by simp)
   rw [if_neg c3] at H
   have c3b0 : decide (0 < x0_1) = false := decide_eq_false c3
   clear c3
   by_cases c8 : 1 + x3_1.size ≤ 9223372036854775807
   ·
    rw [if_pos c8] at H
    have c8b0 := eq_true c8
    have c8b1 : decide (1 + x3_1.size ≤ 9223372036854775807) = true := decide_eq_true c8
    try have c8b2 : (9223372036854775807 < 1 + x3_1.size) = False := eq_false (Nat.not_lt.2 c8)
    obtain rfl := Option.some.inj H
    go_wp2
    go_ret
    exact ⟨by first | rfl | (simp [*, errW_none, errW_some] <;> rfl), bX HB.out⟩
   rw [if_neg c8] at H
   exact absurd H (by simp)

/-! ### laws_markInt64S: function 53 -/

def laws_markInt64S.l0 : Nat → List Int → Int → Int → Option (Int × List Int)
  | 0, _, _, _ => none
  | k + 1, x0, x1, x5 => if x5 < (x0.length : Int) then (if 0 ≤ x5 then (laws_markInt64S.l0 k (x0.set (x5 : Int).toNat x1) (wrap64 (x1 + 1)) (wrap64 (x5 + 1))) else (none)) else (some (x1, x0))
def laws_markInt64S.f (k : Nat) (l0 : List Int) (a1 : Int) : Option (Int × List Int) := laws_markInt64S.l0 k l0 a1 0
theorem laws_markInt64S.mono_l : ∀ k, (∀ y0 y1 y2, LeO (laws_markInt64S.l0 k y0 y1 y2) (laws_markInt64S.l0 (k + 1) y0 y1 y2))
  | 0 => fun _ _ _ r h => by simp [laws_markInt64S.l0] at h
  | k + 1 => by
    have ih0 := laws_markInt64S.mono_l k
    · intro y0 y1 y2
      unfold laws_markInt64S.l0
      repeat' first
      | (with_reducible exact ih0 _ _ _)
      | (with_reducible exact LeO.refl _)
      | (with_reducible exact LeO.none _)
      | (with_reducible refine LeO.ite ?_ ?_)
      | (with_reducible refine LeO.bind ?_ (fun _ => ?_))
      | exact ih0 _ _ _
      | exact LeO.none _
      | refine LeO.ite ?_ ?_
      | refine LeO.bind ?_ (fun _ => ?_)
theorem laws_markInt64S.mono : ∀ a0 a1 k, LeO (laws_markInt64S.f k a0 a1) (laws_markInt64S.f (k + 1) a0 a1) := by
  intro a0 a1 k
  have ih0 := laws_markInt64S.mono_l k
  unfold laws_markInt64S.f
  repeat' first
      | (with_reducible exact ih0 _ _ _)
      | (with_reducible exact LeO.refl _)
      | (with_reducible exact LeO.none _)
      | (with_reducible refine LeO.ite ?_ ?_)
      | (with_reducible refine LeO.bind ?_ (fun _ => ?_))
      | exact ih0 _ _ _
      | exact LeO.none _
      | refine LeO.ite ?_ ?_
      | refine LeO.bind ?_ (fun _ => ?_)
set_option maxHeartbeats 60000000 in
set_option maxRecDepth 100000 in
theorem laws_markInt64S.calls (k : Nat) (P0_ : Nat → Prop) (u9000_ : Value) (l0 : List Int) (a1 : Int) (r1 : Int) (r2 : List Int) (w0 w : World) (hB : Below w0.heap.size w0 w) (ho0 : Kd.R (Kd.int .i64) 2 w w0.heap.size P0_ u9000_ l0) (h : laws_markInt64S.f k l0 a1 = some (r1, r2)) :
    Calls Try.prog 53 #[u9000_, .int .i64 a1] w fun e w' => e = .returned (.int .i64 r1) ∧ Kd.R (Kd.int .i64) 2 w' w0.heap.size (fun k_ => (P0_ k_ ∨ w.heap.size ≤ k_)) u9000_ r2 ∧ Below w0.heap.size w0 w' ∧ Kept w w' (fun k_ => P0_ k_) := by
 have HO0 := AM (show Kd.R (Kd.int .i64) 2 w w0.heap.size (fun k_ => (P0_ k_ ∨ w.heap.size ≤ k_)) u9000_ l0 from Kd.R_mono ho0 (fun k_ hk => (.inl hk)))
 have HK := AM (Kept.refl w (fun k_ => P0_ k_))
 have HW0 := AM hB.size
 have HB := AM hB
 clear hB
 have H : (laws_markInt64S.l0 k l0 a1 0) = some (r1, r2) := h
 clear h
 have H' := AM H
 clear H
 go_enter Try.func53, Try.ntmps53
 go_wp2
 go_loopg [1, 5] k (fun kq v1 v5 w' => ∃ (x0_1 : List Int) (x1_1 : Int) (x5_1 : Int), v1 = .int .i64 x1_1 ∧ v5 = .int .i64 x5_1 ∧ Aside0 (laws_markInt64S.l0 kq x0_1 x1_1 x5_1 = some (r1, r2)) ∧ Aside0 (kq ≤ k) ∧ Aside0 (Kd.R (Kd.int .i64) 2 w' w0.heap.size (fun k_ => (P0_ k_ ∨ w.heap.size ≤ k_)) u9000_ x0_1) ∧ Aside0 (Kept w w' (fun k_ => P0_ k_)) ∧ Aside0 (Below w0.heap.size w0 w'))
 case atStart => exact ⟨(l0), (a1), (0), (by first | rfl | (simp; done) | (simp [*]; done)), (by first | rfl | (simp; done) | (simp [*]; done)), H', ⟨Nat.le_refl _⟩, ⟨rX HO0.out⟩, ⟨tX HK.out⟩, ⟨bX HB.out⟩⟩
 case round =>
  clear H'
  try clear p2
  obtain ⟨x0_1, x1_1, x5_1, rfl, rfl, HA, HK1, HO_0, HK, HB⟩ := hrel
  cases gk with
  | zero => exact absurd HA.out (by simp [laws_markInt64S.l0])
  | succ k1 =>
   have H := HA.out
   clear HA
   simp only [laws_markInt64S.l0] at H
   by_cases c3 : x5_1 < (x0_1.length : Int)
   ·
    rw [if_pos c3] at H
    have c3b0 : decide (x5_1 < (x0_1.length : Int)) = true := decide_eq_true c3
    clear c3
    by_cases c4 : 0 ≤ x5_1
    ·
     rw [if_pos c4] at H
     have c4b0 : decide (0 ≤ x5_1) = true := decide_eq_true c4
     clear c4
     obtain ⟨y101, hy101⟩ : ∃ y_ : List Int, y_ = (x0_1.set (x5_1 : Int).toNat x1_1) := ⟨_, rfl⟩
     replace H : (laws_markInt64S.l0 k1 y101 (wrap64 (x1_1 + 1)) (wrap64 (x5_1 + 1))) = some (r1, r2) := by first | (rw [hy101]; with_reducible exact H) | (have H2_ := (Option.bind_some _ _).symm.trans H; rw [hy101]; with_reducible exact H2_) | (have H2_ := (Option.bind_some _ _).symm.trans H; with_reducible exact H2_) | with_reducible exact H | (rw [hy101]; exact H) | exact H
     have Ny101 := AM hy101
     clear hy101
     have H' := AM H
     clear H
     obtain ⟨Ao6, co6, eo6⟩ := Kd.R_slice HO_0.out
     subst eo6
     have p5 : 0 ≤ (x5_1 : Int) := of_decide_eq_true (by assumption)
     have q5 : (x5_1 : Int) < ((x0_1.length : Int) : Int) := of_decide_eq_true (by assumption)
     obtain ⟨go5, co5, eo5, gb5, gl5, cl5, HG5⟩ := Kd.R_form HO_0.out (by omega)
     (first | cases eo5 | (injection eo5 with ea_ en_ ec_; (first | subst ea_ | (injection ea_ with ea_; subst ea_)); subst ec_; clear en_))
     have GB5 := AM gb5
     have GG5 := AM HG5
     clear gb5 gl5 HG5
     have HMgo5 := AM (show (P0_ go5 ∨ w.heap.size ≤ go5) from (HO_0.out.1 _ rfl))
     obtain ⟨hx5_0, hf5_0⟩ := Kd.R_celln 0 HO_0.out (x5_1 : Int) p5 q5
     replace p5 := eq_true p5
     replace q5 := eq_true q5
     have HP7 := Kd.R_putg HO_0.out (x5_1 : Int) x1_1
     go_wp2_with (first | ((with_reducible refine gate_store (t := 2) (p := 15) rfl ?_); refine store_event (t := 2) (p := 15) (v := ?vo_w8) (w1 := (wr.setCell ⟨go5, (x5_1 : Int).toNat, none⟩ (.int .i64 x1_1))) ?hg ?ho ?hn ?hr ?_; (case ho => rfl); (case hg => rfl); (case hn => rfl); (case hr => first | (go_simp; done) | (go_simp; rfl)); intro w8 hw; have hg : wr.grownBy w8 (some go5) := (by rw [hw]; exact HP7.2); have hp_ : Kd.R (Kd.int .i64) 2 w8 w0.heap.size (fun k_ => (P0_ k_ ∨ w.heap.size ≤ k_)) (.slice (some ⟨go5, 0, none⟩) x0_1.length co6) y101 := (by rw [hw, Ny101.out]; exact HP7.1); clear HP7; have _ := AM (hp_); have _ := AM ((by rw [hw]; exact bS (HB.out) GB5.out : Below w0.heap.size w0 w8)); have _ := AM (Kept.of_grown (S := (fun k_ => P0_ k_)) hg (tX HK.out) (fun k_ e_ => (HO_0.out.1 k_ e_))); clear HO_0 HB HK; rename_i HO_0 HB HK; clear hg hw hp_))
     go_roundg k1
     case measure => have := HK1.out; omega
     case rel => exact ⟨(y101), (wrap64 (x1_1 + 1)), (wrap64 (x5_1 + 1)), (by first | rfl | (simp; done) | (simp [*]; done)), (by first | rfl | (simp; done) | (simp [*]; done)), H', ⟨by have := HK1.out; omega⟩, ⟨rX HO_0.out⟩, ⟨tX HK.out⟩, ⟨bX HB.out⟩⟩
    rw [if_neg c4] at H
    exact absurd H (by simp)
   rw [if_neg c3] at H
   have c3b0 : decide (x5_1 < (x0_1.length : Int)) = false := decide_eq_false c3
   clear c3
   simp only [Option.some.injEq, Prod.mk.injEq] at H
   obtain ⟨rfl, rfl⟩ := H
   obtain ⟨Ao9, co9, eo9⟩ := Kd.R_slice HO_0.out
   subst eo9
   go_wp2
   go_ret
   exact ⟨by first | rfl | (simp [*, errW_none, errW_some] <;> rfl), rX HO_0.out, bX HB.out, tX HK.out⟩

/-! ### laws_markProofS: function 36 (by hand) -/
/-! Rows whose elements have rows of their own, told with the owner of each block. -/
theorem zip_set {α : Type} (xs : List α) (i : Nat) (x : α) : xs.zipIdx.set i (x, i) = (xs.set i x).zipIdx := by
  apply List.ext_getElem?
  intro j
  rw [List.getElem?_set, List.getElem?_zipIdx, List.getElem?_zipIdx, List.getElem?_set]
  by_cases h : i = j
  · subst h
    simp
  · simp [h]
theorem tg_elem {α : Type} {d : Kd α} {f : Nat → Nat} {e : Nat} {W : World} {base : Nat} {ok : Nat → Prop} {g n cap : Nat} {xs : List α} (h : (Kd.tag f d).R e W base ok (.slice (some ⟨g, 0, none⟩) n cap) xs.zipIdx) (z : α) (i : Nat) (hi : i < xs.length) :
    n = xs.length ∧ ∃ c, c.length = d.sz ∧ d.M W base (fun k => (ok k ∧ k ≠ g) ∧ f k = i) (xs.getD i z) c ∧ (∀ j u, c[j]? = some u → W.cell? ⟨g, i * d.sz + j, none⟩ = some u) ∧ ∀ j, W.frozen? ⟨g, i * d.sz + j, none⟩ = false := by
  have hn : n = xs.length := by have := (Kd.R_reads' h).1; simpa using this
  obtain ⟨c, h1, h2, h3, h4⟩ := Kd.R_elem h (z, i) (i : Int) (by omega) (by omega)
  have e : xs.zipIdx.getD (i : Int).toNat (z, i) = (xs.getD i z, i) := by
    rw [Int.toNat_natCast, List.getD_eq_getElem?_getD, List.getElem?_zipIdx, List.getD_eq_getElem?_getD, List.getElem?_eq_getElem hi]
    simp
  rw [e] at h2
  rw [Int.toNat_natCast] at h3 h4
  exact ⟨hn, c, h1, h2, h3, h4⟩
theorem tg_seg {α : Type} {d : Kd α} {f : Nat → Nat} {e : Nat} {W : World} {base : Nat} {ok : Nat → Prop} {g n cap : Nat} {xs : List α} (h : (Kd.tag f d).R e W base ok (.slice (some ⟨g, 0, none⟩) n cap) xs.zipIdx) (i : Nat) (hi : i < xs.length) {c seg : List Value} {j : Nat} (hcl : c.length = d.sz) (hcc : ∀ j u, c[j]? = some u → W.cell? ⟨g, i * d.sz + j, none⟩ = some u)
    (hj : j + seg.length ≤ d.sz) {x' : α} (hM : d.M W base (fun k => (ok k ∧ k ≠ g) ∧ f k = i) x' (c.take j ++ seg ++ c.drop (j + seg.length))) :
    (Kd.tag f d).R e (W.setCells g (i * d.sz + j) seg) base ok (.slice (some ⟨g, 0, none⟩) n cap) (xs.set i x').zipIdx := by
  have hn : n = xs.length := by have := (Kd.R_reads' h).1; simpa using this
  have := (Kd.R_seg h (i : Int) (by omega) (by omega) (c := c) (seg := seg) (j := j) (okp := fun k => ok k ∧ k ≠ g) hcl (by rw [Int.toNat_natCast]; exact hcc) hj (x' := (x', i)) hM (fun _ hk => hk)).1
  rw [Int.toNat_natCast, zip_set] at this
  exact this
theorem tg_inner {α : Type} {d : Kd α} {f : Nat → Nat} {e : Nat} {W w1 : World} {base : Nat} {ok : Nat → Prop} {g n cap : Nat} {xs : List α} (h : (Kd.tag f d).R e W base ok (.slice (some ⟨g, 0, none⟩) n cap) xs.zipIdx) (i : Nat) (hi : i < xs.length) {c : List Value} (hcl : c.length = d.sz) (hcc : ∀ j u, c[j]? = some u → W.cell? ⟨g, i * d.sz + j, none⟩ = some u)
    (hk : ∀ k, k < W.heap.size → ok k → (f k ≠ i ∨ k = g) → w1.heap[k]? = W.heap[k]?) {x' : α} (hM : d.M w1 base (fun k => (ok k ∧ k ≠ g) ∧ f k = i) x' c) :
    (Kd.tag f d).R e w1 base ok (.slice (some ⟨g, 0, none⟩) n cap) (xs.set i x').zipIdx := by
  have hrd := Kd.R_reads' h
  obtain ⟨hok, inner, ho, hr⟩ := h
  have hlen : (xs.set i x').zipIdx.length = xs.zipIdx.length := by simp
  have hg0 : ok g := hok g rfl
  have ho2 := ho
  obtain ⟨hil, ho'⟩ := ho2
  rcases ho' with ⟨hv, _⟩ | ⟨g', cap', cur, hv, hb, hh, hnc', hcm, hcs, ht⟩
  · cases hv
  injection hv with ha _ hc
  injection ha with ha
  injection ha with hg
  subst hg; subst hc
  have hgs : g < W.heap.size := (Array.getElem?_eq_some_iff.1 hh).1
  have hseg : (inner.drop (i * d.sz)).take d.sz = c := by
    have hle : i * d.sz + d.sz ≤ inner.length := by
      rw [hil, ← Nat.succ_mul]
      exact Nat.mul_le_mul_right _ (by rw [List.length_zipIdx]; exact hi)
    apply List.ext_getElem?
    intro j
    by_cases hj : j < d.sz
    · have h1 := hcc j (c[j]'(by omega)) (List.getElem?_eq_getElem (by omega))
      rw [Go.cell_of_row W g _ cur e (0, 0) hh] at h1
      rw [List.getElem?_take, if_pos hj, List.getElem?_drop, List.getElem?_eq_getElem (l := c) (by omega), ← h1, ← ht, List.getElem?_take, if_pos (by rw [← hil]; omega)]
      simp
    · rw [List.getElem?_eq_none (by simp; omega), List.getElem?_eq_none (by omega)]
  refine ⟨hok, inner, ?_, ?_⟩
  · rw [hlen]
    exact own_move ho (fun k hk' => by simp [Value.ownBlock] at hk'; subst hk'; exact hk g hgs hg0 (.inr rfl))
  · refine ⟨by rw [hlen]; exact hr.1, fun j p hj => ?_⟩
    by_cases hij : i = j
    · subst hij
      rw [List.getElem?_zipIdx, List.getElem?_set, if_pos rfl, if_pos hi] at hj
      simp at hj
      subst hj
      rw [show (Kd.tag f d).sz = d.sz from rfl, hseg]
      exact d.M_mono (fun k hk' => ⟨⟨hk'.1.1, fun e_ => hk'.1.2 (by simpa [Value.ownBlock] using e_)⟩, hk'.2⟩) hM
    · rw [List.getElem?_zipIdx, List.getElem?_set, if_neg hij] at hj
      rw [← List.getElem?_zipIdx] at hj
      have hj0 := hr.2 j p hj
      have hp2 : p.2 = j := by
        rw [List.getElem?_zipIdx] at hj
        cases hx : xs[j]? with
        | none => rw [hx] at hj; simp at hj
        | some y => rw [hx] at hj; simp at hj; rw [← hj]
      exact Kd.M_step (d := d) hj0 (fun k hk' hlt => hk k hlt hk'.1.1 (.inl (by rw [hk'.2, hp2]; exact fun e_ => hij e_.symm)))
theorem int_only {e : Nat} {w : World} {base : Nat} {ok ok' : Nat → Prop} {v : Value} {xs : List Int} (h : (Kd.int .i64).R e w base ok v xs) (hv : ∀ k, v.ownBlock = some k → ok' k) : (Kd.int .i64).R e w base ok' v xs := ⟨hv, h.2⟩
/-- Marks over a row of proofs. -/
def laws_markProofS.l0 : Nat → List S72 → Int → Int → Option (Int × List S72)
  | 0, _, _, _ => none
  | k + 1, l, m, i => if i < (l.length : Int) then (if 0 ≤ i then (laws_markText.f k (wrap64 (wrap64 (m + 1) + 1))).bind fun t => (laws_markInt64S.f k (rd_T72 l i).f3 (wrap64 (wrap64 (wrap64 (m + 1) + 1) + 1))).bind fun p => laws_markProofS.l0 k (l.set i.toNat ⟨m, wrap64 (m + 1), t, p.2⟩) p.1 (wrap64 (i + 1)) else none) else some (m, l)
def laws_markProofS.f (k : Nat) (l0 : List S72) (a1 : Int) : Option (Int × List S72) := laws_markProofS.l0 k l0 a1 0
theorem laws_markProofS.mono_l : ∀ k, (∀ y0 y1 y2, LeO (laws_markProofS.l0 k y0 y1 y2) (laws_markProofS.l0 (k + 1) y0 y1 y2))
  | 0 => fun _ _ _ r h => by simp [laws_markProofS.l0] at h
  | k + 1 => by
    have ih0 := laws_markProofS.mono_l k
    intro y0 y1 y2
    unfold laws_markProofS.l0
    repeat' first
      | (with_reducible exact laws_markText.mono _ _)
      | (with_reducible exact laws_markInt64S.mono _ _ _)
      | (with_reducible exact ih0 _ _ _)
      | (with_reducible exact LeO.refl _)
      | (with_reducible exact LeO.none _)
      | (with_reducible refine LeO.ite ?_ ?_)
      | (with_reducible refine LeO.bind ?_ (fun _ => ?_))
theorem laws_markProofS.mono : ∀ a0 a1 k, LeO (laws_markProofS.f k a0 a1) (laws_markProofS.f (k + 1) a0 a1) := fun a0 a1 k => laws_markProofS.mono_l k a0 a1 0
theorem proof_cells {f : Nat → Nat} {W : World} {base : Nat} {ok : Nat → Prop} {g n cap : Nat} {xs : List S72} (h : (Kd.tag f k72).R 72 W base ok (.slice (some ⟨g, 0, none⟩) n cap) xs.zipIdx) (i : Nat) (hi : i < xs.length) :
    n = xs.length ∧ ∃ v3, (Kd.int .i64).R 2 W base (fun k => (ok k ∧ k ≠ g) ∧ f k = i) v3 (rd_T72 xs i).f3 ∧
      (W.cell? ⟨g, i * 4, none⟩ = some (.int .i64 (rd_T72 xs i).f0) ∧ W.cell? ⟨g, i * 4 + 1, none⟩ = some (.int .i64 (rd_T72 xs i).f1) ∧ W.cell? ⟨g, i * 4 + 2, none⟩ = some (.string (rd_T72 xs i).f2) ∧ W.cell? ⟨g, i * 4 + 3, none⟩ = some v3) ∧ ∀ j, W.frozen? ⟨g, i * 4 + j, none⟩ = false := by
  obtain ⟨hn, c, hcl, hM, hcc, hfr⟩ := tg_elem h z72 i hi
  obtain ⟨v3, rfl, h3⟩ := k72_openM hM
  exact ⟨hn, v3, h3, ⟨hcc 0 _ rfl, hcc 1 _ rfl, hcc 2 _ rfl, hcc 3 _ rfl⟩, hfr⟩
theorem cells4p {g i : Nat} {W : World} {a b c d : Value} (h0 : W.cell? ⟨g, i * 4, none⟩ = some a) (h1 : W.cell? ⟨g, i * 4 + 1, none⟩ = some b) (h2 : W.cell? ⟨g, i * 4 + 2, none⟩ = some c) (h3 : W.cell? ⟨g, i * 4 + 3, none⟩ = some d) :
    ∀ j u, ([a, b, c, d] : List Value)[j]? = some u → W.cell? ⟨g, i * k72.sz + j, none⟩ = some u := by
  intro j u hu
  match j, hu with
  | 0, hu => injection hu with hu; subst hu; exact h0
  | 1, hu => injection hu with hu; subst hu; exact h1
  | 2, hu => injection hu with hu; subst hu; exact h2
  | 3, hu => injection hu with hu; subst hu; exact h3
  | j + 4, hu => simp at hu
theorem proof_put0 {f : Nat → Nat} {W : World} {base : Nat} {ok : Nat → Prop} {g n cap : Nat} {xs : List S72} (h : (Kd.tag f k72).R 72 W base ok (.slice (some ⟨g, 0, none⟩) n cap) xs.zipIdx) (i : Nat) (hi : i < xs.length) (b : Int) :
    (Kd.tag f k72).R 72 (W.setCell ⟨g, i * 4, none⟩ (.int .i64 b)) base ok (.slice (some ⟨g, 0, none⟩) n cap) (xs.set i ⟨b, (rd_T72 xs i).f1, (rd_T72 xs i).f2, (rd_T72 xs i).f3⟩).zipIdx := by
  obtain ⟨hn, v3, h3, ⟨c0, c1, c2, c3⟩, hfr⟩ := proof_cells h i hi
  exact tg_seg h i hi (c := [.int .i64 (rd_T72 xs i).f0, .int .i64 (rd_T72 xs i).f1, .string (rd_T72 xs i).f2, v3]) (seg := [.int .i64 b]) (j := 0) rfl (cells4p c0 c1 c2 c3) (show 1 ≤ 4 from by decide) (k72_mkM _ _ _ (⟨b, (rd_T72 xs i).f1, (rd_T72 xs i).f2, (rd_T72 xs i).f3⟩ : S72) h3)
theorem proof_put1 {f : Nat → Nat} {W : World} {base : Nat} {ok : Nat → Prop} {g n cap : Nat} {xs : List S72} (h : (Kd.tag f k72).R 72 W base ok (.slice (some ⟨g, 0, none⟩) n cap) xs.zipIdx) (i : Nat) (hi : i < xs.length) (b : Int) :
    (Kd.tag f k72).R 72 (W.setCell ⟨g, i * 4 + 1, none⟩ (.int .i64 b)) base ok (.slice (some ⟨g, 0, none⟩) n cap) (xs.set i ⟨(rd_T72 xs i).f0, b, (rd_T72 xs i).f2, (rd_T72 xs i).f3⟩).zipIdx := by
  obtain ⟨hn, v3, h3, ⟨c0, c1, c2, c3⟩, hfr⟩ := proof_cells h i hi
  exact tg_seg h i hi (c := [.int .i64 (rd_T72 xs i).f0, .int .i64 (rd_T72 xs i).f1, .string (rd_T72 xs i).f2, v3]) (seg := [.int .i64 b]) (j := 1) rfl (cells4p c0 c1 c2 c3) (show 2 ≤ 4 from by decide) (k72_mkM _ _ _ (⟨(rd_T72 xs i).f0, b, (rd_T72 xs i).f2, (rd_T72 xs i).f3⟩ : S72) h3)
theorem proof_put2 {f : Nat → Nat} {W : World} {base : Nat} {ok : Nat → Prop} {g n cap : Nat} {xs : List S72} (h : (Kd.tag f k72).R 72 W base ok (.slice (some ⟨g, 0, none⟩) n cap) xs.zipIdx) (i : Nat) (hi : i < xs.length) (t : ByteArray) :
    (Kd.tag f k72).R 72 (W.setCell ⟨g, i * 4 + 2, none⟩ (.string t)) base ok (.slice (some ⟨g, 0, none⟩) n cap) (xs.set i ⟨(rd_T72 xs i).f0, (rd_T72 xs i).f1, t, (rd_T72 xs i).f3⟩).zipIdx := by
  obtain ⟨hn, v3, h3, ⟨c0, c1, c2, c3⟩, hfr⟩ := proof_cells h i hi
  exact tg_seg h i hi (c := [.int .i64 (rd_T72 xs i).f0, .int .i64 (rd_T72 xs i).f1, .string (rd_T72 xs i).f2, v3]) (seg := [.string t]) (j := 2) rfl (cells4p c0 c1 c2 c3) (show 3 ≤ 4 from by decide) (k72_mkM _ _ _ (⟨(rd_T72 xs i).f0, (rd_T72 xs i).f1, t, (rd_T72 xs i).f3⟩ : S72) h3)
theorem rd_setP {xs : List S72} {i : Nat} (hi : i < xs.length) (x : S72) : rd_T72 (xs.set i x) (i : Int) = x := by
  unfold rd_T72
  rw [Int.toNat_natCast, List.getD_eq_getElem?_getD, List.getElem?_set, if_pos rfl, if_pos hi]
  rfl
theorem proof_in3 {f : Nat → Nat} {W w1 w0 : World} {ok : Nat → Prop} {g n cap : Nat} {xs : List S72} (h : (Kd.tag f k72).R 72 W w0.heap.size ok (.slice (some ⟨g, 0, none⟩) n cap) xs.zipIdx) (i : Nat) (hi : i < xs.length) {v3 : Value} (hc3 : W.cell? ⟨g, i * 4 + 3, none⟩ = some v3) {P : Nat → Prop} {l3 : List Int}
    (hR : (Kd.int .i64).R 2 w1 w0.heap.size P v3 l3) (hk : Kept W w1 (fun k => v3.ownBlock = some k)) :
    (Kd.tag f k72).R 72 w1 w0.heap.size ok (.slice (some ⟨g, 0, none⟩) n cap) (xs.set i ⟨(rd_T72 xs i).f0, (rd_T72 xs i).f1, (rd_T72 xs i).f2, l3⟩).zipIdx := by
  obtain ⟨hn, u3, h3, ⟨c0, c1, c2, c3⟩, hfr⟩ := proof_cells h i hi
  obtain rfl : u3 = v3 := by rw [c3] at hc3; exact Option.some.inj hc3
  have ho3 := fun k hk' => (h3.1 k hk' : (ok k ∧ k ≠ g) ∧ f k = i)
  refine tg_inner h i hi (c := [.int .i64 (rd_T72 xs i).f0, .int .i64 (rd_T72 xs i).f1, .string (rd_T72 xs i).f2, u3]) rfl (cells4p c0 c1 c2 c3) (fun k hlt hok hor => hk.2 k hlt (fun e_ => ?_)) (k72_mkM _ _ _ (⟨(rd_T72 xs i).f0, (rd_T72 xs i).f1, (rd_T72 xs i).f2, l3⟩ : S72) (int_only hR (fun k hk' => ho3 k hk')))
  have := ho3 k e_
  rcases hor with h | h
  · exact h this.2
  · exact this.1.2 h
theorem proof_w3 {f : Nat → Nat} {W : World} {base : Nat} {ok : Nat → Prop} {g n cap : Nat} {l : List S72} (h : (Kd.tag f k72).R 72 W base ok (.slice (some ⟨g, 0, none⟩) n cap) l.zipIdx) (j : Nat) (hj : j < l.length) (a b : Int) :
    (Kd.tag f k72).R 72 ((W.setCell ⟨g, j * 4, none⟩ (.int .i64 a)).setCell ⟨g, j * 4 + 1, none⟩ (.int .i64 b)) base ok (.slice (some ⟨g, 0, none⟩) n cap) (l.set j ⟨a, b, (rd_T72 l j).f2, (rd_T72 l j).f3⟩).zipIdx := by
  have T0 := proof_put0 h j hj a
  have T1 := proof_put1 T0 j (by rw [List.length_set]; exact hj) b
  rw [rd_setP hj, List.set_set] at T1
  exact T1
set_option maxHeartbeats 4000000 in
set_option maxRecDepth 100000 in
theorem laws_markProofS.calls0 (k : Nat) (P0_ : Nat → Prop) (u9000_ : Value) (l0 : List S72) (a1 : Int) (r1 : Int) (r2 : List S72) (w0 w : World) (hB : Below w0.heap.size w0 w) (ho0 : Kd.S k72 72 w w0.heap.size P0_ u9000_ l0) (h : laws_markProofS.f k l0 a1 = some (r1, r2)) :
    Calls Try.prog 36 #[u9000_, .int .i64 a1] w fun e w' => e = .returned (.int .i64 r1) ∧ Kd.S k72 72 w' w0.heap.size P0_ u9000_ r2 ∧ Below w0.heap.size w0 w' ∧ Kept w w' (fun k_ => P0_ k_) := by
  obtain ⟨A, c, rfl⟩ := Kd.S_slice ho0
  obtain ⟨f, hT⟩ := ho0
  have HT := Aside0.mk hT
  have HB := Aside0.mk hB
  have HK := Aside0.mk (Kept.refl w (fun k_ => P0_ k_))
  have HF := Aside0.mk (show laws_markProofS.l0 k l0 a1 0 = some (r1, r2) from h)
  clear hT hB h
  go_enter Try.func36, Try.ntmps36
  go_wp2
  go_loopg [1, 5] k (fun kq v1 v5 w' => ∃ (m i : Int) (l : List S72), v1 = .int .i64 m ∧ v5 = .int .i64 i ∧ Aside0 (laws_markProofS.l0 kq l m i = some (r1, r2)) ∧ Aside0 ((Kd.tag f k72).R 72 w' w0.heap.size P0_ (.slice A l0.length c) l.zipIdx) ∧ Aside0 (Below w0.heap.size w0 w') ∧ Aside0 (Kept w w' (fun k_ => P0_ k_)))
  case atStart => exact ⟨a1, 0, l0, rfl, rfl, HF, HT, HB, HK⟩
  case round =>
    obtain ⟨m, i, l, rfl, rfl, HF, HT, HB, HK⟩ := hrel
    have hlen := Aside0.mk (show l0.length = l.length by have := (Kd.R_reads' HT.out).1; simpa using this)
    cases gk with
    | zero => exact absurd HF.out (by simp [laws_markProofS.l0])
    | succ gk =>
    by_cases hlt : i < (l.length : Int)
    · by_cases h0 : 0 ≤ i
      rotate_left
      · exact absurd HF.out (by rw [laws_markProofS.l0, if_pos hlt, if_neg h0]; simp)
      obtain ⟨j, rfl⟩ : ∃ j : Nat, i = (j : Int) := ⟨i.toNat, by omega⟩
      have hj : j < l.length := by omega
      obtain ⟨t, p, h1, h2, h4⟩ : ∃ t p, laws_markText.f gk (wrap64 (wrap64 (m + 1) + 1)) = some t ∧ laws_markInt64S.f gk (rd_T72 l (j : Int)).f3 (wrap64 (wrap64 (wrap64 (m + 1) + 1) + 1)) = some p ∧ laws_markProofS.l0 gk (l.set j ⟨m, wrap64 (m + 1), t, p.2⟩) p.1 (wrap64 ((j : Int) + 1)) = some (r1, r2) := by
        have e := HF.out
        rw [laws_markProofS.l0, if_pos hlt, if_pos h0] at e
        obtain ⟨t, h1, e⟩ := Option.bind_eq_some_iff.mp e
        obtain ⟨p, h2, e⟩ := Option.bind_eq_some_iff.mp e
        rw [Int.toNat_natCast] at e
        exact ⟨t, p, h1, h2, e⟩
      obtain ⟨p1, p2⟩ := p
      obtain ⟨g, cap, e, hbg, hgw, _⟩ := Kd.R_form HT.out (by simp; omega)
      injection e with e1 e2 e3
      subst e1; subst e3; clear e2
      have HG := Aside0.mk (HT.out.1 g rfl)
      have HBG := Aside0.mk hbg
      have H1 := Aside0.mk h1
      have H2 := Aside0.mk h2
      have HF2 := Aside0.mk h4
      have HJ := Aside0.mk hj
      have d0 : (0 : Int) ≤ (j : Int) := by omega
      have d1 : (j : Int) < (l0.length : Int) := by have := hlen.out; omega
      have d1n : j < l0.length := by have := hlen.out; omega
      have d2 : decide ((j : Int) < (l0.length : Int)) = true := decide_eq_true d1
      have d2n : decide (j < l0.length) = true := decide_eq_true d1n
      obtain ⟨hn, v3, hv3, ⟨c0, c1, c2, c3⟩, hfr⟩ := proof_cells HT.out j hj
      have z0 : wr.frozen? ⟨g, j * 4, none⟩ = false := hfr 0
      have z1 : wr.frozen? ⟨g, j * 4 + 1, none⟩ = false := hfr 1
      have HT2 := Aside0.mk (proof_w3 HT.out j hj m (wrap64 (m + 1)))
      have HJ2 := Aside0.mk (by rw [List.length_set]; exact hj : j < (l.set j ⟨m, wrap64 (m + 1), (rd_T72 l (j : Int)).f2, (rd_T72 l (j : Int)).f3⟩).length)
      clear hlt h0 hj h1 h2 h4 hbg hgw HF hn hv3 hfr c2 c3
      go_wp2_with (first
        | (go_at_call 35; (with_reducible refine (laws_markText.calls gk _ t _ H1.out).mono ?_); rintro e w1 ⟨rfl, hb⟩; have HB1 := Aside0.mk (below_step (below_set (below_set HB.out HBG.out) HBG.out) hb); have HT3 := Aside0.mk (Kd.R_below HT2.out hb); have HK1 := Aside0.mk (Kept.below (Kept.setCell (Kept.setCell HK.out (p := ⟨g, j * 4, none⟩) (.inl HG.out) _) (p := ⟨g, j * 4 + 1, none⟩) (.inl HG.out) _) hb); obtain ⟨hn, v4, hv4, ⟨e0, e1, e2, e3⟩, hfr⟩ := proof_cells HT3.out j HJ2.out; have z2 : w1.frozen? ⟨g, j * 4 + 2, none⟩ = false := hfr 2; rw [rd_setP HJ.out] at hv4; have HV := Aside0.mk hv4; have HC3 := Aside0.mk ((World.cell?_setCell_other _ ⟨g, j * 4 + 2, none⟩ _ (.string t) (by simp)).trans e3); have hT4 := proof_put2 HT3.out j HJ2.out t; rw [rd_setP HJ.out, List.set_set] at hT4; have HT4 := Aside0.mk hT4; clear hT4 hn hv4 hb hfr e0 e1 c0 c1 z0 z1)
        | (go_at_call 53; (with_reducible refine (laws_markInt64S.calls gk (fun k_ => v4.ownBlock = some k_) v4 (rd_T72 l (j : Int)).f3 _ p1 p2 w0 _ ?s1 ?s2 H2.out).mono ?_); (case s1 => exact below_set HB1.out HBG.out); (case s2 => exact int_only (Kd.R_far (p := ⟨g, j * 4 + 2, none⟩) HV.out (fun k hk => hk.1.2) _) (fun k hk => hk)); rintro e w5 ⟨rfl, ho, hb, hk⟩; have HB5 := Aside0.mk hb; have HK5 := Aside0.mk (Kept.then_ (Kept.setCell HK1.out (p := ⟨g, j * 4 + 2, none⟩) (.inl HG.out) _) hk (fun k hk' => .inl (HV.out.1 k hk').1.1)); have hT5 := proof_in3 HT4.out j (by rw [List.length_set]; exact HJ.out) HC3.out ho hk; rw [rd_setP HJ.out, List.set_set] at hT5; have HT5 := Aside0.mk hT5; clear hT5 ho hb hk))
      go_roundg gk
      case measure => omega
      case rel => exact ⟨p1, _, _, rfl, rfl, HF2, HT5, HB5, HK5⟩
    · have e : some (m, l) = some (r1, r2) := by have e := HF.out; rw [laws_markProofS.l0, if_neg hlt] at e; exact e
      have E := Aside0.mk e
      have d1 : decide (i < (l0.length : Int)) = false := decide_eq_false (by have := hlen.out; omega)
      clear hlt e HF
      go_wp2
      go_ret
      obtain ⟨rfl, rfl⟩ : m = r1 ∧ l = r2 := by simpa using E.out
      exact ⟨rfl, ⟨f, HT.out⟩, HB.out, HK.out⟩
theorem laws_markProofS.calls (k : Nat) (P0_ : Nat → Prop) (u9000_ : Value) (l0 : List S72) (a1 : Int) (r1 : Int) (r2 : List S72) (w0 w : World) (hB : Below w0.heap.size w0 w) (ho0 : Kd.S k72 72 w w0.heap.size P0_ u9000_ l0) (h : laws_markProofS.f k l0 a1 = some (r1, r2)) :
    Calls Try.prog 36 #[u9000_, .int .i64 a1] w fun e w' => e = .returned (.int .i64 r1) ∧ Kd.S k72 72 w' w0.heap.size (fun k_ => (P0_ k_ ∨ w.heap.size ≤ k_)) u9000_ r2 ∧ Below w0.heap.size w0 w' ∧ Kept w w' (fun k_ => P0_ k_) :=
  (laws_markProofS.calls0 k P0_ u9000_ l0 a1 r1 r2 w0 w hB ho0 h).mono (fun e w' h => ⟨h.1, Kd.S_mono h.2.1 (fun _ hk => .inl hk), h.2.2⟩)
set_option maxRecDepth 100000 in
theorem laws_markChange.calls (k : Nat) (a0_0 a0_1 : Int) (P0_ : Nat → Prop) (u9000_ : Value) (l0 : List S72) (a1 : Int) (r1 : Int) (r2 : List S72) (w0 w : World) (hB : Below w0.heap.size w0 w) (ho0 : Kd.S k72 72 w w0.heap.size P0_ u9000_ l0) (h : laws_markProofS.f k l0 a1 = some (r1, r2)) :
    Calls Try.prog 12 #[.agg #[.int .i64 a0_0, .int .i64 a0_1, u9000_], .int .i64 a1] w fun e w' => e = .returned (.int .i64 r1) ∧ Kd.S k72 72 w' w0.heap.size (fun k_ => (P0_ k_ ∨ w.heap.size ≤ k_)) u9000_ r2 ∧ Below w0.heap.size w0 w' ∧ Kept w w' (fun k_ => P0_ k_) := by
  obtain ⟨A, c, rfl⟩ := Kd.S_slice ho0
  have HS := Aside0.mk ho0
  have HB := Aside0.mk hB
  have HF := Aside0.mk h
  clear ho0 hB h
  go_enter Try.func12, Try.ntmps12
  go_wp2_with (first | (go_at_call 36; (with_reducible refine (laws_markProofS.calls k P0_ (.slice A l0.length c) l0 a1 r1 r2 w0 _ (below_alloc HB.out _) (Kd.S_alloc HS.out _) HF.out).mono ?_); rintro e w1 ⟨rfl, ho, hb, hk⟩; have HN := Aside0.mk (And.intro ho (And.intro hb hk)); clear ho hb hk))
  go_ret
  obtain ⟨ho, hb, hk⟩ := HN.out
  exact ⟨rfl, Kd.S_mono ho (fun _ h => h.imp (fun h => h) (fun h => by have h2 : (w.alloc (.cells #[.int .i64 a0_0, .int .i64 a0_1, .slice A l0.length c] 26 (0, 0))).heap.size = w.heap.size + 1 := (by simp); omega)), hb, Kept.then_ (Kept.alloc (Kept.refl w _) _) hk (fun _ h => .inl h)⟩


/-! ### laws_markChangeS: function 20 (by hand) -/
/-! Marks over a row of changes. -/
def laws_markChangeS.l0 : Nat → List S26 → Int → Int → Option (Int × List S26)
  | 0, _, _, _ => none
  | k + 1, l, m, i => if i < (l.length : Int) then (if 0 ≤ i then (laws_markProofS.f k (rd_T26 l i).f2 (wrap64 (wrap64 (m + 1) + 1))).bind fun p => laws_markChangeS.l0 k (l.set i.toNat ⟨m, wrap64 (m + 1), p.2⟩) p.1 (wrap64 (i + 1)) else none) else some (m, l)
def laws_markChangeS.f (k : Nat) (l0 : List S26) (a1 : Int) : Option (Int × List S26) := laws_markChangeS.l0 k l0 a1 0
theorem laws_markChangeS.mono_l : ∀ k, (∀ y0 y1 y2, LeO (laws_markChangeS.l0 k y0 y1 y2) (laws_markChangeS.l0 (k + 1) y0 y1 y2))
  | 0 => fun _ _ _ r h => by simp [laws_markChangeS.l0] at h
  | k + 1 => by
    have ih0 := laws_markChangeS.mono_l k
    intro y0 y1 y2
    unfold laws_markChangeS.l0
    repeat' first
      | (with_reducible exact laws_markProofS.mono _ _ _)
      | (with_reducible exact ih0 _ _ _)
      | (with_reducible exact LeO.refl _)
      | (with_reducible exact LeO.none _)
      | (with_reducible refine LeO.ite ?_ ?_)
      | (with_reducible refine LeO.bind ?_ (fun _ => ?_))
theorem laws_markChangeS.mono : ∀ a0 a1 k, LeO (laws_markChangeS.f k a0 a1) (laws_markChangeS.f (k + 1) a0 a1) := fun a0 a1 k => laws_markChangeS.mono_l k a0 a1 0
theorem chg_cells {f : Nat → Nat} {W : World} {base : Nat} {ok : Nat → Prop} {g n cap : Nat} {xs : List S26} (h : (Kd.tag f kC26).R 26 W base ok (.slice (some ⟨g, 0, none⟩) n cap) xs.zipIdx) (i : Nat) (hi : i < xs.length) :
    n = xs.length ∧ ∃ v2, Kd.S k72 72 W base (fun k => (ok k ∧ k ≠ g) ∧ f k = i) v2 (rd_T26 xs i).f2 ∧
      (W.cell? ⟨g, i * 3, none⟩ = some (.int .i64 (rd_T26 xs i).f0) ∧ W.cell? ⟨g, i * 3 + 1, none⟩ = some (.int .i64 (rd_T26 xs i).f1) ∧ W.cell? ⟨g, i * 3 + 2, none⟩ = some v2) ∧ ∀ j, W.frozen? ⟨g, i * 3 + j, none⟩ = false := by
  obtain ⟨hn, c, hcl, hM, hcc, hfr⟩ := tg_elem h z26 i hi
  obtain ⟨v2, rfl, h2⟩ := kC26_openM hM
  exact ⟨hn, v2, h2, ⟨hcc 0 _ rfl, hcc 1 _ rfl, hcc 2 _ rfl⟩, hfr⟩
theorem cells3c {g i : Nat} {W : World} {a b c : Value} (h0 : W.cell? ⟨g, i * 3, none⟩ = some a) (h1 : W.cell? ⟨g, i * 3 + 1, none⟩ = some b) (h2 : W.cell? ⟨g, i * 3 + 2, none⟩ = some c) :
    ∀ j u, ([a, b, c] : List Value)[j]? = some u → W.cell? ⟨g, i * kC26.sz + j, none⟩ = some u := by
  intro j u hu
  match j, hu with
  | 0, hu => injection hu with hu; subst hu; exact h0
  | 1, hu => injection hu with hu; subst hu; exact h1
  | 2, hu => injection hu with hu; subst hu; exact h2
  | j + 3, hu => simp at hu
theorem chg_put0 {f : Nat → Nat} {W : World} {base : Nat} {ok : Nat → Prop} {g n cap : Nat} {xs : List S26} (h : (Kd.tag f kC26).R 26 W base ok (.slice (some ⟨g, 0, none⟩) n cap) xs.zipIdx) (i : Nat) (hi : i < xs.length) (b : Int) :
    (Kd.tag f kC26).R 26 (W.setCell ⟨g, i * 3, none⟩ (.int .i64 b)) base ok (.slice (some ⟨g, 0, none⟩) n cap) (xs.set i ⟨b, (rd_T26 xs i).f1, (rd_T26 xs i).f2⟩).zipIdx := by
  obtain ⟨hn, v2, h2, ⟨c0, c1, c2⟩, hfr⟩ := chg_cells h i hi
  exact tg_seg h i hi (c := [.int .i64 (rd_T26 xs i).f0, .int .i64 (rd_T26 xs i).f1, v2]) (seg := [.int .i64 b]) (j := 0) rfl (cells3c c0 c1 c2) (show 1 ≤ 3 from by decide) (kC26_mkM _ _ _ (⟨b, (rd_T26 xs i).f1, (rd_T26 xs i).f2⟩ : S26) h2)
theorem chg_put1 {f : Nat → Nat} {W : World} {base : Nat} {ok : Nat → Prop} {g n cap : Nat} {xs : List S26} (h : (Kd.tag f kC26).R 26 W base ok (.slice (some ⟨g, 0, none⟩) n cap) xs.zipIdx) (i : Nat) (hi : i < xs.length) (b : Int) :
    (Kd.tag f kC26).R 26 (W.setCell ⟨g, i * 3 + 1, none⟩ (.int .i64 b)) base ok (.slice (some ⟨g, 0, none⟩) n cap) (xs.set i ⟨(rd_T26 xs i).f0, b, (rd_T26 xs i).f2⟩).zipIdx := by
  obtain ⟨hn, v2, h2, ⟨c0, c1, c2⟩, hfr⟩ := chg_cells h i hi
  exact tg_seg h i hi (c := [.int .i64 (rd_T26 xs i).f0, .int .i64 (rd_T26 xs i).f1, v2]) (seg := [.int .i64 b]) (j := 1) rfl (cells3c c0 c1 c2) (show 2 ≤ 3 from by decide) (kC26_mkM _ _ _ (⟨(rd_T26 xs i).f0, b, (rd_T26 xs i).f2⟩ : S26) h2)
theorem rd_setC {xs : List S26} {i : Nat} (hi : i < xs.length) (x : S26) : rd_T26 (xs.set i x) (i : Int) = x := by
  unfold rd_T26
  rw [Int.toNat_natCast, List.getD_eq_getElem?_getD, List.getElem?_set, if_pos rfl, if_pos hi]
  rfl
theorem chg_in2 {f : Nat → Nat} {W w1 w0 : World} {ok : Nat → Prop} {g n cap : Nat} {xs : List S26} (h : (Kd.tag f kC26).R 26 W w0.heap.size ok (.slice (some ⟨g, 0, none⟩) n cap) xs.zipIdx) (i : Nat) (hi : i < xs.length) {v2 : Value} (hc2 : W.cell? ⟨g, i * 3 + 2, none⟩ = some v2) {l2 : List S72}
    (hR : Kd.S k72 72 w1 w0.heap.size (fun k => (ok k ∧ k ≠ g) ∧ f k = i) v2 l2) (hk : Kept W w1 (fun k => (ok k ∧ k ≠ g) ∧ f k = i)) :
    (Kd.tag f kC26).R 26 w1 w0.heap.size ok (.slice (some ⟨g, 0, none⟩) n cap) (xs.set i ⟨(rd_T26 xs i).f0, (rd_T26 xs i).f1, l2⟩).zipIdx := by
  obtain ⟨hn, u2, h2, ⟨c0, c1, c2⟩, hfr⟩ := chg_cells h i hi
  obtain rfl : u2 = v2 := by rw [c2] at hc2; exact Option.some.inj hc2
  exact tg_inner h i hi (c := [.int .i64 (rd_T26 xs i).f0, .int .i64 (rd_T26 xs i).f1, u2]) rfl (cells3c c0 c1 c2) (fun k hlt hok hor => hk.2 k hlt (fun e_ => by
    rcases hor with h | h
    · exact h e_.2
    · exact e_.1.2 h)) (kC26_mkM _ _ _ (⟨(rd_T26 xs i).f0, (rd_T26 xs i).f1, l2⟩ : S26) hR)
theorem chg_w2 {f : Nat → Nat} {W : World} {base : Nat} {ok : Nat → Prop} {g n cap : Nat} {l : List S26} (h : (Kd.tag f kC26).R 26 W base ok (.slice (some ⟨g, 0, none⟩) n cap) l.zipIdx) (j : Nat) (hj : j < l.length) (a b : Int) :
    (Kd.tag f kC26).R 26 ((W.setCell ⟨g, j * 3, none⟩ (.int .i64 a)).setCell ⟨g, j * 3 + 1, none⟩ (.int .i64 b)) base ok (.slice (some ⟨g, 0, none⟩) n cap) (l.set j ⟨a, b, (rd_T26 l j).f2⟩).zipIdx := by
  have T0 := chg_put0 h j hj a
  have T1 := chg_put1 T0 j (by rw [List.length_set]; exact hj) b
  rw [rd_setC hj, List.set_set] at T1
  exact T1
set_option maxHeartbeats 4000000 in
set_option maxRecDepth 100000 in
theorem laws_markChangeS.calls (k : Nat) (P0_ : Nat → Prop) (u9000_ : Value) (l0 : List S26) (a1 : Int) (r1 : Int) (r2 : List S26) (w0 w : World) (hB : Below w0.heap.size w0 w) (ho0 : Kd.S kC26 26 w w0.heap.size P0_ u9000_ l0) (h : laws_markChangeS.f k l0 a1 = some (r1, r2)) :
    Calls Try.prog 20 #[u9000_, .int .i64 a1] w fun e w' => e = .returned (.int .i64 r1) ∧ Kd.S kC26 26 w' w0.heap.size P0_ u9000_ r2 ∧ Below w0.heap.size w0 w' ∧ Kept w w' (fun k_ => P0_ k_) := by
  obtain ⟨A, c, rfl⟩ := Kd.S_slice ho0
  obtain ⟨f, hT⟩ := ho0
  have HT := Aside0.mk hT
  have HB := Aside0.mk hB
  have HK := Aside0.mk (Kept.refl w (fun k_ => P0_ k_))
  have HF := Aside0.mk (show laws_markChangeS.l0 k l0 a1 0 = some (r1, r2) from h)
  clear hT hB h
  go_enter Try.func20, Try.ntmps20
  go_wp2
  go_loopg [1, 5] k (fun kq v1 v5 w' => ∃ (m i : Int) (l : List S26), v1 = .int .i64 m ∧ v5 = .int .i64 i ∧ Aside0 (laws_markChangeS.l0 kq l m i = some (r1, r2)) ∧ Aside0 ((Kd.tag f kC26).R 26 w' w0.heap.size P0_ (.slice A l0.length c) l.zipIdx) ∧ Aside0 (Below w0.heap.size w0 w') ∧ Aside0 (Kept w w' (fun k_ => P0_ k_)))
  case atStart => exact ⟨a1, 0, l0, rfl, rfl, HF, HT, HB, HK⟩
  case round =>
    obtain ⟨m, i, l, rfl, rfl, HF, HT, HB, HK⟩ := hrel
    have hlen := Aside0.mk (show l0.length = l.length by have := (Kd.R_reads' HT.out).1; simpa using this)
    cases gk with
    | zero => exact absurd HF.out (by simp [laws_markChangeS.l0])
    | succ gk =>
    by_cases hlt : i < (l.length : Int)
    · by_cases h0 : 0 ≤ i
      rotate_left
      · exact absurd HF.out (by rw [laws_markChangeS.l0, if_pos hlt, if_neg h0]; simp)
      obtain ⟨j, rfl⟩ : ∃ j : Nat, i = (j : Int) := ⟨i.toNat, by omega⟩
      have hj : j < l.length := by omega
      obtain ⟨p, h2, h4⟩ : ∃ p, laws_markProofS.f gk (rd_T26 l (j : Int)).f2 (wrap64 (wrap64 (m + 1) + 1)) = some p ∧ laws_markChangeS.l0 gk (l.set j ⟨m, wrap64 (m + 1), p.2⟩) p.1 (wrap64 ((j : Int) + 1)) = some (r1, r2) := by
        have e := HF.out
        rw [laws_markChangeS.l0, if_pos hlt, if_pos h0] at e
        obtain ⟨p, h2, e⟩ := Option.bind_eq_some_iff.mp e
        rw [Int.toNat_natCast] at e
        exact ⟨p, h2, e⟩
      obtain ⟨p1, p2⟩ := p
      obtain ⟨g, cap, e, hbg, hgw, _⟩ := Kd.R_form HT.out (by simp; omega)
      injection e with e1 e2 e3
      subst e1; subst e3; clear e2
      have HG := Aside0.mk (HT.out.1 g rfl)
      have HBG := Aside0.mk hbg
      have H2 := Aside0.mk h2
      have HF2 := Aside0.mk h4
      have HJ := Aside0.mk hj
      have d0 : (0 : Int) ≤ (j : Int) := by omega
      have d1 : (j : Int) < (l0.length : Int) := by have := hlen.out; omega
      have d1n : j < l0.length := by have := hlen.out; omega
      have d2 : decide ((j : Int) < (l0.length : Int)) = true := decide_eq_true d1
      have d2n : decide (j < l0.length) = true := decide_eq_true d1n
      obtain ⟨hn, v2, hv2, ⟨c0, c1, c2⟩, hfr⟩ := chg_cells HT.out j hj
      have z0 : wr.frozen? ⟨g, j * 3, none⟩ = false := hfr 0
      have z1 : wr.frozen? ⟨g, j * 3 + 1, none⟩ = false := hfr 1
      have HT2 := Aside0.mk (chg_w2 HT.out j hj m (wrap64 (m + 1)))
      have HV := Aside0.mk hv2
      have HC2 := Aside0.mk (show ((wr.setCell ⟨g, j * 3, none⟩ (.int .i64 m)).setCell ⟨g, j * 3 + 1, none⟩ (.int .i64 (wrap64 (m + 1)))).cell? ⟨g, j * 3 + 2, none⟩ = some v2 from (World.cell?_setCell_other _ _ _ _ (by simp)).trans ((World.cell?_setCell_other _ _ _ _ (by simp)).trans c2))
      clear hlt h0 hj h2 h4 hbg hgw HF hn hv2 hfr
      go_wp2_with (first
        | (go_at_call 36; (with_reducible refine (laws_markProofS.calls0 gk (fun k => (P0_ k ∧ k ≠ g) ∧ f k = j) v2 (rd_T26 l (j : Int)).f2 _ p1 p2 w0 _ ?s1 ?s2 H2.out).mono ?_); (case s1 => exact below_set (below_set HB.out HBG.out) HBG.out); (case s2 => exact Kd.S_far (p := ⟨g, j * 3 + 1, none⟩) (Kd.S_far (p := ⟨g, j * 3, none⟩) HV.out (fun k hk => hk.1.2) _) (fun k hk => hk.1.2) _); rintro e w5 ⟨rfl, ho, hb, hk⟩; have HB5 := Aside0.mk hb; have HK5 := Aside0.mk (Kept.then_ (Kept.setCell (Kept.setCell HK.out (p := ⟨g, j * 3, none⟩) (.inl HG.out) _) (p := ⟨g, j * 3 + 1, none⟩) (.inl HG.out) _) hk (fun k hk' => .inl hk'.1.1)); have hT5 := chg_in2 HT2.out j (by rw [List.length_set]; exact HJ.out) HC2.out ho hk; rw [rd_setC HJ.out, List.set_set] at hT5; have HT5 := Aside0.mk hT5; clear hT5 ho hb hk))
      go_roundg gk
      case measure => omega
      case rel => exact ⟨p1, _, _, rfl, rfl, HF2, HT5, HB5, HK5⟩
    · have e : some (m, l) = some (r1, r2) := by have e := HF.out; rw [laws_markChangeS.l0, if_neg hlt] at e; exact e
      have E := Aside0.mk e
      have d1 : decide (i < (l0.length : Int)) = false := decide_eq_false (by have := hlen.out; omega)
      clear hlt e HF
      go_wp2
      go_ret
      obtain ⟨rfl, rfl⟩ : m = r1 ∧ l = r2 := by simpa using E.out
      exact ⟨rfl, ⟨f, HT.out⟩, HB.out, HK.out⟩


/-! ### laws_markFreshS: function 21 -/

def laws_markFreshS.l0 : Nat → List (S67) → Int → Int → Option (Int × (List (S67)))
  | 0, _, _, _ => none
  | k + 1, x0, x1, x5 => if x5 < (x0.length : Int) then (if 0 ≤ x5 then ((some (x0.set (x5 : Int).toNat (⟨x1, (rd_T67 x0 x5).f1⟩ : S67) : List (S67))).bind fun y101 => ((laws_markText.f k (wrap64 (x1 + 1))).bind fun t102 => (laws_markFreshS.l0 k (y101.set (x5 : Int).toNat (⟨(rd_T67 y101 x5).f0, t102⟩ : S67)) (wrap64 ((wrap64 (x1 + 1)) + 1)) (wrap64 (x5 + 1))))) else (none)) else (some (x1, x0))
def laws_markFreshS.f (k : Nat) (l0 : List (S67)) (a1 : Int) : Option (Int × (List (S67))) := laws_markFreshS.l0 k l0 a1 0
theorem laws_markFreshS.mono_l : ∀ k, (∀ y0 y1 y2, LeO (laws_markFreshS.l0 k y0 y1 y2) (laws_markFreshS.l0 (k + 1) y0 y1 y2))
  | 0 => fun _ _ _ r h => by simp [laws_markFreshS.l0] at h
  | k + 1 => by
    have ih0 := laws_markFreshS.mono_l k
    · intro y0 y1 y2
      unfold laws_markFreshS.l0
      repeat' first
      | (with_reducible exact ih0 _ _ _)
      | (with_reducible exact laws_markText.mono _ _)
      | (with_reducible exact LeO.refl _)
      | (with_reducible exact LeO.none _)
      | (with_reducible refine LeO.ite ?_ ?_)
      | (with_reducible refine LeO.bind ?_ (fun _ => ?_))
      | exact ih0 _ _ _
      | exact laws_markText.mono _ _
      | exact LeO.none _
      | refine LeO.ite ?_ ?_
      | refine LeO.bind ?_ (fun _ => ?_)
theorem laws_markFreshS.mono : ∀ a0 a1 k, LeO (laws_markFreshS.f k a0 a1) (laws_markFreshS.f (k + 1) a0 a1) := by
  intro a0 a1 k
  have ih0 := laws_markFreshS.mono_l k
  unfold laws_markFreshS.f
  repeat' first
      | (with_reducible exact ih0 _ _ _)
      | (with_reducible exact laws_markText.mono _ _)
      | (with_reducible exact LeO.refl _)
      | (with_reducible exact LeO.none _)
      | (with_reducible refine LeO.ite ?_ ?_)
      | (with_reducible refine LeO.bind ?_ (fun _ => ?_))
      | exact ih0 _ _ _
      | exact laws_markText.mono _ _
      | exact LeO.none _
      | refine LeO.ite ?_ ?_
      | refine LeO.bind ?_ (fun _ => ?_)
set_option maxHeartbeats 60000000 in
set_option maxRecDepth 100000 in
theorem laws_markFreshS.calls (k : Nat) (P0_ : Nat → Prop) (u9000_ : Value) (l0 : List (S67)) (a1 : Int) (r1 : Int) (r2 : List (S67)) (w0 w : World) (hB : Below w0.heap.size w0 w) (ho0 : Kd.R k67 67 w w0.heap.size P0_ u9000_ l0) (h : laws_markFreshS.f k l0 a1 = some (r1, r2)) :
    Calls Try.prog 21 #[u9000_, .int .i64 a1] w fun e w' => e = .returned (.int .i64 r1) ∧ Kd.R k67 67 w' w0.heap.size (fun k_ => (P0_ k_ ∨ w.heap.size ≤ k_)) u9000_ r2 ∧ Below w0.heap.size w0 w' ∧ Kept w w' (fun k_ => P0_ k_) := by
 have HO0 := AM (show Kd.R k67 67 w w0.heap.size (fun k_ => (P0_ k_ ∨ w.heap.size ≤ k_)) u9000_ l0 from Kd.R_mono ho0 (fun k_ hk => (.inl hk)))
 have HK := AM (Kept.refl w (fun k_ => P0_ k_))
 have HW0 := AM hB.size
 have HB := AM hB
 clear hB
 have H : (laws_markFreshS.l0 k l0 a1 0) = some (r1, r2) := h
 clear h
 have H' := AM H
 clear H
 go_enter Try.func21, Try.ntmps21
 go_wp2
 go_loopg [1, 5] k (fun kq v1 v5 w' => ∃ (x0_1 : List (S67)) (x1_1 : Int) (x5_1 : Int), v1 = .int .i64 x1_1 ∧ v5 = .int .i64 x5_1 ∧ Aside0 (laws_markFreshS.l0 kq x0_1 x1_1 x5_1 = some (r1, r2)) ∧ Aside0 (kq ≤ k) ∧ Aside0 (Kd.R k67 67 w' w0.heap.size (fun k_ => (P0_ k_ ∨ w.heap.size ≤ k_)) u9000_ x0_1) ∧ Aside0 (Kept w w' (fun k_ => P0_ k_)) ∧ Aside0 (Below w0.heap.size w0 w'))
 case atStart => exact ⟨(l0), (a1), (0), (by first | rfl | (simp; done) | (simp [*]; done)), (by first | rfl | (simp; done) | (simp [*]; done)), H', ⟨Nat.le_refl _⟩, ⟨rX HO0.out⟩, ⟨tX HK.out⟩, ⟨bX HB.out⟩⟩
 case round =>
  clear H'
  (try clear c2); (try clear p2)
  obtain ⟨x0_1, x1_1, x5_1, rfl, rfl, HA, HK1, HO_0, HK, HB⟩ := hrel
  cases gk with
  | zero => exact absurd HA.out (by simp [laws_markFreshS.l0])
  | succ k1 =>
   have H := HA.out
   clear HA
   simp only [laws_markFreshS.l0] at H
   by_cases c3 : x5_1 < (x0_1.length : Int)
   ·
    rw [if_pos c3] at H
    have c3b0 : decide (x5_1 < (x0_1.length : Int)) = true := decide_eq_true c3
    clear c3
    by_cases c4 : 0 ≤ x5_1
    ·
     rw [if_pos c4] at H
     have c4b0 : decide (0 ≤ x5_1) = true := decide_eq_true c4
     clear c4
     obtain ⟨y101, hy101⟩ : ∃ y_ : List (S67), y_ = (x0_1.set (x5_1 : Int).toNat (⟨x1_1, (rd_T67 x0_1 x5_1).f1⟩ : S67)) := ⟨_, rfl⟩
     replace H : ((laws_markText.f k1 (wrap64 (x1_1 + 1))).bind fun t102 => (laws_markFreshS.l0 k1 (y101.set (x5_1 : Int).toNat (⟨(rd_T67 y101 x5_1).f0, t102⟩ : S67)) (wrap64 ((wrap64 (x1_1 + 1)) + 1)) (wrap64 (x5_1 + 1)))) = some (r1, r2) := by first | (rw [hy101]; with_reducible exact H) | (have H2_ := (Option.bind_some _ _).symm.trans H; rw [hy101]; with_reducible exact H2_) | (have H2_ := (Option.bind_some _ _).symm.trans H; with_reducible exact H2_) | with_reducible exact H | (rw [hy101]; exact H) | exact H
     have Ny101 := AM hy101
     clear hy101
     replace H := Option.bind_eq_some_iff.mp H
     obtain ⟨t102, A60, H⟩ := H
     replace H : (laws_markFreshS.l0 k1 (y101.set (x5_1 : Int).toNat (⟨(rd_T67 y101 x5_1).f0, t102⟩ : S67)) (wrap64 ((wrap64 (x1_1 + 1)) + 1)) (wrap64 (x5_1 + 1))) = some (r1, r2) := H
     have A6 := AM A60
     clear A60
     obtain ⟨y103, hy103⟩ : ∃ y_ : List (S67), y_ = (y101.set (x5_1 : Int).toNat (⟨(rd_T67 y101 x5_1).f0, t102⟩ : S67)) := ⟨_, rfl⟩
     replace H : (laws_markFreshS.l0 k1 y103 (wrap64 ((wrap64 (x1_1 + 1)) + 1)) (wrap64 (x5_1 + 1))) = some (r1, r2) := by first | (rw [hy103]; with_reducible exact H) | (have H2_ := (Option.bind_some _ _).symm.trans H; rw [hy103]; with_reducible exact H2_) | (have H2_ := (Option.bind_some _ _).symm.trans H; with_reducible exact H2_) | with_reducible exact H | (rw [hy103]; exact H) | exact H
     have Ny103 := AM hy103
     clear hy103
     have H' := AM H
     clear H
     obtain ⟨Ao8, co8, eo8⟩ := Kd.R_slice HO_0.out
     subst eo8
     have p5 : 0 ≤ (x5_1 : Int) := of_decide_eq_true (by assumption)
     have q5 : (x5_1 : Int) < ((x0_1.length : Int) : Int) := of_decide_eq_true (by assumption)
     obtain ⟨go5, co5, eo5, gb5, gl5, cl5, HG5⟩ := Kd.R_form HO_0.out (by omega)
     (first | cases eo5 | (injection eo5 with ea_ en_ ec_; (first | subst ea_ | (injection ea_ with ea_; subst ea_)); subst ec_; clear en_))
     have GB5 := AM gb5
     have GG5 := AM HG5
     clear gb5 gl5 HG5
     have HMgo5 := AM (show (P0_ go5 ∨ w.heap.size ≤ go5) from (HO_0.out.1 _ rfl))
     obtain ⟨ce5, hcl5, hM5, hcc5, hfr5⟩ := Kd.R_elem HO_0.out z67 (x5_1 : Int) p5 q5
     obtain rfl := k67_openM hM5
     have hx5_0 : wr.cell? ⟨go5, (x5_1 : Int).toNat * 2, none⟩ = some (.int .i64 ((rd_T67 x0_1 x5_1).f0)) := hcc5 0 _ rfl
     have hx5_1 : wr.cell? ⟨go5, (x5_1 : Int).toNat * 2 + 1, none⟩ = some (.string ((rd_T67 x0_1 x5_1).f1)) := hcc5 1 _ rfl
     have hf5_0 : wr.frozen? ⟨go5, (x5_1 : Int).toNat * 2, none⟩ = false := hfr5 0
     have hf5_1 : wr.frozen? ⟨go5, (x5_1 : Int).toNat * 2 + 1, none⟩ = false := hfr5 1
     clear hcl5 hcc5 hfr5 hM5
     replace p5 := eq_true p5
     replace q5 := eq_true q5
     have HX9 := AM (show Kd.R k67 67 wr w0.heap.size (fun k_ => (P0_ k_ ∨ w.heap.size ≤ k_)) (.slice (some ⟨go5, 0, none⟩) x0_1.length co8) x0_1 from (rX HO_0.out))
     obtain ⟨ce9, hcl9, hM9, hcc9, hfr9⟩ := Kd.R_elem HX9.out z67 (x5_1 : Int) (of_decide_eq_true (by assumption)) (by have h_ : (x5_1 : Int) < ((x0_1.length : Int) : Int) := of_decide_eq_true (by assumption); first | exact h_ | (have e_ := (Kd.R_reads' HO_0.out).1; omega) | simpa using h_)
     obtain rfl := k67_openM hM9
     have HP9 := Kd.R_seg HX9.out (x5_1 : Int) (of_decide_eq_true (by assumption)) (by have h_ : (x5_1 : Int) < ((x0_1.length : Int) : Int) := of_decide_eq_true (by assumption); first | exact h_ | (have e_ := (Kd.R_reads' HO_0.out).1; omega) | simpa using h_) (seg := [.int .i64 x1_1]) (j := 0) hcl9 hcc9 (show 1 ≤ 2 from by decide) (x' := (⟨x1_1, (rd_T67 x0_1 x5_1).f1⟩ : S67)) (k67_mkM _ _ _ (⟨x1_1, (rd_T67 x0_1 x5_1).f1⟩ : S67) ) (fun _ hk => hk)
     have hx9_0 := hcc9 0 _ rfl
     (try simp only [show (k67).sz = 2 from rfl, Nat.mul_one, Nat.add_zero] at hx9_0)
     have hf9_0 := hfr9 0
     (try simp only [show (k67).sz = 2 from rfl, Nat.mul_one, Nat.add_zero] at hf9_0)
     clear hcl9 hcc9 hfr9 hM9
     go_wp2_with (first | ((with_reducible refine gate_store (t := 2) (p := 16) rfl ?_); refine store_event (t := 2) (p := 16) (v := ?vo_w10) (w1 := (wr.setCell ⟨go5, (x5_1 : Int).toNat * 2, none⟩ (.int .i64 x1_1))) ?hg ?ho ?hn ?hr ?_; (case ho => rfl); (case hg => rfl); (case hn => rfl); (case hr => first | (go_simp; done) | (go_simp; rfl)); intro w10 hw; have hg : wr.grownBy w10 (some go5) := (by rw [hw]; exact HP9.2); have hp_ : Kd.R k67 67 w10 w0.heap.size (fun k_ => (P0_ k_ ∨ w.heap.size ≤ k_)) (.slice (some ⟨go5, 0, none⟩) x0_1.length co8) y101 := (by rw [hw, Ny101.out]; exact HP9.1); clear HP9; have _ := AM (hp_); have _ := AM ((by rw [hw]; exact bS (HB.out) GB5.out : Below w0.heap.size w0 w10)); have _ := AM (Kept.of_grown (S := (fun k_ => P0_ k_)) hg (tX HK.out) (fun k_ e_ => (HO_0.out.1 k_ e_))); clear HO_0 HB HK; rename_i HO_0 HB HK; clear hg hw hp_) | ((with_reducible refine gate_callee (f := 35) rfl ?_); refine goesL_ (some 22) rfl rfl Try.func35 (by kernel_rfl) rfl #[.int .i64 (wrap64 (x1_1 + 1))] rfl (by (try simp only [mA, mB, mC]); first | done | rfl | (simp only [mD, mE]; rfl)) ?_; (with_reducible refine (laws_markText.calls k1 (wrap64 (x1_1 + 1)) t102 _ A6.out).mono ?_); rintro e w11 ⟨rfl, hb⟩; refine ⟨_, rfl, ?_⟩; have _ := AM (Kd.R_below (rX HO_0.out) hb); have _ := AM (Kept.below (S := (fun k_ => P0_ k_)) (tX HK.out) hb); have _ := AM (below_step (bX HB.out) hb); clear HO_0 HK HB; rename_i HO_0 HK HB; (try clear hb); (try clear hk); have p7 : 0 ≤ (x5_1 : Int) := of_decide_eq_true (by assumption); have q7 : (x5_1 : Int) < ((x0_1.length : Int) : Int) := of_decide_eq_true (by assumption); obtain ⟨ce7, hcl7, hM7, hcc7, hfr7⟩ := Kd.R_elem HO_0.out z67 (x5_1 : Int) p7 q7; obtain rfl := k67_openM hM7; have hx7_0 : w11.cell? ⟨go5, (x5_1 : Int).toNat * 2, none⟩ = some (.int .i64 ((rd_T67 y101 x5_1).f0)) := hcc7 0 _ rfl; have hx7_1 : w11.cell? ⟨go5, (x5_1 : Int).toNat * 2 + 1, none⟩ = some (.string ((rd_T67 y101 x5_1).f1)) := hcc7 1 _ rfl; have hf7_0 : w11.frozen? ⟨go5, (x5_1 : Int).toNat * 2, none⟩ = false := hfr7 0; have hf7_1 : w11.frozen? ⟨go5, (x5_1 : Int).toNat * 2 + 1, none⟩ = false := hfr7 1; clear hcl7 hcc7 hfr7 hM7; replace p7 := eq_true p7; replace q7 := eq_true q7; have HX12 := AM (show Kd.R k67 67 w11 w0.heap.size (fun k_ => (P0_ k_ ∨ w.heap.size ≤ k_)) (.slice (some ⟨go5, 0, none⟩) x0_1.length co8) y101 from (rX HO_0.out)); obtain ⟨ce12, hcl12, hM12, hcc12, hfr12⟩ := Kd.R_elem HX12.out z67 (x5_1 : Int) (of_decide_eq_true (by assumption)) (by have h_ : (x5_1 : Int) < ((x0_1.length : Int) : Int) := of_decide_eq_true (by assumption); first | exact h_ | (have e_ := (Kd.R_reads' HO_0.out).1; omega) | simpa using h_); obtain rfl := k67_openM hM12; have HP12 := Kd.R_seg HX12.out (x5_1 : Int) (of_decide_eq_true (by assumption)) (by have h_ : (x5_1 : Int) < ((x0_1.length : Int) : Int) := of_decide_eq_true (by assumption); first | exact h_ | (have e_ := (Kd.R_reads' HO_0.out).1; omega) | simpa using h_) (seg := [.string t102]) (j := 1) hcl12 hcc12 (show 2 ≤ 2 from by decide) (x' := (⟨(rd_T67 y101 x5_1).f0, t102⟩ : S67)) (k67_mkM _ _ _ (⟨(rd_T67 y101 x5_1).f0, t102⟩ : S67) ) (fun _ hk => hk); have hx12_1 := hcc12 1 _ rfl; (try simp only [show (k67).sz = 2 from rfl, Nat.mul_one, Nat.add_zero] at hx12_1); have hf12_1 := hfr12 1; (try simp only [show (k67).sz = 2 from rfl, Nat.mul_one, Nat.add_zero] at hf12_1); clear hcl12 hcc12 hfr12 hM12) | ((with_reducible refine gate_store (t := 9) (p := 24) rfl ?_); refine store_event (t := 9) (p := 24) (v := ?vo_w13) (w1 := (w11.setCell ⟨go5, (x5_1 : Int).toNat * 2 + 1, none⟩ (.string t102))) ?hg ?ho ?hn ?hr ?_; (case ho => rfl); (case hg => rfl); (case hn => rfl); (case hr => first | (go_simp; done) | (go_simp; rfl)); intro w13 hw; have hg : w11.grownBy w13 (some go5) := (by rw [hw]; exact HP12.2); have hp_ : Kd.R k67 67 w13 w0.heap.size (fun k_ => (P0_ k_ ∨ w.heap.size ≤ k_)) (.slice (some ⟨go5, 0, none⟩) x0_1.length co8) y103 := (by rw [hw, Ny103.out]; exact HP12.1); clear HP12; have _ := AM (hp_); have _ := AM ((by rw [hw]; exact bS (HB.out) GB5.out : Below w0.heap.size w0 w13)); have _ := AM (Kept.of_grown (S := (fun k_ => P0_ k_)) hg (tX HK.out) (fun k_ e_ => (HO_0.out.1 k_ e_))); clear HO_0 HB HK; rename_i HO_0 HB HK; clear hg hw hp_))
     go_roundg k1
     case measure => have := HK1.out; omega
     case rel => exact ⟨(y103), (wrap64 ((wrap64 (x1_1 + 1)) + 1)), (wrap64 (x5_1 + 1)), (by first | rfl | (simp; done) | (simp [*]; done)), (by first | rfl | (simp; done) | (simp [*]; done)), H', ⟨by have := HK1.out; omega⟩, ⟨rX HO_0.out⟩, ⟨tX HK.out⟩, ⟨bX HB.out⟩⟩
    rw [if_neg c4] at H
    exact absurd H (by simp)
   rw [if_neg c3] at H
   have c3b0 : decide (x5_1 < (x0_1.length : Int)) = false := decide_eq_false c3
   clear c3
   simp only [Option.some.injEq, Prod.mk.injEq] at H
   obtain ⟨rfl, rfl⟩ := H
   obtain ⟨Ao14, co14, eo14⟩ := Kd.R_slice HO_0.out
   subst eo14
   go_wp2
   go_ret
   exact ⟨by first | rfl | (simp [*, errW_none, errW_some] <;> rfl), rX HO_0.out, bX HB.out, tX HK.out⟩

/-! ### laws_heldFreshS: function 22 -/
abbrev laws_heldFreshS.b0 : Array Bool := #[true, true, true, true, false, true, false, false]
def laws_heldFreshS.l0 : Nat → List (S67) → Int → Int → Option (Int)
  | 0, _, _, _ => none
  | k + 1, x0, x1, x5 => if x5 < (x0.length : Int) then (if 0 ≤ x5 then (if ((rd_T67 x0 x5).f0) = x1 then ((laws_markText.f k (wrap64 (x1 + 1))).bind fun t103 => (if ((rd_T67 x0 x5).f1).toList = t103.toList then (laws_heldFreshS.l0 k x0 (wrap64 ((wrap64 (x1 + 1)) + 1)) (wrap64 (x5 + 1))) else (some (-1)))) else (some (-1))) else (none)) else (some x1)
def laws_heldFreshS.f (k : Nat) (l0 : List (S67)) (a1 : Int) : Option (Int) := laws_heldFreshS.l0 k l0 a1 0
theorem laws_heldFreshS.mono_l : ∀ k, (∀ y0 y1 y2, LeO (laws_heldFreshS.l0 k y0 y1 y2) (laws_heldFreshS.l0 (k + 1) y0 y1 y2))
  | 0 => fun _ _ _ r h => by simp [laws_heldFreshS.l0] at h
  | k + 1 => by
    have ih0 := laws_heldFreshS.mono_l k
    · intro y0 y1 y2
      unfold laws_heldFreshS.l0
      repeat' first
      | (with_reducible exact ih0 _ _ _)
      | (with_reducible exact laws_markText.mono _ _)
      | (with_reducible exact LeO.refl _)
      | (with_reducible exact LeO.none _)
      | (with_reducible refine LeO.ite ?_ ?_)
      | (with_reducible refine LeO.bind ?_ (fun _ => ?_))
      | exact ih0 _ _ _
      | exact laws_markText.mono _ _
      | exact LeO.none _
      | refine LeO.ite ?_ ?_
      | refine LeO.bind ?_ (fun _ => ?_)
theorem laws_heldFreshS.mono : ∀ a0 a1 k, LeO (laws_heldFreshS.f k a0 a1) (laws_heldFreshS.f (k + 1) a0 a1) := by
  intro a0 a1 k
  have ih0 := laws_heldFreshS.mono_l k
  unfold laws_heldFreshS.f
  repeat' first
      | (with_reducible exact ih0 _ _ _)
      | (with_reducible exact laws_markText.mono _ _)
      | (with_reducible exact LeO.refl _)
      | (with_reducible exact LeO.none _)
      | (with_reducible refine LeO.ite ?_ ?_)
      | (with_reducible refine LeO.bind ?_ (fun _ => ?_))
      | exact ih0 _ _ _
      | exact laws_markText.mono _ _
      | exact LeO.none _
      | refine LeO.ite ?_ ?_
      | refine LeO.bind ?_ (fun _ => ?_)
def laws_heldFreshS.T7 : Bool × List (List Nat × List Nat) := (true, [([], []), ([], []), ([0, 1], [0, 1]), ([2], [2]), ([3], [3]), ([], []), ([5], [5]), ([4, 6], [4, 6])])
def laws_heldFreshS.B7 : List Nat := [0, 0, 3, 7, 15, 0, 32, 127]
theorem laws_heldFreshS.tab7 : rtab .any (opsOf Try.f22 7) = laws_heldFreshS.T7 := by kernel_rfl
theorem laws_heldFreshS.bits7 : waitsOk laws_heldFreshS.T7.2 laws_heldFreshS.B7 = true := by kernel_rfl
set_option maxHeartbeats 60000000 in
set_option maxRecDepth 100000 in
theorem laws_heldFreshS.calls (k : Nat) (A0 : Option Addr) (c0 : Nat) (l0 : List (S67)) (a1 : Int) (r : Int) (w : World) (hr0 : Kd.C k67 w A0 l0.length l0) (hc0 : l0.length ≤ c0) (h : laws_heldFreshS.f k l0 a1 = some r) :
    Calls Try.prog 22 #[.slice A0 l0.length c0, .int .i64 a1] w fun e w' => e = .returned (.int .i64 r) ∧ Below w.heap.size w w' := by
 have HR0 := AM hr0
 have HC0 := AM hc0
 clear hr0 hc0
 have HB := AM (Below.refl w.heap.size w)
 have H : (laws_heldFreshS.l0 k l0 a1 0) = some r := h
 clear h
 have H' := AM H
 clear H
 go_enter Try.func22, Try.ntmps22
 go_wp2
 go_loopg [1, 5] k (fun kq v1 v5 w' => ∃ (x1_1 : Int) (x5_1 : Int), v1 = .int .i64 x1_1 ∧ v5 = .int .i64 x5_1 ∧ Aside0 (laws_heldFreshS.l0 kq l0 x1_1 x5_1 = some r) ∧ Aside0 (kq ≤ k) ∧ Aside0 (Below w.heap.size w w'))
 case atStart => exact ⟨(a1), (0), (by first | rfl | (simp; done) | (simp [*]; done)), (by first | rfl | (simp; done) | (simp [*]; done)), H', ⟨Nat.le_refl _⟩, ⟨bX HB.out⟩⟩
 case round =>
  clear H'
  (try clear c2); (try clear p2)
  obtain ⟨x1_1, x5_1, rfl, rfl, HA, HK1, HB⟩ := hrel
  cases gk with
  | zero => exact absurd HA.out (by simp [laws_heldFreshS.l0])
  | succ k1 =>
   have H := HA.out
   clear HA
   simp only [laws_heldFreshS.l0] at H
   by_cases c3 : x5_1 < (l0.length : Int)
   ·
    rw [if_pos c3] at H
    have c3b0 : decide (x5_1 < (l0.length : Int)) = true := decide_eq_true c3
    clear c3
    by_cases c4 : 0 ≤ x5_1
    ·
     rw [if_pos c4] at H
     have c4b0 : decide (0 ≤ x5_1) = true := decide_eq_true c4
     clear c4
     by_cases c5 : ((rd_T67 l0 x5_1).f0) = x1_1
     ·
      rw [if_pos c5] at H
      have c5b0 : (((rd_T67 l0 x5_1).f0) == x1_1) = true := beq_iff_eq.mpr c5
      have c5b1 : (((rd_T67 l0 x5_1).f0) != x1_1) = false := bne_eq_false_iff_eq.mpr c5
      clear c5
      replace H := Option.bind_eq_some_iff.mp H
      obtain ⟨t103, A60, H⟩ := H
      replace H : (if ((rd_T67 l0 x5_1).f1).toList = t103.toList then (laws_heldFreshS.l0 k1 l0 (wrap64 ((wrap64 (x1_1 + 1)) + 1)) (wrap64 (x5_1 + 1))) else (some (-1))) = some r := H
      have A6 := AM A60
      clear A60
      by_cases c7 : ((rd_T67 l0 x5_1).f1).toList = t103.toList
      ·
       rw [if_pos c7] at H
       have c7b0 : (((rd_T67 l0 x5_1).f1).toList == t103.toList) = true := beq_iff_eq.mpr c7
       have c7b1 : (((rd_T67 l0 x5_1).f1).toList != t103.toList) = false := bne_eq_false_iff_eq.mpr c7
       clear c7
       have H' := AM H
       clear H
       have p101 : 0 ≤ (x5_1 : Int) := of_decide_eq_true (by assumption)
       have q101 : x5_1 < (l0.length : Int) := of_decide_eq_true (by assumption)
       obtain ⟨ad101, e101, hx101_0, hx101_1⟩ := at_T67 HR0.out x5_1 p101 q101
       cases e101
       replace hx101_0 := pw_cell_below HB.out hx101_0
       replace hx101_1 := pw_cell_below HB.out hx101_1
       replace p101 := eq_true p101
       replace q101 := eq_true q101
       try go_wp2
       have _ := AM (bD HB.out)
       clear HB
       rename_i HB
       have p102 : 0 ≤ (x5_1 : Int) := of_decide_eq_true (by assumption)
       have q102 : x5_1 < (l0.length : Int) := of_decide_eq_true (by assumption)
       obtain ⟨ad102, e102, hx102_0, hx102_1⟩ := at_T67 HR0.out x5_1 p102 q102
       have hw102_1 := hx102_1
       have hw102_0 := hx102_0
       obtain rfl : ad101 = ad102 := (by injection e102)
       replace hx102_0 := pw_cell_below HB.out hx102_0
       replace hx102_1 := pw_cell_below HB.out hx102_1
       replace p102 := eq_true p102
       replace q102 := eq_true q102
       refine start_ (n := 8) (S := fun w' => w'.cell? (ad101.add ((x5_1).toNat * 2)) = some (.int .i64 ((rd_T67 l0 x5_1).f0)) ∧ w'.cell? ⟨(ad101.add ((x5_1).toNat * 2)).block, (ad101.add ((x5_1).toNat * 2)).off + 1, none⟩ = some (.string ((rd_T67 l0 x5_1).f1))) (ds := []) (upTo 0 8) (by kernel_rfl) rfl rfl ⟨(pw_cell_below HB.out hw102_0), (pw_cell_below HB.out hw102_1)⟩ (fun hHeld => ?_); refine with_tabW laws_heldFreshS.tab7 laws_heldFreshS.bits7 (fun HT_ HW_ => ?_)
       generalize wr.drew = w8 at HB hx102_0 hx102_1 hHeld ⊢
       refine pF 0 1 8 21 ?_
       refine pF 1 2 8 22 ?_
       refine pF 2 3 8 23 ?_
       refine pF 3 4 8 24 ?_
       refine pF2 5 26 laws_heldFreshS.b0 ?_
       refine pT2 4 25 (upTo 6 8) ?_ hHeld
       refine one_ (i := 6) (N := some 27) (upTo 7 8) rfl rfl (one_of HT_.out (by kernel_rfl)) (by decide) (fun K hK => ?_)
       refine goes_ Try.func35 (by kernel_rfl) rfl #[.int .i64 (wrap64 (x1_1 + 1))] (by rfl) rfl rfl (by (try simp only [mA, mB, mC]); first | done | rfl | (simp only [mD, mE]; rfl)) ?_
       with_reducible refine (laws_markText.calls k1 (wrap64 (x1_1 + 1)) t103 _ A6.out).mono ?_
       rintro e w9 ⟨rfl, hb⟩
       refine ⟨_, rfl, ?_⟩
       have _ := AM (below_step (bX HB.out) hb)
       clear HB
       rename_i HB
       (try clear hb)
       (try clear hk)
       refine hK.out _ _ ⟨(pw_cell_below HB.out hw102_0), (pw_cell_below HB.out hw102_1)⟩ (fun hHeld => ?_)
       clear hK K
       refine norm_ (a' := ?_) ?_ ?_
       rotate_left
       ·
        show Act.put _ (some 27) _ = _
        simp only [Act.put, sA, sB, sC, i64_w, i32_w]
        rfl
       refine pF 7 8 8 28 ?_
       refine done_ (done_of HT_.out (by kernel_rfl)) ?_
       try go_wp2
       go_roundg k1
       case measure => have := HK1.out; omega
       case rel => exact ⟨(wrap64 ((wrap64 (x1_1 + 1)) + 1)), (wrap64 (x5_1 + 1)), (by first | rfl | (simp; done) | (simp [*]; done)), (by first | rfl | (simp; done) | (simp [*]; done)), H', ⟨by have := HK1.out; omega⟩, ⟨bX HB.out⟩⟩
      rw [if_neg c7] at H
      have c7b0 : (((rd_T67 l0 x5_1).f1).toList == t103.toList) = false := beq_eq_false_iff_ne.mpr c7
      have c7b1 : (((rd_T67 l0 x5_1).f1).toList != t103.toList) = true := bne_iff_ne.mpr c7
      obtain rfl := Option.some.inj H
      have p101 : 0 ≤ (x5_1 : Int) := of_decide_eq_true (by assumption)
      have q101 : x5_1 < (l0.length : Int) := of_decide_eq_true (by assumption)
      obtain ⟨ad101, e101, hx101_0, hx101_1⟩ := at_T67 HR0.out x5_1 p101 q101
      cases e101
      replace hx101_0 := pw_cell_below HB.out hx101_0
      replace hx101_1 := pw_cell_below HB.out hx101_1
      replace p101 := eq_true p101
      replace q101 := eq_true q101
      try go_wp2
      have _ := AM (bD HB.out)
      clear HB
      rename_i HB
      have p102 : 0 ≤ (x5_1 : Int) := of_decide_eq_true (by assumption)
      have q102 : x5_1 < (l0.length : Int) := of_decide_eq_true (by assumption)
      obtain ⟨ad102, e102, hx102_0, hx102_1⟩ := at_T67 HR0.out x5_1 p102 q102
      have hw102_1 := hx102_1
      have hw102_0 := hx102_0
      obtain rfl : ad101 = ad102 := (by injection e102)
      replace hx102_0 := pw_cell_below HB.out hx102_0
      replace hx102_1 := pw_cell_below HB.out hx102_1
      replace p102 := eq_true p102
      replace q102 := eq_true q102
      refine start_ (n := 8) (S := fun w' => w'.cell? (ad101.add ((x5_1).toNat * 2)) = some (.int .i64 ((rd_T67 l0 x5_1).f0)) ∧ w'.cell? ⟨(ad101.add ((x5_1).toNat * 2)).block, (ad101.add ((x5_1).toNat * 2)).off + 1, none⟩ = some (.string ((rd_T67 l0 x5_1).f1))) (ds := []) (upTo 0 8) (by kernel_rfl) rfl rfl ⟨(pw_cell_below HB.out hw102_0), (pw_cell_below HB.out hw102_1)⟩ (fun hHeld => ?_); refine with_tabW laws_heldFreshS.tab7 laws_heldFreshS.bits7 (fun HT_ HW_ => ?_)
      generalize wr.drew = w10 at HB hx102_0 hx102_1 hHeld ⊢
      refine pF 0 1 8 21 ?_
      refine pF 1 2 8 22 ?_
      refine pF 2 3 8 23 ?_
      refine pF 3 4 8 24 ?_
      refine pF2 5 26 laws_heldFreshS.b0 ?_
      refine pT2 4 25 (upTo 6 8) ?_ hHeld
      refine one_ (i := 6) (N := some 27) (upTo 7 8) rfl rfl (one_of HT_.out (by kernel_rfl)) (by decide) (fun K hK => ?_)
      refine goes_ Try.func35 (by kernel_rfl) rfl #[.int .i64 (wrap64 (x1_1 + 1))] (by rfl) rfl rfl (by (try simp only [mA, mB, mC]); first | done | rfl | (simp only [mD, mE]; rfl)) ?_
      with_reducible refine (laws_markText.calls k1 (wrap64 (x1_1 + 1)) t103 _ A6.out).mono ?_
      rintro e w11 ⟨rfl, hb⟩
      refine ⟨_, rfl, ?_⟩
      have _ := AM (below_step (bX HB.out) hb)
      clear HB
      rename_i HB
      (try clear hb)
      (try clear hk)
      refine hK.out _ _ ⟨(pw_cell_below HB.out hw102_0), (pw_cell_below HB.out hw102_1)⟩ (fun hHeld => ?_)
      clear hK K
      refine norm_ (a' := ?_) ?_ ?_
      rotate_left
      ·
       show Act.put _ (some 27) _ = _
       simp only [Act.put, sA, sB, sC, i64_w, i32_w]
       rfl
      refine pF 7 8 8 28 ?_
      refine done_ (done_of HT_.out (by kernel_rfl)) ?_
      try go_wp2
      go_ret
      exact ⟨by first | rfl | (simp [*, errW_none, errW_some] <;> rfl), bX HB.out⟩
     rw [if_neg c5] at H
     have c5b0 : (((rd_T67 l0 x5_1).f0) == x1_1) = false := beq_eq_false_iff_ne.mpr c5
     have c5b1 : (((rd_T67 l0 x5_1).f0) != x1_1) = true := bne_iff_ne.mpr c5
     obtain rfl := Option.some.inj H
     have p101 : 0 ≤ (x5_1 : Int) := of_decide_eq_true (by assumption)
     have q101 : x5_1 < (l0.length : Int) := of_decide_eq_true (by assumption)
     obtain ⟨ad101, e101, hx101_0, hx101_1⟩ := at_T67 HR0.out x5_1 p101 q101
     cases e101
     replace hx101_0 := pw_cell_below HB.out hx101_0
     replace hx101_1 := pw_cell_below HB.out hx101_1
     replace p101 := eq_true p101
     replace q101 := eq_true q101
     go_wp2
     go_ret
     exact ⟨by first | rfl | (simp [*, errW_none, errW_some] <;> rfl), bX HB.out⟩
    rw [if_neg c4] at H
    exact absurd H (by simp)
   rw [if_neg c3] at H
   have c3b0 : decide (x5_1 < (l0.length : Int)) = false := decide_eq_false c3
   clear c3
   obtain rfl := Option.some.inj H
   go_wp2
   go_ret
   exact ⟨by first | rfl | (simp [*, errW_none, errW_some] <;> rfl), bX HB.out⟩

/-! ### laws_FnExactWanted: function 4 (by hand) -/
theorem own_fromR {α : Type} {d : Kd α} {e b : Nat} {w1 : World} {v : Value} {xs : List α} (h : d.R e w1 b (fun _ => True) v xs) : ∃ N, N = b ∧ d.R e w1 N (fun k => N ≤ k) v xs := ⟨b, rfl, Kd.R_mono (Kd.R_bound h) (fun _ hk => hk.2.1)⟩
theorem heldF_len (k : Nat) (A : Option Addr) (n c : Nat) (l : List S67) (m r : Int) (w : World) (hn : n = l.length) (hr : Kd.C k67 w A l.length l) (hc : l.length ≤ c) (h : laws_heldFreshS.f k l m = some r) : Calls Try.prog 22 #[.slice A n c, .int .i64 m] w fun e w' => e = .returned (.int .i64 r) ∧ Below w.heap.size w w' := by
  subst hn
  exact laws_heldFreshS.calls k A c l m r w hr hc h
/-- The law, where it answers true. -/
def laws_FnExactWanted.f (k : Nat) (l0 : List S62) : Option Bool :=
  (laws_szChangeS.f k l0 1048576).bind fun z => if z < 0 then some true else (laws_toChangeS.f k l0).bind fun v => (spec_Wanted.f k v).bind fun s => (impl_Wanted.f k v).bind fun g => (laws_eqFreshS.f k g s).bind fun e1 => (laws_eqChangeS.f k v v).bind fun e2 => (laws_markChangeS.f k v 1).bind fun m1 => (laws_markFreshS.f k g 1).bind fun m2 => (laws_heldFreshS.f k m2.2 1).bind fun q => if e1 = true ∧ e2 = true ∧ 0 ≤ m1.1 ∧ 0 ≤ q ∧ q = m2.1 then some true else none
set_option maxHeartbeats 8000000 in
set_option maxRecDepth 100000 in
theorem laws_FnExactWanted.calls (k : Nat) (A0 : Option Addr) (c0 : Nat) (l0 : List S62) (r : Bool) (w : World) (hr0 : Kd.C k62 w A0 l0.length l0) (hc0 : l0.length ≤ c0) (h : laws_FnExactWanted.f k l0 = some r) :
    Calls Try.prog 4 #[.slice A0 l0.length c0] w fun e w' => e = .returned (.bool r) ∧ Below w.heap.size w w' := by
  have HR := Aside0.mk hr0
  have HC := Aside0.mk hc0
  have HB := Aside0.mk (Below.refl w.heap.size w)
  unfold laws_FnExactWanted.f at h
  obtain ⟨z, h0, h⟩ := Option.bind_eq_some_iff.mp h
  have H0 := Aside0.mk h0
  clear hr0 hc0 h0
  by_cases hz : z < 0
  · rw [if_pos hz] at h
    obtain rfl : true = r := by simpa using h
    have d0 : decide (z < 0) = true := decide_eq_true hz
    clear h hz
    go_enter Try.func4, Try.ntmps4
    go_wp2_with (first | (go_at_call 14; (with_reducible refine (laws_szChangeS.calls k A0 c0 l0 1048576 z _ HR.out HC.out H0.out).mono ?_); rintro e w1 ⟨rfl, hb⟩; have HN := Aside0.mk hb; clear hb))
    go_ret
    exact ⟨rfl, HN.out⟩
  · rw [if_neg hz] at h
    obtain ⟨v, h1, h⟩ := Option.bind_eq_some_iff.mp h
    obtain ⟨s, h2, h⟩ := Option.bind_eq_some_iff.mp h
    obtain ⟨g, h3, h⟩ := Option.bind_eq_some_iff.mp h
    obtain ⟨e1, h4, h⟩ := Option.bind_eq_some_iff.mp h
    obtain ⟨e2, h5, h⟩ := Option.bind_eq_some_iff.mp h
    obtain ⟨⟨m1, x2⟩, h6, h⟩ := Option.bind_eq_some_iff.mp h
    obtain ⟨⟨m2, y2⟩, h7, h⟩ := Option.bind_eq_some_iff.mp h
    obtain ⟨q, h8, h⟩ := Option.bind_eq_some_iff.mp h
    by_cases hx : e1 = true ∧ e2 = true ∧ 0 ≤ m1 ∧ 0 ≤ q ∧ q = m2
    rotate_left
    · rw [if_neg hx] at h; cases h
    rw [if_pos hx] at h
    obtain rfl : true = r := by simpa using h
    obtain ⟨rfl, rfl, hm, hq, rfl⟩ := hx
    have H1 := Aside0.mk h1
    have H2 := Aside0.mk h2
    have H3 := Aside0.mk h3
    have H4 := Aside0.mk h4
    have H5 := Aside0.mk h5
    have H6 := Aside0.mk h6
    have H7 := Aside0.mk h7
    have H8 := Aside0.mk (show laws_heldFreshS.f k y2 1 = some q from h8)
    have d0 : decide (z < 0) = false := decide_eq_false hz
    have d1 : decide (m1 < 0) = false := decide_eq_false (by omega)
    have d2 : decide (q < 0) = false := decide_eq_false (by omega)
    clear h hz h1 h2 h3 h4 h5 h6 h7 h8 hm hq
    have T1 : True := trivial
    have T2 : True := trivial
    have T3 : True := trivial
    have T4 : True := trivial
    have T5 : True := trivial
    have T6 : True := trivial
    have T7 : True := trivial
    have T8 : True := trivial
    have T9 : True := trivial
    have T10 : True := trivial
    have T11 : True := trivial
    have T12 : True := trivial
    have T13 : True := trivial
    have T14 : True := trivial
    have T15 : True := trivial
    have T16 : True := trivial
    go_enter Try.func4, Try.ntmps4
    go_wp2_with (first | (go_at_call 14; clear T1; (with_reducible refine (laws_szChangeS.calls k A0 c0 l0 1048576 z _ ?a1 ?a2 H0.out).mono ?_); (case a1 => exact Kd.C_below HR.out (by repeat (first | (with_reducible first | exact HB.out | apply below_alloc | apply pw_below_drewN | apply below_drew1) | exact HB.out))); (case a2 => exact HC.out); rintro e w1 ⟨rfl, hb⟩; have nB_ := Aside0.mk (below_step (by repeat (first | (with_reducible first | exact HB.out | apply below_alloc | apply pw_below_drewN | apply below_drew1) | exact HB.out)) hb); clear HB; have HB := nB_; clear nB_; clear hb) | (go_at_call 16; clear T2; (with_reducible refine (laws_toChangeS.calls k A0 c0 l0 v _ ?a1 ?a2 H1.out).mono ?_); (case a1 => exact Kd.C_below HR.out (by repeat (first | (with_reducible first | exact HB.out | apply below_alloc | apply pw_below_drewN | apply below_drew1) | exact HB.out))); (case a2 => exact HC.out); rintro e w2 ⟨uV, rfl, ho, hb⟩; obtain ⟨AV, cV, rfl⟩ := Kd.S_slice ho; replace ho := Kd.S_lower ho (below_size (by repeat (first | (with_reducible first | exact HB.out | apply below_alloc | apply pw_below_drewN | apply below_drew1) | exact HB.out))); have nB_ := Aside0.mk (below_step (by repeat (first | (with_reducible first | exact HB.out | apply below_alloc | apply pw_below_drewN | apply below_drew1) | exact HB.out)) hb); clear HB; have HB := nB_; clear nB_; clear hb; have HV := Aside0.mk ho; clear ho) | (go_at_call 15; clear T3; (with_reducible refine (spec_Wanted.calls k AV cV v _ _ ?a1 ?a2 H2.out).mono ?_); (case a1 => exact kC26_C (Kd.S_reads' (d := kC26) (by (with_reducible repeat (first | apply Kd.S_alloc | apply Kd.S_drewN | apply Kd.S_drew)); exact HV.out)).2.2); (case a2 => exact (Kd.S_reads' HV.out).2.1); rintro e w3 ⟨uW, rfl, ho, hb⟩; obtain ⟨AW, cW, rfl⟩ := Kd.R_slice ho; replace ho := Kd.R_lower ho (below_size (by repeat (first | (with_reducible first | exact HB.out | apply below_alloc | apply pw_below_drewN | apply below_drew1) | exact HB.out))); clear HV; have nB_ := Aside0.mk (below_step (by repeat (first | (with_reducible first | exact HB.out | apply below_alloc | apply pw_below_drewN | apply below_drew1) | exact HB.out)) hb); clear HB; have HB := nB_; clear nB_; clear hb; have HW := Aside0.mk ho; clear ho) | (go_at_call 16; clear T4; (with_reducible refine (laws_toChangeS.calls k A0 c0 l0 v _ ?a1 ?a2 H1.out).mono ?_); (case a1 => exact Kd.C_below HR.out (by repeat (first | (with_reducible first | exact HB.out | apply below_alloc | apply pw_below_drewN | apply below_drew1) | exact HB.out))); (case a2 => exact HC.out); rintro e w4 ⟨uX, rfl, ho, hb⟩; obtain ⟨AX, cX, rfl⟩ := Kd.S_slice ho; obtain ⟨N, hN, ho⟩ := own_from ho; replace ho := Kd.S_lower ho (show w.heap.size ≤ N by rw [hN]; exact below_size (by repeat (first | (with_reducible first | exact HB.out | apply below_alloc | apply pw_below_drewN | apply below_drew1) | exact HB.out))); have nHW_ := Aside0.mk (Kd.R_mono (ok' := fun k_ => k_ < N) (Kd.R_below (Kd.R_bound (by (with_reducible repeat (first | apply Kd.R_alloc | apply Kd.R_drewN | apply Kd.R_drew)); exact HW.out)) hb) (fun k_ hk_ => by rw [hN]; exact hk_.2.2.1)); have nB_ := Aside0.mk (below_step (by repeat (first | (with_reducible first | exact HB.out | apply below_alloc | apply pw_below_drewN | apply below_drew1) | exact HB.out)) hb); clear HW HB; have HW := nHW_; have HB := nB_; clear nHW_ nB_; clear hb; have HX := Aside0.mk ho; clear ho hN) | (go_at_call 17; clear T5; (with_reducible refine (impl_Wanted.calls k AX cX v _ _ ?a1 ?a2 H3.out).mono ?_); (case a1 => exact kC26_C (Kd.S_reads' (d := kC26) (by (with_reducible repeat (first | apply Kd.S_alloc | apply Kd.S_drewN | apply Kd.S_drew)); exact HX.out)).2.2); (case a2 => exact (Kd.S_reads' HX.out).2.1); rintro e w5 ⟨uG, rfl, ho, hb⟩; obtain ⟨AG, cG, rfl⟩ := Kd.R_slice ho; obtain ⟨M, hM, ho⟩ := own_fromR ho; replace ho := Kd.R_lower ho (show w.heap.size ≤ M by rw [hM]; exact below_size (by repeat (first | (with_reducible first | exact HB.out | apply below_alloc | apply pw_below_drewN | apply below_drew1) | exact HB.out))); have nHW_ := Aside0.mk (Kd.R_mono (ok' := fun k_ => k_ < N ∧ k_ < M) (Kd.R_below (Kd.R_bound (by (with_reducible repeat (first | apply Kd.R_alloc | apply Kd.R_drewN | apply Kd.R_drew)); exact HW.out)) hb) (fun k_ hk_ => ⟨hk_.1, by rw [hM]; exact hk_.2.2.1⟩)); have nHX_ := Aside0.mk (Kd.S_mono (ok' := fun k_ => N ≤ k_ ∧ k_ < M) (Kd.S_below (Kd.S_bound (by (with_reducible repeat (first | apply Kd.S_alloc | apply Kd.S_drewN | apply Kd.S_drew)); exact HX.out)) hb) (fun k_ hk_ => ⟨hk_.1, by rw [hM]; exact hk_.2.2.1⟩)); have nB_ := Aside0.mk (below_step (by repeat (first | (with_reducible first | exact HB.out | apply below_alloc | apply pw_below_drewN | apply below_drew1) | exact HB.out)) hb); clear HW HX HB; have HW := nHW_; have HX := nHX_; have HB := nB_; clear nHW_ nHX_ nB_; clear hb; have HG := Aside0.mk ho; clear ho hM) | (go_at_call 18; clear T6; (with_reducible refine (laws_eqFreshS.calls k AG cG g AW cW s true _ ?a1 ?a2 ?a3 ?a4 H4.out).mono ?_); (case a1 => exact (Kd.R_reads' (by (with_reducible repeat (first | apply Kd.R_alloc | apply Kd.R_drewN | apply Kd.R_drew)); exact HG.out)).2.2); (case a2 => exact (Kd.R_reads' HG.out).2.1); (case a3 => exact (Kd.R_reads' (by (with_reducible repeat (first | apply Kd.R_alloc | apply Kd.R_drewN | apply Kd.R_drew)); exact HW.out)).2.2); (case a4 => exact (Kd.R_reads' HW.out).2.1); rintro e w6 ⟨rfl, hb⟩; have nHW_ := Aside0.mk (Kd.R_below (by (with_reducible repeat (first | apply Kd.R_alloc | apply Kd.R_drewN | apply Kd.R_drew)); exact HW.out) hb); have nHX_ := Aside0.mk (Kd.S_below (by (with_reducible repeat (first | apply Kd.S_alloc | apply Kd.S_drewN | apply Kd.S_drew)); exact HX.out) hb); have nHG_ := Aside0.mk (Kd.R_below (by (with_reducible repeat (first | apply Kd.R_alloc | apply Kd.R_drewN | apply Kd.R_drew)); exact HG.out) hb); have nB_ := Aside0.mk (below_step (by repeat (first | (with_reducible first | exact HB.out | apply below_alloc | apply pw_below_drewN | apply below_drew1) | exact HB.out)) hb); clear HW HX HG HB; have HW := nHW_; have HX := nHX_; have HG := nHG_; have HB := nB_; clear nHW_ nHX_ nHG_ nB_; clear hb) | (go_at_call 16; clear T7; (with_reducible refine (laws_toChangeS.calls k A0 c0 l0 v _ ?a1 ?a2 H1.out).mono ?_); (case a1 => exact Kd.C_below HR.out (by repeat (first | (with_reducible first | exact HB.out | apply below_alloc | apply pw_below_drewN | apply below_drew1) | exact HB.out))); (case a2 => exact HC.out); rintro e w7 ⟨uY, rfl, ho, hb⟩; obtain ⟨AY, cY, rfl⟩ := Kd.S_slice ho; replace ho := Kd.S_lower ho (below_size (by repeat (first | (with_reducible first | exact HB.out | apply below_alloc | apply pw_below_drewN | apply below_drew1) | exact HB.out))); have nHW_ := Aside0.mk (Kd.R_below (by (with_reducible repeat (first | apply Kd.R_alloc | apply Kd.R_drewN | apply Kd.R_drew)); exact HW.out) hb); have nHX_ := Aside0.mk (Kd.S_below (by (with_reducible repeat (first | apply Kd.S_alloc | apply Kd.S_drewN | apply Kd.S_drew)); exact HX.out) hb); have nHG_ := Aside0.mk (Kd.R_below (by (with_reducible repeat (first | apply Kd.R_alloc | apply Kd.R_drewN | apply Kd.R_drew)); exact HG.out) hb); have nB_ := Aside0.mk (below_step (by repeat (first | (with_reducible first | exact HB.out | apply below_alloc | apply pw_below_drewN | apply below_drew1) | exact HB.out)) hb); clear HW HX HG HB; have HW := nHW_; have HX := nHX_; have HG := nHG_; have HB := nB_; clear nHW_ nHX_ nHG_ nB_; clear hb; have HY := Aside0.mk ho; clear ho) | (go_at_call 19; clear T8; (with_reducible refine (laws_eqChangeS.calls k AX cX v AY cY v true _ ?a1 ?a2 ?a3 ?a4 H5.out).mono ?_); (case a1 => exact kC26_C (Kd.S_reads' (d := kC26) (by (with_reducible repeat (first | apply Kd.S_alloc | apply Kd.S_drewN | apply Kd.S_drew)); exact HX.out)).2.2); (case a2 => exact (Kd.S_reads' HX.out).2.1); (case a3 => exact kC26_C (Kd.S_reads' (d := kC26) (by (with_reducible repeat (first | apply Kd.S_alloc | apply Kd.S_drewN | apply Kd.S_drew)); exact HY.out)).2.2); (case a4 => exact (Kd.S_reads' HY.out).2.1); rintro e w8 ⟨rfl, hb⟩; clear HY; have nHW_ := Aside0.mk (Kd.R_below (by (with_reducible repeat (first | apply Kd.R_alloc | apply Kd.R_drewN | apply Kd.R_drew)); exact HW.out) hb); have nHX_ := Aside0.mk (Kd.S_below (by (with_reducible repeat (first | apply Kd.S_alloc | apply Kd.S_drewN | apply Kd.S_drew)); exact HX.out) hb); have nHG_ := Aside0.mk (Kd.R_below (by (with_reducible repeat (first | apply Kd.R_alloc | apply Kd.R_drewN | apply Kd.R_drew)); exact HG.out) hb); have nB_ := Aside0.mk (below_step (by repeat (first | (with_reducible first | exact HB.out | apply below_alloc | apply pw_below_drewN | apply below_drew1) | exact HB.out)) hb); clear HW HX HG HB; have HW := nHW_; have HX := nHX_; have HG := nHG_; have HB := nB_; clear nHW_ nHX_ nHG_ nB_; clear hb) | (go_at_call 20; clear T9; (with_reducible refine (laws_markChangeS.calls k (fun k_ => N ≤ k_ ∧ k_ < M) (.slice AX v.length cX) v 1 m1 x2 w _ ?a1 ?a2 H6.out).mono ?_); (case a1 => exact (by repeat (first | (with_reducible first | exact HB.out | apply below_alloc | apply pw_below_drewN | apply below_drew1) | exact HB.out))); (case a2 => exact (by (with_reducible repeat (first | apply Kd.S_alloc | apply Kd.S_drewN | apply Kd.S_drew)); exact HX.out)); rintro e w9 ⟨rfl, ho, hb, hk⟩; have nHW_ := Aside0.mk (Kd.R_step HW.out (fun k_ ho_ hlt_ => hk.2 k_ hlt_ (fun h_ => absurd h_.1 (Nat.not_le.2 ho_.1)))); have nHG_ := Aside0.mk (Kd.R_step HG.out (fun k_ ho_ hlt_ => hk.2 k_ hlt_ (fun h_ => absurd h_.2 (Nat.not_lt.2 ho_)))); have nB_ := Aside0.mk hb; clear HW HX HG HB; have HW := nHW_; have HG := nHG_; have HB := nB_; clear nB_ hb hk nHW_ nHG_; clear ho) | (go_at_call 18; clear T10; (with_reducible refine (laws_eqFreshS.calls k AG cG g AW cW s true _ ?a1 ?a2 ?a3 ?a4 H4.out).mono ?_); (case a1 => exact (Kd.R_reads' (by (with_reducible repeat (first | apply Kd.R_alloc | apply Kd.R_drewN | apply Kd.R_drew)); exact HG.out)).2.2); (case a2 => exact (Kd.R_reads' HG.out).2.1); (case a3 => exact (Kd.R_reads' (by (with_reducible repeat (first | apply Kd.R_alloc | apply Kd.R_drewN | apply Kd.R_drew)); exact HW.out)).2.2); (case a4 => exact (Kd.R_reads' HW.out).2.1); rintro e w10 ⟨rfl, hb⟩; have nHW_ := Aside0.mk (Kd.R_below (by (with_reducible repeat (first | apply Kd.R_alloc | apply Kd.R_drewN | apply Kd.R_drew)); exact HW.out) hb); have nHG_ := Aside0.mk (Kd.R_below (by (with_reducible repeat (first | apply Kd.R_alloc | apply Kd.R_drewN | apply Kd.R_drew)); exact HG.out) hb); have nB_ := Aside0.mk (below_step (by repeat (first | (with_reducible first | exact HB.out | apply below_alloc | apply pw_below_drewN | apply below_drew1) | exact HB.out)) hb); clear HW HG HB; have HW := nHW_; have HG := nHG_; have HB := nB_; clear nHW_ nHG_ nB_; clear hb) | (go_at_call 21; clear T11; (with_reducible refine (laws_markFreshS.calls k (fun k_ => M ≤ k_) (.slice AG g.length cG) g 1 q y2 w _ ?a1 ?a2 H7.out).mono ?_); (case a1 => exact (by repeat (first | (with_reducible first | exact HB.out | apply below_alloc | apply pw_below_drewN | apply below_drew1) | exact HB.out))); (case a2 => exact (by (with_reducible repeat (first | apply Kd.R_alloc | apply Kd.R_drewN | apply Kd.R_drew)); exact HG.out)); rintro e w11 ⟨rfl, ho, hb, hk⟩; have nHW_ := Aside0.mk (Kd.R_step HW.out (fun k_ ho_ hlt_ => hk.2 k_ hlt_ (fun h_ => absurd h_ (Nat.not_le.2 ho_.2)))); have nB_ := Aside0.mk hb; clear HW HG HB; have HW := nHW_; have HB := nB_; clear nB_ hb hk nHW_; have ey_ := Aside0.mk (show g.length = y2.length by have h_ := (Kd.R_reads' ho).1; exact h_); have HG := Aside0.mk ho; clear ho) | (go_at_call 22; clear T12; (with_reducible refine (heldF_len k AG g.length cG y2 1 q _ ey_.out ?a1 ?a2 H8.out).mono ?_); (case a1 => exact (Kd.R_reads' (by (with_reducible repeat (first | apply Kd.R_alloc | apply Kd.R_drewN | apply Kd.R_drew)); exact HG.out)).2.2); (case a2 => exact (by have h_ := (Kd.R_reads' HG.out).2.1; have h2_ := ey_.out; omega)); rintro e w12 ⟨rfl, hb⟩; have nHW_ := Aside0.mk (Kd.R_below (by (with_reducible repeat (first | apply Kd.R_alloc | apply Kd.R_drewN | apply Kd.R_drew)); exact HW.out) hb); have nHG_ := Aside0.mk (Kd.R_below (by (with_reducible repeat (first | apply Kd.R_alloc | apply Kd.R_drewN | apply Kd.R_drew)); exact HG.out) hb); have nB_ := Aside0.mk (below_step (by repeat (first | (with_reducible first | exact HB.out | apply below_alloc | apply pw_below_drewN | apply below_drew1) | exact HB.out)) hb); clear HW HG HB; have HW := nHW_; have HG := nHG_; have HB := nB_; clear nHW_ nHG_ nB_; clear hb) | (go_at_call 16; clear T13; (with_reducible refine (laws_toChangeS.calls k A0 c0 l0 v _ ?a1 ?a2 H1.out).mono ?_); (case a1 => exact Kd.C_below HR.out (by repeat (first | (with_reducible first | exact HB.out | apply below_alloc | apply pw_below_drewN | apply below_drew1) | exact HB.out))); (case a2 => exact HC.out); rintro e w13 ⟨uZ, rfl, ho, hb⟩; obtain ⟨AZ, cZ, rfl⟩ := Kd.S_slice ho; replace ho := Kd.S_lower ho (below_size (by repeat (first | (with_reducible first | exact HB.out | apply below_alloc | apply pw_below_drewN | apply below_drew1) | exact HB.out))); have nHW_ := Aside0.mk (Kd.R_below (by (with_reducible repeat (first | apply Kd.R_alloc | apply Kd.R_drewN | apply Kd.R_drew)); exact HW.out) hb); have nHG_ := Aside0.mk (Kd.R_below (by (with_reducible repeat (first | apply Kd.R_alloc | apply Kd.R_drewN | apply Kd.R_drew)); exact HG.out) hb); have nB_ := Aside0.mk (below_step (by repeat (first | (with_reducible first | exact HB.out | apply below_alloc | apply pw_below_drewN | apply below_drew1) | exact HB.out)) hb); clear HW HG HB; have HW := nHW_; have HG := nHG_; have HB := nB_; clear nHW_ nHG_ nB_; clear hb; have HZ := Aside0.mk ho; clear ho) | (go_at_call 17; clear T14; (with_reducible refine (impl_Wanted.calls k AZ cZ v _ _ ?a1 ?a2 H3.out).mono ?_); (case a1 => exact kC26_C (Kd.S_reads' (d := kC26) (by (with_reducible repeat (first | apply Kd.S_alloc | apply Kd.S_drewN | apply Kd.S_drew)); exact HZ.out)).2.2); (case a2 => exact (Kd.S_reads' HZ.out).2.1); rintro e w14 ⟨uH, rfl, ho, hb⟩; obtain ⟨AH, cH, rfl⟩ := Kd.R_slice ho; replace ho := Kd.R_lower ho (below_size (by repeat (first | (with_reducible first | exact HB.out | apply below_alloc | apply pw_below_drewN | apply below_drew1) | exact HB.out))); clear HZ; have nHW_ := Aside0.mk (Kd.R_below (by (with_reducible repeat (first | apply Kd.R_alloc | apply Kd.R_drewN | apply Kd.R_drew)); exact HW.out) hb); have nHG_ := Aside0.mk (Kd.R_below (by (with_reducible repeat (first | apply Kd.R_alloc | apply Kd.R_drewN | apply Kd.R_drew)); exact HG.out) hb); have nB_ := Aside0.mk (below_step (by repeat (first | (with_reducible first | exact HB.out | apply below_alloc | apply pw_below_drewN | apply below_drew1) | exact HB.out)) hb); clear HW HG HB; have HW := nHW_; have HG := nHG_; have HB := nB_; clear nHW_ nHG_ nB_; clear hb; have HH := Aside0.mk ho; clear ho) | (go_at_call 18; clear T15; (with_reducible refine (laws_eqFreshS.calls k AH cH g AW cW s true _ ?a1 ?a2 ?a3 ?a4 H4.out).mono ?_); (case a1 => exact (Kd.R_reads' (by (with_reducible repeat (first | apply Kd.R_alloc | apply Kd.R_drewN | apply Kd.R_drew)); exact HH.out)).2.2); (case a2 => exact (Kd.R_reads' HH.out).2.1); (case a3 => exact (Kd.R_reads' (by (with_reducible repeat (first | apply Kd.R_alloc | apply Kd.R_drewN | apply Kd.R_drew)); exact HW.out)).2.2); (case a4 => exact (Kd.R_reads' HW.out).2.1); rintro e w15 ⟨rfl, hb⟩; have nHW_ := Aside0.mk (Kd.R_below (by (with_reducible repeat (first | apply Kd.R_alloc | apply Kd.R_drewN | apply Kd.R_drew)); exact HW.out) hb); have nHG_ := Aside0.mk (Kd.R_below (by (with_reducible repeat (first | apply Kd.R_alloc | apply Kd.R_drewN | apply Kd.R_drew)); exact HG.out) hb); have nHH_ := Aside0.mk (Kd.R_below (by (with_reducible repeat (first | apply Kd.R_alloc | apply Kd.R_drewN | apply Kd.R_drew)); exact HH.out) hb); have nB_ := Aside0.mk (below_step (by repeat (first | (with_reducible first | exact HB.out | apply below_alloc | apply pw_below_drewN | apply below_drew1) | exact HB.out)) hb); clear HW HG HH HB; have HW := nHW_; have HG := nHG_; have HH := nHH_; have HB := nB_; clear nHW_ nHG_ nHH_ nB_; clear hb) | (go_at_call 22; clear T16; (with_reducible refine (heldF_len k AG g.length cG y2 1 q _ ey_.out ?a1 ?a2 H8.out).mono ?_); (case a1 => exact (Kd.R_reads' (by (with_reducible repeat (first | apply Kd.R_alloc | apply Kd.R_drewN | apply Kd.R_drew)); exact HG.out)).2.2); (case a2 => exact (by have h_ := (Kd.R_reads' HG.out).2.1; have h2_ := ey_.out; omega)); rintro e w16 ⟨rfl, hb⟩; have nHW_ := Aside0.mk (Kd.R_below (by (with_reducible repeat (first | apply Kd.R_alloc | apply Kd.R_drewN | apply Kd.R_drew)); exact HW.out) hb); have nHG_ := Aside0.mk (Kd.R_below (by (with_reducible repeat (first | apply Kd.R_alloc | apply Kd.R_drewN | apply Kd.R_drew)); exact HG.out) hb); have nHH_ := Aside0.mk (Kd.R_below (by (with_reducible repeat (first | apply Kd.R_alloc | apply Kd.R_drewN | apply Kd.R_drew)); exact HH.out) hb); have nB_ := Aside0.mk (below_step (by repeat (first | (with_reducible first | exact HB.out | apply below_alloc | apply pw_below_drewN | apply below_drew1) | exact HB.out)) hb); clear HW HG HH HB; have HW := nHW_; have HG := nHG_; have HH := nHH_; have HB := nB_; clear nHW_ nHG_ nHH_ nB_; clear hb))
    go_ret
    exact ⟨rfl, HB.out⟩


end Go.Proofs.Ytmaliehmbodioaa.Q
