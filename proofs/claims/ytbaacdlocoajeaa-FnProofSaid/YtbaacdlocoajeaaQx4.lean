/- Printed by a program of this session (wip/mp.py over the kit's print.py): functions of the translation as plain Lean functions, and that the machine's calls do what these say. -/
import Derived.Test.YtbaacdlocoajeaaQx0
import Derived.Test.YtbaacdlocoajeaaQx1
import Derived.Test.YtbaacdlocoajeaaQx2
import Derived.Test.YtbaacdlocoajeaaQx3
namespace Go.Proofs.Ytbaacdlocoajeaa.Q
open Go.RowKit Go.Proofs.Ytbaacdlocoajeaa.HB Go.Proofs.YtbaacdlocoajeaaW.PrintWords Go.Proofs.YtbaacdlocoajeaaW.PrintLast Go.Proofs.YtbaacdlocoajeaaW.PrintMore
attribute [local go_sem] max2_int min2_int max_two min_two max_three min_three max_four min_four   -- for this text's walks alone
set_option linter.unusedVariables false
set_option linter.unusedSimpArgs false

/-! ### spec_l11Add: function 49 -/
abbrev spec_l11Add.b0 : Array Bool := #[false, true, false, false, false, false, false, false]
abbrev spec_l11Add.b1 : Array Bool := #[false, true, false, true, false, false, false, false]
abbrev spec_l11Add.b2 : Array Bool := #[true, true, false, true, false, false, false, false]
abbrev spec_l11Add.b3 : Array Bool := #[false, true, false, true, true, false, false, false]
abbrev spec_l11Add.b4 : Array Bool := #[true, true, false, true, true, false, false, false]
def spec_l11Add.f (k : Nat) (l0 : List (S45)) (a1_0 : Int) (a1_1 : Int) (a1_2 : Int) (a1_3 : ByteArray) (a1_4 : Int) : Option ((List (S45)) × Bool × Int) := (spec_l11Has.f k l0 a1_0 a1_1 a1_2 a1_3 a1_4).bind fun t103 => (if t103 = true then ((some (([] : List (S45)) : List (S45))).bind fun y104 => (if y104.length + l0.length < 2932031007402 then (some ((y104 ++ l0), false, 0)) else (none))) else (if (l0.length : Int) ≥ 400 then (some (([] : List (S45)), false, 9)) else ((some (([] : List (S45)) : List (S45))).bind fun y110 => (if y110.length + l0.length < 2932031007402 then ((some (y110 ++ l0 : List (S45))).bind fun y113 => ((some (([(⟨a1_0, a1_1, a1_2, a1_3, a1_4⟩ : S45)] : List (S45)) : List (S45))).bind fun y116 => (if y113.length + y116.length < 2932031007402 then (some ((y113 ++ y116), true, 0)) else (none)))) else (none)))))
theorem spec_l11Add.mono : ∀ a0 a1 a2 a3 a4 a5 k, LeO (spec_l11Add.f k a0 a1 a2 a3 a4 a5) (spec_l11Add.f (k + 1) a0 a1 a2 a3 a4 a5) := by
  intro a0 a1 a2 a3 a4 a5 k
  unfold spec_l11Add.f
  repeat' first
      | (with_reducible exact spec_l11Has.mono _ _ _ _ _ _ _)
      | (with_reducible exact LeO.refl _)
      | (with_reducible exact LeO.none _)
      | (with_reducible refine LeO.ite ?_ ?_)
      | (with_reducible refine LeO.bind ?_ (fun _ => ?_))
      | exact spec_l11Has.mono _ _ _ _ _ _ _
      | exact LeO.none _
      | refine LeO.ite ?_ ?_
      | refine LeO.bind ?_ (fun _ => ?_)
def spec_l11Add.T5 : Bool × List (List Nat × List Nat) := (true, [([], []), ([], []), ([0, 1], [0, 1]), ([], []), ([3], [3]), ([2, 4, 2], [2, 4]), ([5], [5]), ([6, 5, 0, 1, 2, 3, 4, 5, 6], [6])])
def spec_l11Add.B5 : List Nat := [0, 0, 3, 0, 8, 31, 63, 127]
theorem spec_l11Add.tab5 : rtab .any (opsOf Try.f49 5) = spec_l11Add.T5 := by kernel_rfl
theorem spec_l11Add.bits5 : waitsOk spec_l11Add.T5.2 spec_l11Add.B5 = true := by kernel_rfl
set_option maxHeartbeats 60000000 in
set_option maxRecDepth 100000 in
theorem spec_l11Add.calls (k : Nat) (A0 : Option Addr) (c0 : Nat) (l0 : List (S45)) (a1_0 : Int) (a1_1 : Int) (a1_2 : Int) (a1_3 : ByteArray) (a1_4 : Int) (r1 : List (S45)) (r2 : Bool) (r3 : Int) (w : World) (hr0 : Kd.C k45 w A0 l0.length l0) (hc0 : l0.length ≤ c0) (h : spec_l11Add.f k l0 a1_0 a1_1 a1_2 a1_3 a1_4 = some (r1, r2, r3)) :
    Calls Try.prog 49 #[.slice A0 l0.length c0, .agg #[.int .i64 a1_0, .int .i64 a1_1, .int .i64 a1_2, .string a1_3, .int .i64 a1_4]] w fun e w' => ∃ v0_ : Value, e = .returned (.agg #[v0_, .bool r2, .int .i64 r3]) ∧ Kd.R k45 45 w' w.heap.size (fun _ => True) v0_ r1 ∧ Below w.heap.size w w' := by
 have hu45 := Try.underlying45
 have hu62 := Try.underlying62
 have HR0 := AM hr0
 have HC0 := AM hc0
 clear hr0 hc0
 have HB := AM (Below.refl w.heap.size w)
 have H : ((spec_l11Has.f k l0 a1_0 a1_1 a1_2 a1_3 a1_4).bind fun t103 => (if t103 = true then ((some (([] : List (S45)) : List (S45))).bind fun y104 => (if y104.length + l0.length < 2932031007402 then (some ((y104 ++ l0), false, 0)) else (none))) else (if (l0.length : Int) ≥ 400 then (some (([] : List (S45)), false, 9)) else ((some (([] : List (S45)) : List (S45))).bind fun y110 => (if y110.length + l0.length < 2932031007402 then ((some (y110 ++ l0 : List (S45))).bind fun y113 => ((some (([(⟨a1_0, a1_1, a1_2, a1_3, a1_4⟩ : S45)] : List (S45)) : List (S45))).bind fun y116 => (if y113.length + y116.length < 2932031007402 then (some ((y113 ++ y116), true, 0)) else (none)))) else (none)))))) = some (r1, r2, r3) := h
 clear h
 replace H := Option.bind_eq_some_iff.mp H
 obtain ⟨t103, A30, H⟩ := H
 replace H : (if t103 = true then ((some (([] : List (S45)) : List (S45))).bind fun y104 => (if y104.length + l0.length < 2932031007402 then (some ((y104 ++ l0), false, 0)) else (none))) else (if (l0.length : Int) ≥ 400 then (some (([] : List (S45)), false, 9)) else ((some (([] : List (S45)) : List (S45))).bind fun y110 => (if y110.length + l0.length < 2932031007402 then ((some (y110 ++ l0 : List (S45))).bind fun y113 => ((some (([(⟨a1_0, a1_1, a1_2, a1_3, a1_4⟩ : S45)] : List (S45)) : List (S45))).bind fun y116 => (if y113.length + y116.length < 2932031007402 then (some ((y113 ++ y116), true, 0)) else (none)))) else (none))))) = some (r1, r2, r3) := H
 have A3 := AM A30
 clear A30
 by_cases c4 : t103 = true
 ·
  subst c4
  have H1 : ((some (([] : List (S45)) : List (S45))).bind fun y104 => (if y104.length + l0.length < 2932031007402 then (some ((y104 ++ l0), false, 0)) else (none))) = some (r1, r2, r3) := by rw [if_pos rfl] at H; exact H
  clear H
  have H := H1
  clear H1
  obtain ⟨y104, hy104⟩ : ∃ y_ : List (S45), y_ = (([] : List (S45))) := ⟨_, rfl⟩
  replace H : (if y104.length + l0.length < 2932031007402 then (some ((y104 ++ l0), false, 0)) else (none)) = some (r1, r2, r3) := by first | (rw [hy104]; with_reducible exact H) | (have H2_ := (Option.bind_some _ _).symm.trans H; rw [hy104]; with_reducible exact H2_) | (have H2_ := (Option.bind_some _ _).symm.trans H; with_reducible exact H2_) | with_reducible exact H | (rw [hy104]; exact H) | exact H
  have Ny104 := AM hy104
  clear hy104
  by_cases c5 : y104.length + l0.length < 2932031007402
  ·
   rw [if_pos c5] at H
   have LMc5 := AM c5
   clear c5
   obtain ⟨y107, hy107⟩ : ∃ y_ : List (S45), y_ = (y104 ++ l0) := ⟨_, rfl⟩
   replace H : (some (y107, false, 0)) = some (r1, r2, r3) := by first | (rw [hy107]; with_reducible exact H) | (have H2_ := (Option.bind_some _ _).symm.trans H; rw [hy107]; with_reducible exact H2_) | (have H2_ := (Option.bind_some _ _).symm.trans H; with_reducible exact H2_) | with_reducible exact H | (rw [hy107]; exact H) | exact H
   have Ny107 := AM hy107
   clear hy107
   simp only [Option.some.injEq, Prod.mk.injEq] at H
   obtain ⟨rfl, rfl, rfl⟩ := H
   go_enter Try.func49, Try.ntmps49
   go_wp2_with (first | ((with_reducible refine gate_dst (N := 3) rfl ?_); refine box_event (by rfl) (N := 3) (by rfl) (cs := #[.int .i64 a1_0, .int .i64 a1_1, .int .i64 a1_2, .string a1_3, .int .i64 a1_4]) (t := 45) (by first | (go_simp; done) | (go_simp; rfl)) ?_; intro gb101 hg w6 hbox hb; have _ := AM (below_step (bX HB.out) hb); have _ := AM (hbox); have n2_ := AM ((by rw [hg]; exact (bZ (bX HB.out)) : w.heap.size ≤ gb101)); clear HB; rename_i HB BK101; have GW101 := n2_; have GE101 := n2_; clear n2_; clear hb hbox hg) | ((with_reducible refine gate_dst (N := 4) rfl ?_); refine box_event (by rfl) (N := 4) (by rfl) (cs := #[.slice none 0 0, .bool false, .int .i64 0]) (t := 62) (by first | (go_simp; done) | (go_simp; rfl)) ?_; intro gb102 hg w7 hbox hb; have _ := AM (nB BK101.out hb); have _ := AM (below_step (bX HB.out) hb); have _ := AM (hbox); have n3_ := AM ((by rw [hg]; exact (bZ (bX HB.out)) : w.heap.size ≤ gb102)); have _ := AM (lX hg BK101.out); have _ := AM (lX hg BK101.out).symm; clear BK101 HB; rename_i BK101 HB BK102 NB101_102 NB102_101; have GW102 := n3_; have GE102 := n3_; clear n3_; clear hb hbox hg; have hnb8 := NB101_102.out; have hnc8 := NB102_101.out; have hcz9 := q5 BK101.out; have hfz9 := fZ BK101.out) | ((with_reducible refine gate_callee (f := 43) rfl ?_); refine goesL_ (some 7) rfl rfl Try.func43 (by kernel_rfl) rfl #[.slice A0 l0.length c0, .agg #[.int .i64 a1_0, .int .i64 a1_1, .int .i64 a1_2, .string a1_3, .int .i64 a1_4]] rfl (by (try simp only [mA, mB, mC]); first | done | rfl | (simp only [mD, mE]; rfl)) ?_; (with_reducible refine (spec_l11Has.calls k _ _ l0 a1_0 a1_1 a1_2 a1_3 a1_4 true _ ?side1 ?side2 A3.out).mono ?_); (case side1 => repeat (first | exact (cB HR0.out HB.out) | (with_reducible first | apply cA | apply cN | apply cD))); (case side2 => exact HC0.out); rintro e w10 ⟨rfl, hb⟩; refine ⟨_, rfl, ?_⟩; have _ := AM (nB BK101.out hb); have _ := AM (nB BK102.out hb); have _ := AM (below_step (bX HB.out) hb); clear BK101 BK102 HB; rename_i BK101 BK102 HB; (try clear hb); (try clear hk)) | ((with_reducible refine gate_dst (N := 8) rfl ?_); refine Kd.R_lit k45 _ 45 ?hg (N := 8) ?hd (xs := ([] : List (S45))) (inner := []) (ok := fun _ => True) (okp := fun _ => True) ?hr ?hp (fun _ hk => hk) trivial (Below.refl _ _) (Nat.le_refl _) (by simp) ?_; (case hd => rfl); (case hg => rfl); (case hr => first | (go_simp; done) | (go_simp; rfl)); (case hp => exact (Reps.none _ _)); intro v105 w11 ho12 hb hg_ hnew_; clear hg_ hnew_; (first | rw [← Ny104.out] at ho12 | (simp only [Int.reduceToNat] at ho12; rw [← Ny104.out] at ho12)); have _ := AM (Kd.R_lower (Kd.R_newB ho12 (g := gb101) (o := .cells #[.int .i64 a1_0, .int .i64 a1_1, .int .i64 a1_2, .string a1_3, .int .i64 a1_4] 45 (0, 0)) (kX BK101.out)) (bZ (bX HB.out))); have _ := AM (nB BK101.out hb); have _ := AM (nB BK102.out hb); have _ := AM (below_step (bX HB.out) hb); clear BK101 BK102 HB; rename_i HO106 BK101 BK102 HB; clear hb ho12) | ((with_reducible refine gate_builtin (b := .append) (xs := #[.tmp 8, .tmp 9]) rfl ?_); at_builtin; refine Kd.R_append_rows k45 (w0 := w) w.heap.size rfl (.tmp 8) (.tmp 9) 23 45 (.agg #[(.int .i64 0), (.int .i64 0), (.int .i64 0), (.string ⟨#[]⟩), (.int .i64 0)]) 48 rfl Try.underlying23 info45 rfl (by decide) (by omega) v105 y104 l0 _ _ _ (fun k_ => k_ ≠ gb101) (fun _ => False) rfl rfl ?aO ?aR (fun _ _ h => h) (fun _ h => h.elim) ?aF ?aB ?aS ?aL ?_; (case aR => repeat (first | exact (cB HR0.out HB.out) | (with_reducible first | apply cA | apply cN | apply cD))); (case aB => exact (bX HB.out)); (case aF => exact (fun k_ hk => Kd.freshB (g := gb101) (o := .cells #[.int .i64 a1_0, .int .i64 a1_1, .int .i64 a1_2, .string a1_3, .int .i64 a1_4] 45 (0, 0)) (kX BK101.out) k_ hk)); (case aO => exact (by (with_reducible repeat (first | apply rA | apply rN | apply rD)); exact Kd.R_mono HO106.out (fun _ hk => hk.2))); (case aS => exact (bZ (bX HB.out))); (case aL => have := LMc5.out; omega); intro v108 w13 ho hb hg hat; rw [← Ny107.out] at ho; have _ := AM (blk_grown (g := gb101) (o := .cells #[.int .i64 a1_0, .int .i64 a1_1, .int .i64 a1_2, .string a1_3, .int .i64 a1_4] 45 (0, 0)) (kX BK101.out) hg (Kd.R_away HO106.out (fun _ hk => hk.2))); have _ := AM (blk_grown (g := gb102) (o := .cells #[.slice none 0 0, .bool false, .int .i64 0] 62 (0, 0)) (kX BK102.out) hg (Kd.R_ne HO106.out BK102.out (by decide))); have _ := AM (hb); have _ := AM (ho); clear BK101 BK102 HB HO106; rename_i BK101 BK102 HB HO109; clear ho hb hg hat; obtain ⟨Ao14, co14, eo14⟩ := Kd.R_slice HO109.out; subst eo14; have hcz15 := q3 BK102.out; have hfz15 := fZ BK102.out))
   refine bodyPost_ret (results_cell_row rfl _ _ gb102 62 #[.slice Ao14 y107.length co14, .bool false, .int .i64 0] (0, 0) _ rfl (by refine kP (cs := #[.slice Ao14 y107.length co14, .bool false, .int .i64 0]) 2 ?_; refine kP (cs := #[.slice Ao14 y107.length co14, .bool false, .int .i64 0]) 1 ?_; refine kP (cs := #[.slice none 0 0, .bool false, .int .i64 0]) 0 ?_; (with_reducible repeat (first | apply kN | apply kD | apply kA)); exact BK102.out) Try.underlying62 rfl (by kernel_rfl)) rfl ?_
   exact ⟨_, by first | rfl | (simp [*, errW_none, errW_some] <;> rfl), by (with_reducible repeat (first | apply rA | apply rN | apply rD)); exact Kd.R_mono (Kd.R_far (p := ⟨gb102, 2, none⟩) (Kd.R_far (p := ⟨gb102, 1, none⟩) (Kd.R_far (p := ⟨gb102, 0, none⟩) (Kd.R_types HO109.out BK102.out (by decide)) (fun _ hk => hk.2) (.slice Ao14 y107.length co14)) (fun _ hk => hk.2) (.bool false)) (fun _ hk => hk.2) (.int .i64 0)) (fun _ hk => trivial), bX HB.out⟩
  rw [if_neg c5] at H
  exact absurd H (by simp)
 replace c4 := Bool.eq_false_iff.mpr c4
 subst c4
 have H1 : (if (l0.length : Int) ≥ 400 then (some (([] : List (S45)), false, 9)) else ((some (([] : List (S45)) : List (S45))).bind fun y110 => (if y110.length + l0.length < 2932031007402 then ((some (y110 ++ l0 : List (S45))).bind fun y113 => ((some (([(⟨a1_0, a1_1, a1_2, a1_3, a1_4⟩ : S45)] : List (S45)) : List (S45))).bind fun y116 => (if y113.length + y116.length < 2932031007402 then (some ((y113 ++ y116), true, 0)) else (none)))) else (none)))) = some (r1, r2, r3) := by rw [if_neg (show ¬ (false = true) by decide)] at H; exact H
 clear H
 have H := H1
 clear H1
 by_cases c16 : (l0.length : Int) ≥ 400
 ·
  rw [if_pos c16] at H
  have c16b0 : decide (400 ≤ (l0.length : Int)) = true := decide_eq_true c16
  have c16b1 : decide (400 ≤ l0.length) = true := decide_eq_true (by omega)
  clear c16
  simp only [Option.some.injEq, Prod.mk.injEq] at H
  obtain ⟨rfl, rfl, rfl⟩ := H
  go_enter Try.func49, Try.ntmps49
  go_wp2_with (first | ((with_reducible refine gate_dst (N := 3) rfl ?_); refine box_event (by rfl) (N := 3) (by rfl) (cs := #[.int .i64 a1_0, .int .i64 a1_1, .int .i64 a1_2, .string a1_3, .int .i64 a1_4]) (t := 45) (by first | (go_simp; done) | (go_simp; rfl)) ?_; intro gb101 hg w17 hbox hb; have _ := AM (below_step (bX HB.out) hb); have _ := AM (hbox); have n2_ := AM ((by rw [hg]; exact (bZ (bX HB.out)) : w.heap.size ≤ gb101)); clear HB; rename_i HB BK101; have GW101 := n2_; have GE101 := n2_; clear n2_; clear hb hbox hg) | ((with_reducible refine gate_dst (N := 4) rfl ?_); refine box_event (by rfl) (N := 4) (by rfl) (cs := #[.slice none 0 0, .bool false, .int .i64 0]) (t := 62) (by first | (go_simp; done) | (go_simp; rfl)) ?_; intro gb102 hg w18 hbox hb; have _ := AM (nB BK101.out hb); have _ := AM (below_step (bX HB.out) hb); have _ := AM (hbox); have n3_ := AM ((by rw [hg]; exact (bZ (bX HB.out)) : w.heap.size ≤ gb102)); have _ := AM (lX hg BK101.out); have _ := AM (lX hg BK101.out).symm; clear BK101 HB; rename_i BK101 HB BK102 NB101_102 NB102_101; have GW102 := n3_; have GE102 := n3_; clear n3_; clear hb hbox hg; have hnb19 := NB101_102.out; have hnc19 := NB102_101.out; have hcz20 := q5 BK101.out; have hfz20 := fZ BK101.out) | ((with_reducible refine gate_callee (f := 43) rfl ?_); refine goesL_ (some 7) rfl rfl Try.func43 (by kernel_rfl) rfl #[.slice A0 l0.length c0, .agg #[.int .i64 a1_0, .int .i64 a1_1, .int .i64 a1_2, .string a1_3, .int .i64 a1_4]] rfl (by (try simp only [mA, mB, mC]); first | done | rfl | (simp only [mD, mE]; rfl)) ?_; (with_reducible refine (spec_l11Has.calls k _ _ l0 a1_0 a1_1 a1_2 a1_3 a1_4 false _ ?side1 ?side2 A3.out).mono ?_); (case side1 => repeat (first | exact (cB HR0.out HB.out) | (with_reducible first | apply cA | apply cN | apply cD))); (case side2 => exact HC0.out); rintro e w21 ⟨rfl, hb⟩; refine ⟨_, rfl, ?_⟩; have _ := AM (nB BK101.out hb); have _ := AM (nB BK102.out hb); have _ := AM (below_step (bX HB.out) hb); clear BK101 BK102 HB; rename_i BK101 BK102 HB; (try clear hb); (try clear hk); have hcz22 := q3 BK102.out; have hfz22 := fZ BK102.out))
  refine bodyPost_ret (results_cell_row rfl _ _ gb102 62 #[.slice none 0 0, .bool false, .int .i64 9] (0, 0) _ rfl (by refine kP (cs := #[.slice none 0 0, .bool false, .int .i64 0]) 2 ?_; refine kP (cs := #[.slice none 0 0, .bool false, .int .i64 0]) 1 ?_; refine kP (cs := #[.slice none 0 0, .bool false, .int .i64 0]) 0 ?_; (with_reducible repeat (first | apply kN | apply kD | apply kA)); exact BK102.out) Try.underlying62 rfl (by kernel_rfl)) rfl ?_
  exact ⟨_, by first | rfl | (simp [*, errW_none, errW_some] <;> rfl), by first | exact Kd.R_nil _ _ _ _ _ | exact Kd.N_nil _ _ _ _ _ | exact Kd.V_nil _ _ _ _ _ | exact Kd.Q_nil _ _ _ _ _ | exact Kd.S_nil _ _ _ _ _, bX HB.out⟩
 rw [if_neg c16] at H
 have c16b0 : decide (400 ≤ (l0.length : Int)) = false := decide_eq_false c16
 have c16b1 : decide (400 ≤ l0.length) = false := decide_eq_false (by omega)
 clear c16
 obtain ⟨y110, hy110⟩ : ∃ y_ : List (S45), y_ = (([] : List (S45))) := ⟨_, rfl⟩
 replace H : (if y110.length + l0.length < 2932031007402 then ((some (y110 ++ l0 : List (S45))).bind fun y113 => ((some (([(⟨a1_0, a1_1, a1_2, a1_3, a1_4⟩ : S45)] : List (S45)) : List (S45))).bind fun y116 => (if y113.length + y116.length < 2932031007402 then (some ((y113 ++ y116), true, 0)) else (none)))) else (none)) = some (r1, r2, r3) := by first | (rw [hy110]; with_reducible exact H) | (have H2_ := (Option.bind_some _ _).symm.trans H; rw [hy110]; with_reducible exact H2_) | (have H2_ := (Option.bind_some _ _).symm.trans H; with_reducible exact H2_) | with_reducible exact H | (rw [hy110]; exact H) | exact H
 have Ny110 := AM hy110
 clear hy110
 by_cases c23 : y110.length + l0.length < 2932031007402
 ·
  rw [if_pos c23] at H
  have LMc23 := AM c23
  clear c23
  obtain ⟨y113, hy113⟩ : ∃ y_ : List (S45), y_ = (y110 ++ l0) := ⟨_, rfl⟩
  replace H : ((some (([(⟨a1_0, a1_1, a1_2, a1_3, a1_4⟩ : S45)] : List (S45)) : List (S45))).bind fun y116 => (if y113.length + y116.length < 2932031007402 then (some ((y113 ++ y116), true, 0)) else (none))) = some (r1, r2, r3) := by first | (rw [hy113]; with_reducible exact H) | (have H2_ := (Option.bind_some _ _).symm.trans H; rw [hy113]; with_reducible exact H2_) | (have H2_ := (Option.bind_some _ _).symm.trans H; with_reducible exact H2_) | with_reducible exact H | (rw [hy113]; exact H) | exact H
  have Ny113 := AM hy113
  clear hy113
  obtain ⟨y116, hy116⟩ : ∃ y_ : List (S45), y_ = (([(⟨a1_0, a1_1, a1_2, a1_3, a1_4⟩ : S45)] : List (S45))) := ⟨_, rfl⟩
  replace H : (if y113.length + y116.length < 2932031007402 then (some ((y113 ++ y116), true, 0)) else (none)) = some (r1, r2, r3) := by first | (rw [hy116]; with_reducible exact H) | (have H2_ := (Option.bind_some _ _).symm.trans H; rw [hy116]; with_reducible exact H2_) | (have H2_ := (Option.bind_some _ _).symm.trans H; with_reducible exact H2_) | with_reducible exact H | (rw [hy116]; exact H) | exact H
  have Ny116 := AM hy116
  clear hy116
  by_cases c24 : y113.length + y116.length < 2932031007402
  ·
   rw [if_pos c24] at H
   have LMc24 := AM c24
   clear c24
   obtain ⟨y119, hy119⟩ : ∃ y_ : List (S45), y_ = (y113 ++ y116) := ⟨_, rfl⟩
   replace H : (some (y119, true, 0)) = some (r1, r2, r3) := by first | (rw [hy119]; with_reducible exact H) | (have H2_ := (Option.bind_some _ _).symm.trans H; rw [hy119]; with_reducible exact H2_) | (have H2_ := (Option.bind_some _ _).symm.trans H; with_reducible exact H2_) | with_reducible exact H | (rw [hy119]; exact H) | exact H
   have Ny119 := AM hy119
   clear hy119
   simp only [Option.some.injEq, Prod.mk.injEq] at H
   obtain ⟨rfl, rfl, rfl⟩ := H
   go_enter Try.func49, Try.ntmps49
   try go_wp2_with (first | ((with_reducible refine gate_dst (N := 3) rfl ?_); refine box_event (by rfl) (N := 3) (by rfl) (cs := #[.int .i64 a1_0, .int .i64 a1_1, .int .i64 a1_2, .string a1_3, .int .i64 a1_4]) (t := 45) (by first | (go_simp; done) | (go_simp; rfl)) ?_; intro gb101 hg w25 hbox hb; have _ := AM (below_step (bX HB.out) hb); have _ := AM (hbox); have n2_ := AM ((by rw [hg]; exact (bZ (bX HB.out)) : w.heap.size ≤ gb101)); clear HB; rename_i HB BK101; have GW101 := n2_; have GE101 := n2_; clear n2_; clear hb hbox hg) | ((with_reducible refine gate_dst (N := 4) rfl ?_); refine box_event (by rfl) (N := 4) (by rfl) (cs := #[.slice none 0 0, .bool false, .int .i64 0]) (t := 62) (by first | (go_simp; done) | (go_simp; rfl)) ?_; intro gb102 hg w26 hbox hb; have _ := AM (nB BK101.out hb); have _ := AM (below_step (bX HB.out) hb); have _ := AM (hbox); have n3_ := AM ((by rw [hg]; exact (bZ (bX HB.out)) : w.heap.size ≤ gb102)); have _ := AM (lX hg BK101.out); have _ := AM (lX hg BK101.out).symm; clear BK101 HB; rename_i BK101 HB BK102 NB101_102 NB102_101; have GW102 := n3_; have GE102 := n3_; clear n3_; clear hb hbox hg; have hnb27 := NB101_102.out; have hnc27 := NB102_101.out; have hcz28 := q5 BK101.out; have hfz28 := fZ BK101.out) | ((with_reducible refine gate_callee (f := 43) rfl ?_); refine goesL_ (some 7) rfl rfl Try.func43 (by kernel_rfl) rfl #[.slice A0 l0.length c0, .agg #[.int .i64 a1_0, .int .i64 a1_1, .int .i64 a1_2, .string a1_3, .int .i64 a1_4]] rfl (by (try simp only [mA, mB, mC]); first | done | rfl | (simp only [mD, mE]; rfl)) ?_; (with_reducible refine (spec_l11Has.calls k _ _ l0 a1_0 a1_1 a1_2 a1_3 a1_4 false _ ?side1 ?side2 A3.out).mono ?_); (case side1 => repeat (first | exact (cB HR0.out HB.out) | (with_reducible first | apply cA | apply cN | apply cD))); (case side2 => exact HC0.out); rintro e w29 ⟨rfl, hb⟩; refine ⟨_, rfl, ?_⟩; have _ := AM (nB BK101.out hb); have _ := AM (nB BK102.out hb); have _ := AM (below_step (bX HB.out) hb); clear BK101 BK102 HB; rename_i BK101 BK102 HB; (try clear hb); (try clear hk)))
   have _ := AM (kD BK101.out)
   have _ := AM (kD BK102.out)
   have _ := AM (bD HB.out)
   clear BK101 BK102 HB
   rename_i BK101 BK102 HB
   refine start_ (n := 8) (S := fun w' => w'.cell? ⟨gb101, 0, none⟩ = some (.int .i64 a1_0) ∧ w'.cell? ⟨gb101, 1, none⟩ = some (.int .i64 a1_1) ∧ w'.cell? ⟨gb101, 2, none⟩ = some (.int .i64 a1_2) ∧ w'.cell? ⟨gb101, 3, none⟩ = some (.string a1_3) ∧ w'.cell? ⟨gb101, 4, none⟩ = some (.int .i64 a1_4)) (ds := []) (upTo 0 8) (by kernel_rfl) rfl rfl ⟨(kC BK101.out 0).trans rfl, (kC BK101.out 1).trans rfl, (kC BK101.out 2).trans rfl, (kC BK101.out 3).trans rfl, (kC BK101.out 4).trans rfl⟩ (fun hHeld => ?_); refine with_tabW spec_l11Add.tab5 spec_l11Add.bits5 (fun HT_ HW_ => ?_)
   generalize w29.drew = w30 at BK101 BK102 HB hHeld ⊢
   refine pF2 1 17 spec_l11Add.b0 ?_
   refine pT2 3 19 spec_l11Add.b1 ?_ hHeld
   refine join_ (σ := Value × Value × Value) 3 (upTo 5 8) (fun s_ => [(16, s_.1), (18, s_.2.1), (20, s_.2.2)]) (fun s_ w' => (w'.cell? ⟨gb101, 0, none⟩ = some (.int .i64 a1_0) ∧ w'.cell? ⟨gb101, 1, none⟩ = some (.int .i64 a1_1) ∧ w'.cell? ⟨gb101, 2, none⟩ = some (.int .i64 a1_2) ∧ w'.cell? ⟨gb101, 3, none⟩ = some (.string a1_3) ∧ w'.cell? ⟨gb101, 4, none⟩ = some (.int .i64 a1_4)) ∧ (Kd.R k45 45 w' w.heap.size (fun k_ => some k_ ≠ (s_.2.2 : Value).ownBlock ∧ k_ ≠ gb101) s_.2.1 y113) ∧ (Kd.R k45 45 w' w.heap.size (fun k_ => some k_ ≠ (s_.2.1 : Value).ownBlock ∧ k_ ≠ gb101) s_.2.2 y116) ∧ (w'.heap[gb101]? = some (.cells #[.int .i64 a1_0, .int .i64 a1_1, .int .i64 a1_2, .string a1_3, .int .i64 a1_4] 45 (0, 0))) ∧ (w'.heap[gb102]? = some (.cells #[.slice none 0 0, .bool false, .int .i64 0] 62 (0, 0))) ∧ (Below w.heap.size w w')) ?_ ?_
   rotate_left
   ·
    intro hCont
    refine two_ (i := 0) (j := 4) (Ni := some 16) (Nj := some 20) spec_l11Add.b2 spec_l11Add.b3 rfl rfl rfl rfl (two_of HT_.out (by kernel_rfl)) (by decide) (by decide) (fun K hK => ?_) (fun K hK => ?_)
    ·
     skip
     refine Kd.R_lit_step k45 _ 45 ?hg (N := 16) ?hd (xs := ([] : List (S45))) (inner := []) (ok := fun _ => True) (okp := fun _ => True) ?hr ?hp (fun _ hk => hk) trivial (Below.refl _ _) (Nat.le_refl _) (by simp) ?_; (case hd => rfl); (case hg => rfl); (case hr => first | (go_simp; done) | (go_simp; rfl)); (case hp => exact (Reps.none _ _))
     intro v111 w31 ho32 hb hg_ hnew_
     clear hg_ hnew_
     (first | rw [← Ny110.out] at ho32 | (simp only [Int.reduceToNat] at ho32; rw [← Ny110.out] at ho32))
     have _ := AM (Kd.R_lower (Kd.R_newB ho32 (g := gb101) (o := .cells #[.int .i64 a1_0, .int .i64 a1_1, .int .i64 a1_2, .string a1_3, .int .i64 a1_4] 45 (0, 0)) (kX BK101.out)) (bZ (bX HB.out)))
     have _ := AM (nB BK101.out hb)
     have _ := AM (nB BK102.out hb)
     have _ := AM (below_step (bX HB.out) hb)
     clear BK101 BK102 HB
     rename_i HO112 BK101 BK102 HB
     clear hb ho32
     refine hK.out _ _ (q5 BK101.out) (fun hHeld => ?_)
     clear hK K
     refine norm_ (a' := ?_) ?_ ?_
     rotate_left
     ·
      show Act.put _ (some 16) _ = _
      simp only [Act.put, sA, sB, sC, i64_w, i32_w]
      rfl
     refine two_ (i := 2) (j := 4) (Ni := some 18) (Nj := some 20) (upTo 4 8) spec_l11Add.b4 rfl rfl rfl rfl (two_of HT_.out (by kernel_rfl)) (by decide) (by decide) (fun K hK => ?_) (fun K hK => ?_)
     ·
      skip
      refine Kd.R_append_rows_step k45 (w0 := w) w.heap.size (by rfl) (.tmp 16) (.tmp 17) 23 45 (.agg #[(.int .i64 0), (.int .i64 0), (.int .i64 0), (.string ⟨#[]⟩), (.int .i64 0)]) 48 rfl Try.underlying23 info45 rfl (by decide) (by omega) v111 y110 l0 _ _ _ (fun k_ => k_ ≠ gb101) (fun _ => False) rfl rfl ?aO ?aR (fun _ _ h => h) (fun _ h => h.elim) ?aF ?aB ?aS ?aL ?_
      (case aR => repeat (first | exact (cB HR0.out HB.out) | (with_reducible first | apply cA | apply cN | apply cD)))
      (case aB => exact (bX HB.out))
      (case aF => exact (fun k_ hk => Kd.freshB (g := gb101) (o := .cells #[.int .i64 a1_0, .int .i64 a1_1, .int .i64 a1_2, .string a1_3, .int .i64 a1_4] 45 (0, 0)) (kX BK101.out) k_ hk))
      (case aO => exact (by (with_reducible repeat (first | apply rA | apply rN | apply rD)); exact Kd.R_mono HO112.out (fun _ hk => hk.2)))
      (case aS => exact (bZ (bX HB.out)))
      (case aL => have := LMc23.out; omega)
      intro v114 w33 ho hb hg hat
      rw [← Ny113.out] at ho
      have _ := AM (blk_grown (g := gb101) (o := .cells #[.int .i64 a1_0, .int .i64 a1_1, .int .i64 a1_2, .string a1_3, .int .i64 a1_4] 45 (0, 0)) (kX BK101.out) hg (Kd.R_away HO112.out (fun _ hk => hk.2)))
      have _ := AM (blk_grown (g := gb102) (o := .cells #[.slice none 0 0, .bool false, .int .i64 0] 62 (0, 0)) (kX BK102.out) hg (Kd.R_ne HO112.out BK102.out (by decide)))
      have _ := AM (hb)
      have _ := AM (ho)
      clear BK101 BK102 HB HO112
      rename_i BK101 BK102 HB HO115
      clear ho hb hg hat
      refine hK.out _ _ (q5 BK101.out) (fun hHeld => ?_)
      clear hK K
      refine norm_ (a' := ?_) ?_ ?_
      rotate_left
      ·
       show Act.put _ (some 18) _ = _
       simp only [Act.put, sA, sB, sC, i64_w, i32_w]
       rfl
      refine one_ (i := 4) (N := some 20) (upTo 5 8) rfl rfl (one_of HT_.out (by kernel_rfl)) (by decide) (fun K hK => ?_)
      refine Kd.R_lit_step k45 _ 45 ?hg (N := 20) ?hd (xs := ([(⟨a1_0, a1_1, a1_2, a1_3, a1_4⟩ : S45)] : List (S45))) (inner := [.int .i64 a1_0, .int .i64 a1_1, .int .i64 a1_2, .string a1_3, .int .i64 a1_4]) (ok := fun _ => True) (okp := fun _ => True) ?hr ?hp (fun _ hk => hk) trivial (Below.refl _ _) (Nat.le_refl _) (by simp) ?_; (case hd => rfl); (case hg => rfl); (case hr => first | (go_simp; done) | (go_simp; rfl)); (case hp => exact (Reps.c5 (show Kd.M k45 _ _ _ (⟨a1_0, a1_1, a1_2, a1_3, a1_4⟩ : S45) [.int .i64 a1_0, .int .i64 a1_1, .int .i64 a1_2, .string a1_3, .int .i64 a1_4] from (k45_mkM _ _ _ (⟨a1_0, a1_1, a1_2, a1_3, a1_4⟩ : S45) )) (Reps.none _ _)))
      intro v117 w34 ho35 hb hg_ hnew_
      clear hg_ hnew_
      (first | rw [← Ny116.out] at ho35 | (simp only [Int.reduceToNat] at ho35; rw [← Ny116.out] at ho35))
      have _ := AM (Kd.R_elder' (rX HO115.out) (Kd.R_base ho35) hb)
      have _ := AM (Kd.R_lower (Kd.R_newB (Kd.R_new' ho35 (Kd.R_lt (rX HO115.out))) (g := gb101) (o := .cells #[.int .i64 a1_0, .int .i64 a1_1, .int .i64 a1_2, .string a1_3, .int .i64 a1_4] 45 (0, 0)) (kX BK101.out)) (bZ (bX HB.out)))
      have _ := AM (nB BK101.out hb)
      have _ := AM (nB BK102.out hb)
      have _ := AM (below_step (bX HB.out) hb)
      clear HO115 BK101 BK102 HB
      rename_i HO115 HO118 BK101 BK102 HB
      clear hb ho35
      refine hK.out _ _ (q5 BK101.out) (fun hHeld => ?_)
      clear hK K
      refine norm_ (a' := ?_) ?_ ?_
      rotate_left
      ·
       show Act.put _ (some 20) _ = _
       simp only [Act.put, sA, sB, sC, i64_w, i32_w]
       rfl
      exact norm_ (by simp only [putAll, Act.put, List.setIfInBounds_toArray, List.set_cons_zero, List.set_cons_succ]) (hCont (v111, v114, v117) _ ⟨hHeld, (by (with_reducible repeat (first | apply rA | apply rN | apply rD)); exact Kd.R_mono HO115.out (fun _ hk => ⟨hk.2, hk.1⟩)), (by (with_reducible repeat (first | apply rA | apply rN | apply rD)); exact Kd.R_mono HO118.out (fun _ hk => ⟨hk.1.2, hk.2⟩)), (kX BK101.out), (kX BK102.out), (bX HB.out)⟩)
     skip
     refine Kd.R_lit_step k45 _ 45 ?hg (N := 20) ?hd (xs := ([(⟨a1_0, a1_1, a1_2, a1_3, a1_4⟩ : S45)] : List (S45))) (inner := [.int .i64 a1_0, .int .i64 a1_1, .int .i64 a1_2, .string a1_3, .int .i64 a1_4]) (ok := fun _ => True) (okp := fun _ => True) ?hr ?hp (fun _ hk => hk) trivial (Below.refl _ _) (Nat.le_refl _) (by simp) ?_; (case hd => rfl); (case hg => rfl); (case hr => first | (go_simp; done) | (go_simp; rfl)); (case hp => exact (Reps.c5 (show Kd.M k45 _ _ _ (⟨a1_0, a1_1, a1_2, a1_3, a1_4⟩ : S45) [.int .i64 a1_0, .int .i64 a1_1, .int .i64 a1_2, .string a1_3, .int .i64 a1_4] from (k45_mkM _ _ _ (⟨a1_0, a1_1, a1_2, a1_3, a1_4⟩ : S45) )) (Reps.none _ _)))
     intro v117 w33 ho34 hb hg_ hnew_
     clear hg_ hnew_
     (first | rw [← Ny116.out] at ho34 | (simp only [Int.reduceToNat] at ho34; rw [← Ny116.out] at ho34))
     have _ := AM (Kd.R_elder' (rX HO112.out) (Kd.R_base ho34) hb)
     have _ := AM (Kd.R_lower (Kd.R_newB (Kd.R_new' ho34 (Kd.R_lt (rX HO112.out))) (g := gb101) (o := .cells #[.int .i64 a1_0, .int .i64 a1_1, .int .i64 a1_2, .string a1_3, .int .i64 a1_4] 45 (0, 0)) (kX BK101.out)) (bZ (bX HB.out)))
     have _ := AM (nB BK101.out hb)
     have _ := AM (nB BK102.out hb)
     have _ := AM (below_step (bX HB.out) hb)
     clear HO112 BK101 BK102 HB
     rename_i HO112 HO118 BK101 BK102 HB
     clear hb ho34
     refine hK.out _ _ (q5 BK101.out) (fun hHeld => ?_)
     clear hK K
     refine norm_ (a' := ?_) ?_ ?_
     rotate_left
     ·
      show Act.put _ (some 20) _ = _
      simp only [Act.put, sA, sB, sC, i64_w, i32_w]
      rfl
     refine one_ (i := 2) (N := some 18) (upTo 5 8) rfl rfl (one_of HT_.out (by kernel_rfl)) (by decide) (fun K hK => ?_)
     refine Kd.R_append_rows_step k45 (w0 := w) w.heap.size (by rfl) (.tmp 16) (.tmp 17) 23 45 (.agg #[(.int .i64 0), (.int .i64 0), (.int .i64 0), (.string ⟨#[]⟩), (.int .i64 0)]) 48 rfl Try.underlying23 info45 rfl (by decide) (by omega) v111 y110 l0 _ _ _ (fun k_ => some k_ ≠ (v117 : Value).ownBlock ∧ k_ ≠ gb101) (fun _ => False) rfl rfl ?aO ?aR (fun _ _ h => h) (fun _ h => h.elim) ?aF ?aB ?aS ?aL ?_
     (case aR => repeat (first | exact (cB HR0.out HB.out) | (with_reducible first | apply cA | apply cN | apply cD)))
     (case aB => exact (bX HB.out))
     (case aF => exact (fun k_ hk => ⟨Kd.fresh' (Kd.R_lt (rX HO118.out)) k_ hk, Kd.freshB (g := gb101) (o := .cells #[.int .i64 a1_0, .int .i64 a1_1, .int .i64 a1_2, .string a1_3, .int .i64 a1_4] 45 (0, 0)) (kX BK101.out) k_ hk⟩))
     (case aO => exact (by (with_reducible repeat (first | apply rA | apply rN | apply rD)); exact Kd.R_mono HO112.out (fun _ hk => ⟨hk.2, hk.1.2⟩)))
     (case aS => exact (bZ (bX HB.out)))
     (case aL => have := LMc23.out; omega)
     intro v114 w35 ho hb hg hat
     rw [← Ny113.out] at ho
     have _ := AM (blk_grown (g := gb101) (o := .cells #[.int .i64 a1_0, .int .i64 a1_1, .int .i64 a1_2, .string a1_3, .int .i64 a1_4] 45 (0, 0)) (kX BK101.out) hg (Kd.R_away HO112.out (fun _ hk => hk.1.2)))
     have _ := AM (blk_grown (g := gb102) (o := .cells #[.slice none 0 0, .bool false, .int .i64 0] 62 (0, 0)) (kX BK102.out) hg (Kd.R_ne HO112.out BK102.out (by decide)))
     have _ := AM (Kd.R_after (ok := (fun k_ => k_ ≠ gb101)) (by (with_reducible repeat (first | apply rA | apply rN | apply rD)); exact Kd.R_mono HO118.out (fun _ hk => ⟨hk.2, hk.1.2⟩)) hg hat)
     have _ := AM (hb)
     have _ := AM (ho)
     clear BK101 BK102 HO118 HB HO112
     rename_i BK101 BK102 HO118 HB HO115
     clear ho hb hg hat
     refine hK.out _ _ (q5 BK101.out) (fun hHeld => ?_)
     clear hK K
     refine norm_ (a' := ?_) ?_ ?_
     rotate_left
     ·
      show Act.put _ (some 18) _ = _
      simp only [Act.put, sA, sB, sC, i64_w, i32_w]
      rfl
     exact norm_ (by simp only [putAll, Act.put, List.setIfInBounds_toArray, List.set_cons_zero, List.set_cons_succ]) (hCont (v111, v114, v117) _ ⟨hHeld, (rX HO115.out), (by (with_reducible repeat (first | apply rA | apply rN | apply rD)); exact Kd.R_mono HO118.out (fun _ hk => ⟨hk.2, hk.1⟩)), (kX BK101.out), (kX BK102.out), (bX HB.out)⟩)
    skip
    refine Kd.R_lit_step k45 _ 45 ?hg (N := 20) ?hd (xs := ([(⟨a1_0, a1_1, a1_2, a1_3, a1_4⟩ : S45)] : List (S45))) (inner := [.int .i64 a1_0, .int .i64 a1_1, .int .i64 a1_2, .string a1_3, .int .i64 a1_4]) (ok := fun _ => True) (okp := fun _ => True) ?hr ?hp (fun _ hk => hk) trivial (Below.refl _ _) (Nat.le_refl _) (by simp) ?_; (case hd => rfl); (case hg => rfl); (case hr => first | (go_simp; done) | (go_simp; rfl)); (case hp => exact (Reps.c5 (show Kd.M k45 _ _ _ (⟨a1_0, a1_1, a1_2, a1_3, a1_4⟩ : S45) [.int .i64 a1_0, .int .i64 a1_1, .int .i64 a1_2, .string a1_3, .int .i64 a1_4] from (k45_mkM _ _ _ (⟨a1_0, a1_1, a1_2, a1_3, a1_4⟩ : S45) )) (Reps.none _ _)))
    intro v117 w31 ho32 hb hg_ hnew_
    clear hg_ hnew_
    (first | rw [← Ny116.out] at ho32 | (simp only [Int.reduceToNat] at ho32; rw [← Ny116.out] at ho32))
    have _ := AM (Kd.R_lower (Kd.R_newB ho32 (g := gb101) (o := .cells #[.int .i64 a1_0, .int .i64 a1_1, .int .i64 a1_2, .string a1_3, .int .i64 a1_4] 45 (0, 0)) (kX BK101.out)) (bZ (bX HB.out)))
    have _ := AM (nB BK101.out hb)
    have _ := AM (nB BK102.out hb)
    have _ := AM (below_step (bX HB.out) hb)
    clear BK101 BK102 HB
    rename_i HO118 BK101 BK102 HB
    clear hb ho32
    refine hK.out _ _ (q5 BK101.out) (fun hHeld => ?_)
    clear hK K
    refine norm_ (a' := ?_) ?_ ?_
    rotate_left
    ·
     show Act.put _ (some 20) _ = _
     simp only [Act.put, sA, sB, sC, i64_w, i32_w]
     rfl
    refine one_ (i := 0) (N := some 16) spec_l11Add.b4 rfl rfl (one_of HT_.out (by kernel_rfl)) (by decide) (fun K hK => ?_)
    refine Kd.R_lit_step k45 _ 45 ?hg (N := 16) ?hd (xs := ([] : List (S45))) (inner := []) (ok := fun _ => True) (okp := fun _ => True) ?hr ?hp (fun _ hk => hk) trivial (Below.refl _ _) (Nat.le_refl _) (by simp) ?_; (case hd => rfl); (case hg => rfl); (case hr => first | (go_simp; done) | (go_simp; rfl)); (case hp => exact (Reps.none _ _))
    intro v111 w33 ho34 hb hg_ hnew_
    clear hg_ hnew_
    (first | rw [← Ny110.out] at ho34 | (simp only [Int.reduceToNat] at ho34; rw [← Ny110.out] at ho34))
    have _ := AM (Kd.R_elder' (rX HO118.out) (Kd.R_base ho34) hb)
    have _ := AM (Kd.R_lower (Kd.R_newB (Kd.R_new' ho34 (Kd.R_lt (rX HO118.out))) (g := gb101) (o := .cells #[.int .i64 a1_0, .int .i64 a1_1, .int .i64 a1_2, .string a1_3, .int .i64 a1_4] 45 (0, 0)) (kX BK101.out)) (bZ (bX HB.out)))
    have _ := AM (nB BK101.out hb)
    have _ := AM (nB BK102.out hb)
    have _ := AM (below_step (bX HB.out) hb)
    clear HO118 BK101 BK102 HB
    rename_i HO118 HO112 BK101 BK102 HB
    clear hb ho34
    refine hK.out _ _ (q5 BK101.out) (fun hHeld => ?_)
    clear hK K
    refine norm_ (a' := ?_) ?_ ?_
    rotate_left
    ·
     show Act.put _ (some 16) _ = _
     simp only [Act.put, sA, sB, sC, i64_w, i32_w]
     rfl
    refine one_ (i := 2) (N := some 18) (upTo 5 8) rfl rfl (one_of HT_.out (by kernel_rfl)) (by decide) (fun K hK => ?_)
    refine Kd.R_append_rows_step k45 (w0 := w) w.heap.size (by rfl) (.tmp 16) (.tmp 17) 23 45 (.agg #[(.int .i64 0), (.int .i64 0), (.int .i64 0), (.string ⟨#[]⟩), (.int .i64 0)]) 48 rfl Try.underlying23 info45 rfl (by decide) (by omega) v111 y110 l0 _ _ _ (fun k_ => some k_ ≠ (v117 : Value).ownBlock ∧ k_ ≠ gb101) (fun _ => False) rfl rfl ?aO ?aR (fun _ _ h => h) (fun _ h => h.elim) ?aF ?aB ?aS ?aL ?_
    (case aR => repeat (first | exact (cB HR0.out HB.out) | (with_reducible first | apply cA | apply cN | apply cD)))
    (case aB => exact (bX HB.out))
    (case aF => exact (fun k_ hk => ⟨Kd.fresh' (Kd.R_lt (rX HO118.out)) k_ hk, Kd.freshB (g := gb101) (o := .cells #[.int .i64 a1_0, .int .i64 a1_1, .int .i64 a1_2, .string a1_3, .int .i64 a1_4] 45 (0, 0)) (kX BK101.out) k_ hk⟩))
    (case aO => exact (by (with_reducible repeat (first | apply rA | apply rN | apply rD)); exact Kd.R_mono HO112.out (fun _ hk => ⟨hk.1.2, hk.2⟩)))
    (case aS => exact (bZ (bX HB.out)))
    (case aL => have := LMc23.out; omega)
    intro v114 w35 ho hb hg hat
    rw [← Ny113.out] at ho
    have _ := AM (blk_grown (g := gb101) (o := .cells #[.int .i64 a1_0, .int .i64 a1_1, .int .i64 a1_2, .string a1_3, .int .i64 a1_4] 45 (0, 0)) (kX BK101.out) hg (Kd.R_away HO112.out (fun _ hk => hk.2)))
    have _ := AM (blk_grown (g := gb102) (o := .cells #[.slice none 0 0, .bool false, .int .i64 0] 62 (0, 0)) (kX BK102.out) hg (Kd.R_ne HO112.out BK102.out (by decide)))
    have _ := AM (Kd.R_after (ok := (fun k_ => k_ ≠ gb101)) (by (with_reducible repeat (first | apply rA | apply rN | apply rD)); exact Kd.R_mono HO118.out (fun _ hk => ⟨hk.1.2, hk.2⟩)) hg hat)
    have _ := AM (hb)
    have _ := AM (ho)
    clear BK101 BK102 HO118 HB HO112
    rename_i BK101 BK102 HO118 HB HO115
    clear ho hb hg hat
    refine hK.out _ _ (q5 BK101.out) (fun hHeld => ?_)
    clear hK K
    refine norm_ (a' := ?_) ?_ ?_
    rotate_left
    ·
     show Act.put _ (some 18) _ = _
     simp only [Act.put, sA, sB, sC, i64_w, i32_w]
     rfl
    exact norm_ (by simp only [putAll, Act.put, List.setIfInBounds_toArray, List.set_cons_zero, List.set_cons_succ]) (hCont (v111, v114, v117) _ ⟨hHeld, (rX HO115.out), (by (with_reducible repeat (first | apply rA | apply rN | apply rD)); exact Kd.R_mono HO118.out (fun _ hk => ⟨hk.2, hk.1⟩)), (kX BK101.out), (kX BK102.out), (bX HB.out)⟩)
   rintro ⟨v111, v114, v117⟩ w36 ⟨hS_, h0_, h1_, h2_, h3_, h4_⟩
   have _ : Aside0 (Kd.R k45 45 w36 w.heap.size (fun k_ => some k_ ≠ (v117 : Value).ownBlock ∧ k_ ≠ gb101) v114 y113) := ⟨h0_⟩
   have _ : Aside0 (Kd.R k45 45 w36 w.heap.size (fun k_ => some k_ ≠ (v114 : Value).ownBlock ∧ k_ ≠ gb101) v117 y116) := ⟨h1_⟩
   have _ : Aside0 (w36.heap[gb101]? = some (.cells #[.int .i64 a1_0, .int .i64 a1_1, .int .i64 a1_2, .string a1_3, .int .i64 a1_4] 45 (0, 0))) := ⟨h2_⟩
   have _ : Aside0 (w36.heap[gb102]? = some (.cells #[.slice none 0 0, .bool false, .int .i64 0] 62 (0, 0))) := ⟨h3_⟩
   have _ : Aside0 (Below w.heap.size w w36) := ⟨h4_⟩
   clear BK101 BK102 HB h0_ h1_ h2_ h3_ h4_
   rename_i HO115 HO118 BK101 BK102 HB
   have hHeld : w36.cell? ⟨gb101, 0, none⟩ = some (.int .i64 a1_0) ∧ w36.cell? ⟨gb101, 1, none⟩ = some (.int .i64 a1_1) ∧ w36.cell? ⟨gb101, 2, none⟩ = some (.int .i64 a1_2) ∧ w36.cell? ⟨gb101, 3, none⟩ = some (.string a1_3) ∧ w36.cell? ⟨gb101, 4, none⟩ = some (.int .i64 a1_4) := hS_
   obtain ⟨Ao38, co38, eo38⟩ := Kd.R_slice HO118.out
   (first | subst eo38 | (injection eo38 with f1_ f2_ f3_; have f4_ := f1_.symm; have f5_ := f3_.symm; clear f1_ f2_ f3_; subst f4_; subst f5_))
   refine norm_ (a' := ?_) ?_ ?_
   rotate_left
   ·
    simp only [putAll, Act.put, List.setIfInBounds_toArray, List.set_cons_zero, List.set_cons_succ]
    rfl
   refine one_ (i := 5) (N := some 21) (upTo 6 8) rfl rfl (one_of HT_.out (by kernel_rfl)) (by decide) (fun K hK => ?_)
   refine Kd.R_append_rows_step k45 (w0 := w) w.heap.size (by rfl) (.tmp 18) (.tmp 20) 23 45 (.agg #[(.int .i64 0), (.int .i64 0), (.int .i64 0), (.string ⟨#[]⟩), (.int .i64 0)]) 48 rfl Try.underlying23 info45 rfl (by decide) (by omega) v114 y113 y116 _ _ _ (fun k_ => some k_ ≠ (.slice Ao38 y116.length co38 : Value).ownBlock ∧ k_ ≠ gb101) (fun _ => False) rfl rfl ?aO ?aR (fun _ _ h => h) (fun _ h => h.elim) ?aF ?aB ?aS ?aL ?_
   (case aR => repeat (first | exact (Kd.R_reads' HO118.out).2.2 | (with_reducible first | apply cA | apply cN | apply cD)))
   (case aB => exact (bX HB.out))
   (case aF => exact (fun k_ hk => ⟨Kd.fresh' (Kd.R_lt (rX HO118.out)) k_ hk, Kd.freshB (g := gb101) (o := .cells #[.int .i64 a1_0, .int .i64 a1_1, .int .i64 a1_2, .string a1_3, .int .i64 a1_4] 45 (0, 0)) (kX BK101.out) k_ hk⟩))
   (case aO => exact (rX HO115.out))
   (case aS => exact (bZ (bX HB.out)))
   (case aL => have := LMc24.out; omega)
   intro v120 w37 ho hb hg hat
   rw [← Ny119.out] at ho
   have _ := AM (blk_grown (g := gb101) (o := .cells #[.int .i64 a1_0, .int .i64 a1_1, .int .i64 a1_2, .string a1_3, .int .i64 a1_4] 45 (0, 0)) (kX BK101.out) hg (Kd.R_away HO115.out (fun _ hk => hk.2)))
   have _ := AM (blk_grown (g := gb102) (o := .cells #[.slice none 0 0, .bool false, .int .i64 0] 62 (0, 0)) (kX BK102.out) hg (Kd.R_ne HO115.out BK102.out (by decide)))
   have _ := AM (Kd.R_after (ok := (fun k_ => k_ ≠ gb101)) (by (with_reducible repeat (first | apply rA | apply rN | apply rD)); exact Kd.R_mono HO118.out (fun _ hk => ⟨hk.2, hk.1⟩)) hg hat)
   have _ := AM (hb)
   have _ := AM (ho)
   clear BK101 BK102 HO118 HB HO115
   rename_i BK101 BK102 HO118 HB HO121
   clear ho hb hg hat
   obtain ⟨Ao39, co39, eo39⟩ := Kd.R_slice HO121.out
   (first | subst eo39 | (injection eo39 with f1_ f2_ f3_; have f4_ := f1_.symm; have f5_ := f3_.symm; clear f1_ f2_ f3_; subst f4_; subst f5_))
   refine hK.out _ _ (q5 BK101.out) (fun hHeld => ?_)
   clear hK K
   refine norm_ (a' := ?_) ?_ ?_
   rotate_left
   ·
    show Act.put _ (some 21) _ = _
    simp only [Act.put, sA, sB, sC, i64_w, i32_w]
    rfl
   refine pF 6 7 8 22 ?_
   refine one_ (i := 7) (N := none) (upTo 8 8) rfl rfl (one_of HT_.out (by kernel_rfl)) (by decide) (fun K hK => ?_)
   have hs40 : w37.cell? ⟨gb102, 0, none⟩ = some (.slice none 0 0) := (kC BK102.out 0).trans rfl
   have hfs40 := fZ BK102.out 0
   have hns40_0 := NB101_102.out
   have hms40_0 := NB102_101.out
   have hs41 : w37.cell? ⟨gb102, 1, none⟩ = some (.bool false) := (kC BK102.out 1).trans rfl
   have hfs41 := fZ BK102.out 1
   have hns41_0 := NB101_102.out
   have hms41_0 := NB102_101.out
   have hs42 : w37.cell? ⟨gb102, 2, none⟩ = some (.int .i64 0) := (kC BK102.out 2).trans rfl
   have hfs42 := fZ BK102.out 2
   have hns42_0 := NB101_102.out
   have hms42_0 := NB102_101.out
   refine skip_ (w1 := ?_) (by rfl) rfl ?_ ?_
   rotate_left
   ·
    go_simp
    rfl
   refine hK.out _ _ ⟨(cT NB101_102.out ((cT NB101_102.out ((cT NB101_102.out (hHeld.1)))))), (cT NB101_102.out ((cT NB101_102.out ((cT NB101_102.out (hHeld.2.1)))))), (cT NB101_102.out ((cT NB101_102.out ((cT NB101_102.out (hHeld.2.2.1)))))), (cT NB101_102.out ((cT NB101_102.out ((cT NB101_102.out (hHeld.2.2.2.1)))))), (cT NB101_102.out ((cT NB101_102.out ((cT NB101_102.out (hHeld.2.2.2.2))))))⟩ (fun hHeld => ?_)
   clear hK K
   refine done_ (done_of HT_.out (by kernel_rfl)) ?_
   try go_wp2
   refine bodyPost_ret (results_cell_row rfl _ _ gb102 62 #[.slice Ao39 y119.length co39, .bool true, .int .i64 0] (0, 0) _ rfl (by refine kP (cs := #[.slice Ao39 y119.length co39, .bool true, .int .i64 0]) 2 ?_; refine kP (cs := #[.slice Ao39 y119.length co39, .bool false, .int .i64 0]) 1 ?_; refine kP (cs := #[.slice none 0 0, .bool false, .int .i64 0]) 0 ?_; (with_reducible repeat (first | apply kN | apply kD | apply kA)); exact BK102.out) Try.underlying62 rfl (by kernel_rfl)) rfl ?_
   exact ⟨_, by first | rfl | (simp [*, errW_none, errW_some] <;> rfl), by (with_reducible repeat (first | apply rA | apply rN | apply rD)); exact Kd.R_mono (Kd.R_far (p := ⟨gb102, 2, none⟩) (Kd.R_far (p := ⟨gb102, 1, none⟩) (Kd.R_far (p := ⟨gb102, 0, none⟩) (Kd.R_types HO121.out BK102.out (by decide)) (fun _ hk => hk.2) (.slice Ao39 y119.length co39)) (fun _ hk => hk.2) (.bool true)) (fun _ hk => hk.2) (.int .i64 0)) (fun _ hk => trivial), bX HB.out⟩
  rw [if_neg c24] at H
  exact absurd H (by simp)
 rw [if_neg c23] at H
 exact absurd H (by simp)

/-! ### spec_VoteAdd: function 36 -/

def spec_VoteAdd.f (k : Nat) (l0 : List (S45)) (a1_0 : Int) (a1_1 : Int) (a1_2 : Int) (a1_3 : ByteArray) (a1_4 : Int) : Option ((List (S45)) × Bool × Int) := if (l0.length : Int) > 400 then (some (([] : List (S45)), false, 2)) else ((spec_VotesRight.f k l0).bind fun t103 => (if t103 = true then ((spec_l11Vote.f a1_0 a1_1 a1_2 a1_3 a1_4).bind fun t104 => (if t104 = true then ((spec_l11Add.f k l0 a1_0 a1_1 a1_2 a1_3 a1_4).bind fun bt105 => (some (bt105.1, bt105.2.1, bt105.2.2))) else (some (([] : List (S45)), false, 1)))) else (some (([] : List (S45)), false, 1))))
theorem spec_VoteAdd.mono : ∀ a0 a1 a2 a3 a4 a5 k, LeO (spec_VoteAdd.f k a0 a1 a2 a3 a4 a5) (spec_VoteAdd.f (k + 1) a0 a1 a2 a3 a4 a5) := by
  intro a0 a1 a2 a3 a4 a5 k
  unfold spec_VoteAdd.f
  repeat' first
      | (with_reducible exact spec_VotesRight.mono _ _)
      | (with_reducible exact spec_l11Add.mono _ _ _ _ _ _ _)
      | (with_reducible exact LeO.refl _)
      | (with_reducible exact LeO.none _)
      | (with_reducible refine LeO.ite ?_ ?_)
      | (with_reducible refine LeO.bind ?_ (fun _ => ?_))
      | exact spec_VotesRight.mono _ _
      | exact spec_l11Add.mono _ _ _ _ _ _ _
      | exact LeO.none _
      | refine LeO.ite ?_ ?_
      | refine LeO.bind ?_ (fun _ => ?_)
set_option maxHeartbeats 60000000 in
set_option maxRecDepth 100000 in
theorem spec_VoteAdd.calls (k : Nat) (A0 : Option Addr) (c0 : Nat) (l0 : List (S45)) (a1_0 : Int) (a1_1 : Int) (a1_2 : Int) (a1_3 : ByteArray) (a1_4 : Int) (r1 : List (S45)) (r2 : Bool) (r3 : Int) (w : World) (hr0 : Kd.C k45 w A0 l0.length l0) (hc0 : l0.length ≤ c0) (h : spec_VoteAdd.f k l0 a1_0 a1_1 a1_2 a1_3 a1_4 = some (r1, r2, r3)) :
    Calls Try.prog 36 #[.slice A0 l0.length c0, .agg #[.int .i64 a1_0, .int .i64 a1_1, .int .i64 a1_2, .string a1_3, .int .i64 a1_4]] w fun e w' => ∃ v0_ : Value, e = .returned (.agg #[v0_, .bool r2, .int .i64 r3]) ∧ Kd.R k45 45 w' w.heap.size (fun _ => True) v0_ r1 ∧ Below w.heap.size w w' := by
 have hu45 := Try.underlying45
 have hu62 := Try.underlying62
 have HR0 := AM hr0
 have HC0 := AM hc0
 clear hr0 hc0
 have HB := AM (Below.refl w.heap.size w)
 have H : (if (l0.length : Int) > 400 then (some (([] : List (S45)), false, 2)) else ((spec_VotesRight.f k l0).bind fun t103 => (if t103 = true then ((spec_l11Vote.f a1_0 a1_1 a1_2 a1_3 a1_4).bind fun t104 => (if t104 = true then ((spec_l11Add.f k l0 a1_0 a1_1 a1_2 a1_3 a1_4).bind fun bt105 => (some (bt105.1, bt105.2.1, bt105.2.2))) else (some (([] : List (S45)), false, 1)))) else (some (([] : List (S45)), false, 1))))) = some (r1, r2, r3) := h
 clear h
 by_cases c3 : (l0.length : Int) > 400
 ·
  rw [if_pos c3] at H
  have c3b0 : decide (400 < (l0.length : Int)) = true := decide_eq_true c3
  have c3b1 : decide (400 < l0.length) = true := decide_eq_true (by omega)
  clear c3
  simp only [Option.some.injEq, Prod.mk.injEq] at H
  obtain ⟨rfl, rfl, rfl⟩ := H
  go_enter Try.func36, Try.ntmps36
  go_wp2_with (first | ((with_reducible refine gate_dst (N := 3) rfl ?_); refine box_event (by rfl) (N := 3) (by rfl) (cs := #[.int .i64 a1_0, .int .i64 a1_1, .int .i64 a1_2, .string a1_3, .int .i64 a1_4]) (t := 45) (by first | (go_simp; done) | (go_simp; rfl)) ?_; intro gb101 hg w4 hbox hb; have _ := AM (below_step (bX HB.out) hb); have _ := AM (hbox); have n2_ := AM ((by rw [hg]; exact (bZ (bX HB.out)) : w.heap.size ≤ gb101)); clear HB; rename_i HB BK101; have GW101 := n2_; have GE101 := n2_; clear n2_; clear hb hbox hg) | ((with_reducible refine gate_dst (N := 4) rfl ?_); refine box_event (by rfl) (N := 4) (by rfl) (cs := #[.slice none 0 0, .bool false, .int .i64 0]) (t := 62) (by first | (go_simp; done) | (go_simp; rfl)) ?_; intro gb102 hg w5 hbox hb; have _ := AM (nB BK101.out hb); have _ := AM (below_step (bX HB.out) hb); have _ := AM (hbox); have n3_ := AM ((by rw [hg]; exact (bZ (bX HB.out)) : w.heap.size ≤ gb102)); have _ := AM (lX hg BK101.out); have _ := AM (lX hg BK101.out).symm; clear BK101 HB; rename_i BK101 HB BK102 NB101_102 NB102_101; have GW102 := n3_; have GE102 := n3_; clear n3_; clear hb hbox hg; have hnb6 := NB102_101.out; have hnc6 := NB101_102.out; have hcz7 := q3 BK102.out; have hfz7 := fZ BK102.out))
  refine bodyPost_ret (results_cell_row rfl _ _ gb102 62 #[.slice none 0 0, .bool false, .int .i64 2] (0, 0) _ rfl (by refine kP (cs := #[.slice none 0 0, .bool false, .int .i64 0]) 2 ?_; refine kP (cs := #[.slice none 0 0, .bool false, .int .i64 0]) 1 ?_; refine kP (cs := #[.slice none 0 0, .bool false, .int .i64 0]) 0 ?_; (with_reducible repeat (first | apply kN | apply kD | apply kA)); exact BK102.out) Try.underlying62 rfl (by kernel_rfl)) rfl ?_
  exact ⟨_, by first | rfl | (simp [*, errW_none, errW_some] <;> rfl), by first | exact Kd.R_nil _ _ _ _ _ | exact Kd.N_nil _ _ _ _ _ | exact Kd.V_nil _ _ _ _ _ | exact Kd.Q_nil _ _ _ _ _ | exact Kd.S_nil _ _ _ _ _, bX HB.out⟩
 rw [if_neg c3] at H
 have c3b0 : decide (400 < (l0.length : Int)) = false := decide_eq_false c3
 have c3b1 : decide (400 < l0.length) = false := decide_eq_false (by omega)
 clear c3
 replace H := Option.bind_eq_some_iff.mp H
 obtain ⟨t103, A80, H⟩ := H
 replace H : (if t103 = true then ((spec_l11Vote.f a1_0 a1_1 a1_2 a1_3 a1_4).bind fun t104 => (if t104 = true then ((spec_l11Add.f k l0 a1_0 a1_1 a1_2 a1_3 a1_4).bind fun bt105 => (some (bt105.1, bt105.2.1, bt105.2.2))) else (some (([] : List (S45)), false, 1)))) else (some (([] : List (S45)), false, 1))) = some (r1, r2, r3) := H
 have A8 := AM A80
 clear A80
 by_cases c9 : t103 = true
 ·
  subst c9
  have H1 : ((spec_l11Vote.f a1_0 a1_1 a1_2 a1_3 a1_4).bind fun t104 => (if t104 = true then ((spec_l11Add.f k l0 a1_0 a1_1 a1_2 a1_3 a1_4).bind fun bt105 => (some (bt105.1, bt105.2.1, bt105.2.2))) else (some (([] : List (S45)), false, 1)))) = some (r1, r2, r3) := by rw [if_pos rfl] at H; exact H
  clear H
  have H := H1
  clear H1
  replace H := Option.bind_eq_some_iff.mp H
  obtain ⟨t104, A100, H⟩ := H
  replace H : (if t104 = true then ((spec_l11Add.f k l0 a1_0 a1_1 a1_2 a1_3 a1_4).bind fun bt105 => (some (bt105.1, bt105.2.1, bt105.2.2))) else (some (([] : List (S45)), false, 1))) = some (r1, r2, r3) := H
  have A10 := AM A100
  clear A100
  by_cases c11 : t104 = true
  ·
   subst c11
   have H1 : ((spec_l11Add.f k l0 a1_0 a1_1 a1_2 a1_3 a1_4).bind fun bt105 => (some (bt105.1, bt105.2.1, bt105.2.2))) = some (r1, r2, r3) := by rw [if_pos rfl] at H; exact H
   clear H
   have H := H1
   clear H1
   replace H := Option.bind_eq_some_iff.mp H
   obtain ⟨⟨t105, t108, t109⟩, A120, H⟩ := H
   try dsimp only at H
   have A12 := AM A120
   clear A120
   simp only [Option.some.injEq, Prod.mk.injEq] at H
   obtain ⟨rfl, rfl, rfl⟩ := H
   go_enter Try.func36, Try.ntmps36
   go_wp2_with (first | ((with_reducible refine gate_dst (N := 3) rfl ?_); refine box_event (by rfl) (N := 3) (by rfl) (cs := #[.int .i64 a1_0, .int .i64 a1_1, .int .i64 a1_2, .string a1_3, .int .i64 a1_4]) (t := 45) (by first | (go_simp; done) | (go_simp; rfl)) ?_; intro gb101 hg w13 hbox hb; have _ := AM (below_step (bX HB.out) hb); have _ := AM (hbox); have n2_ := AM ((by rw [hg]; exact (bZ (bX HB.out)) : w.heap.size ≤ gb101)); clear HB; rename_i HB BK101; have GW101 := n2_; have GE101 := n2_; clear n2_; clear hb hbox hg) | ((with_reducible refine gate_dst (N := 4) rfl ?_); refine box_event (by rfl) (N := 4) (by rfl) (cs := #[.slice none 0 0, .bool false, .int .i64 0]) (t := 62) (by first | (go_simp; done) | (go_simp; rfl)) ?_; intro gb102 hg w14 hbox hb; have _ := AM (nB BK101.out hb); have _ := AM (below_step (bX HB.out) hb); have _ := AM (hbox); have n3_ := AM ((by rw [hg]; exact (bZ (bX HB.out)) : w.heap.size ≤ gb102)); have _ := AM (lX hg BK101.out); have _ := AM (lX hg BK101.out).symm; clear BK101 HB; rename_i BK101 HB BK102 NB101_102 NB102_101; have GW102 := n3_; have GE102 := n3_; clear n3_; clear hb hbox hg) | ((with_reducible refine gate_callee (f := 27) rfl ?_); refine goesL_ (some 10) rfl rfl Try.func27 (by kernel_rfl) rfl #[.slice A0 l0.length c0] rfl (by (try simp only [mA, mB, mC]); first | done | rfl | (simp only [mD, mE]; rfl)) ?_; (with_reducible refine (spec_VotesRight.calls k _ _ l0 true _ ?side1 ?side2 A8.out).mono ?_); (case side1 => repeat (first | exact (cB HR0.out HB.out) | (with_reducible first | apply cA | apply cN | apply cD))); (case side2 => exact HC0.out); rintro e w15 ⟨rfl, hb⟩; refine ⟨_, rfl, ?_⟩; have _ := AM (nB BK101.out hb); have _ := AM (nB BK102.out hb); have _ := AM (below_step (bX HB.out) hb); clear BK101 BK102 HB; rename_i BK101 BK102 HB; (try clear hb); (try clear hk); have hnb16 := NB101_102.out; have hnc16 := NB102_101.out; have hcz17 := q5 BK101.out; have hfz17 := fZ BK101.out) | (go_at_call 42; (with_reducible refine (spec_l11Vote.calls a1_0 a1_1 a1_2 a1_3 a1_4 true _ A10.out).mono ?_); rintro e w18 ⟨rfl, hb⟩; have _ := AM (nB BK101.out hb); have _ := AM (nB BK102.out hb); have _ := AM (below_step (bX HB.out) hb); clear BK101 BK102 HB; rename_i BK101 BK102 HB; (try clear hb); (try clear hk); have hcz19 := q5 BK101.out; have hfz19 := fZ BK101.out) | ((with_reducible refine gate_callee (f := 49) rfl ?_); refine goesL_ (some 20) rfl rfl Try.func49 (by kernel_rfl) rfl #[.slice A0 l0.length c0, .agg #[.int .i64 a1_0, .int .i64 a1_1, .int .i64 a1_2, .string a1_3, .int .i64 a1_4]] rfl (by (try simp only [mA, mB, mC]); first | done | rfl | (simp only [mD, mE]; rfl)) ?_; (with_reducible refine (spec_l11Add.calls k _ _ l0 a1_0 a1_1 a1_2 a1_3 a1_4 t105 t108 t109 _ ?side1 ?side2 A12.out).mono ?_); (case side1 => repeat (first | exact (cB HR0.out HB.out) | (with_reducible first | apply cA | apply cN | apply cD))); (case side2 => exact HC0.out); rintro e w20 ⟨v106, rfl, ho0, hb⟩; refine ⟨_, rfl, ?_⟩; have _ := AM (Kd.R_lower (Kd.R_newB ho0 (g := gb101) (o := .cells #[.int .i64 a1_0, .int .i64 a1_1, .int .i64 a1_2, .string a1_3, .int .i64 a1_4] 45 (0, 0)) (kX BK101.out)) (bZ (bX HB.out))); have _ := AM (nB BK101.out hb); have _ := AM (nB BK102.out hb); have _ := AM (below_step (bX HB.out) hb); clear BK101 BK102 HB; rename_i HO107 BK101 BK102 HB; (try clear hb); (try clear hk); (try clear ho0); obtain ⟨Ao21, co21, eo21⟩ := Kd.R_slice HO107.out; subst eo21; have hcz22 := q3 BK102.out; have hfz22 := fZ BK102.out))
   refine bodyPost_ret (results_cell_row rfl _ _ gb102 62 #[.slice Ao21 t105.length co21, .bool t108, .int .i64 t109] (0, 0) _ rfl (by refine kP (cs := #[.slice Ao21 t105.length co21, .bool t108, .int .i64 0]) 2 ?_; refine kP (cs := #[.slice Ao21 t105.length co21, .bool false, .int .i64 0]) 1 ?_; refine kP (cs := #[.slice none 0 0, .bool false, .int .i64 0]) 0 ?_; (with_reducible repeat (first | apply kN | apply kD | apply kA)); exact BK102.out) Try.underlying62 rfl (by kernel_rfl)) rfl ?_
   exact ⟨_, by first | rfl | (simp [*, errW_none, errW_some] <;> rfl), by (with_reducible repeat (first | apply rA | apply rN | apply rD)); exact Kd.R_mono (Kd.R_far (p := ⟨gb102, 2, none⟩) (Kd.R_far (p := ⟨gb102, 1, none⟩) (Kd.R_far (p := ⟨gb102, 0, none⟩) (Kd.R_types HO107.out BK102.out (by decide)) (fun _ hk => hk.2) (.slice Ao21 t105.length co21)) (fun _ hk => hk.2) (.bool t108)) (fun _ hk => hk.2) (.int .i64 t109)) (fun _ hk => trivial), bX HB.out⟩
  replace c11 := Bool.eq_false_iff.mpr c11
  subst c11
  have H1 : (some (([] : List (S45)), false, 1)) = some (r1, r2, r3) := by rw [if_neg (show ¬ (false = true) by decide)] at H; exact H
  clear H
  have H := H1
  clear H1
  simp only [Option.some.injEq, Prod.mk.injEq] at H
  obtain ⟨rfl, rfl, rfl⟩ := H
  go_enter Try.func36, Try.ntmps36
  go_wp2_with (first | ((with_reducible refine gate_dst (N := 3) rfl ?_); refine box_event (by rfl) (N := 3) (by rfl) (cs := #[.int .i64 a1_0, .int .i64 a1_1, .int .i64 a1_2, .string a1_3, .int .i64 a1_4]) (t := 45) (by first | (go_simp; done) | (go_simp; rfl)) ?_; intro gb101 hg w23 hbox hb; have _ := AM (below_step (bX HB.out) hb); have _ := AM (hbox); have n2_ := AM ((by rw [hg]; exact (bZ (bX HB.out)) : w.heap.size ≤ gb101)); clear HB; rename_i HB BK101; have GW101 := n2_; have GE101 := n2_; clear n2_; clear hb hbox hg) | ((with_reducible refine gate_dst (N := 4) rfl ?_); refine box_event (by rfl) (N := 4) (by rfl) (cs := #[.slice none 0 0, .bool false, .int .i64 0]) (t := 62) (by first | (go_simp; done) | (go_simp; rfl)) ?_; intro gb102 hg w24 hbox hb; have _ := AM (nB BK101.out hb); have _ := AM (below_step (bX HB.out) hb); have _ := AM (hbox); have n3_ := AM ((by rw [hg]; exact (bZ (bX HB.out)) : w.heap.size ≤ gb102)); have _ := AM (lX hg BK101.out); have _ := AM (lX hg BK101.out).symm; clear BK101 HB; rename_i BK101 HB BK102 NB101_102 NB102_101; have GW102 := n3_; have GE102 := n3_; clear n3_; clear hb hbox hg) | ((with_reducible refine gate_callee (f := 27) rfl ?_); refine goesL_ (some 10) rfl rfl Try.func27 (by kernel_rfl) rfl #[.slice A0 l0.length c0] rfl (by (try simp only [mA, mB, mC]); first | done | rfl | (simp only [mD, mE]; rfl)) ?_; (with_reducible refine (spec_VotesRight.calls k _ _ l0 true _ ?side1 ?side2 A8.out).mono ?_); (case side1 => repeat (first | exact (cB HR0.out HB.out) | (with_reducible first | apply cA | apply cN | apply cD))); (case side2 => exact HC0.out); rintro e w25 ⟨rfl, hb⟩; refine ⟨_, rfl, ?_⟩; have _ := AM (nB BK101.out hb); have _ := AM (nB BK102.out hb); have _ := AM (below_step (bX HB.out) hb); clear BK101 BK102 HB; rename_i BK101 BK102 HB; (try clear hb); (try clear hk); have hnb26 := NB101_102.out; have hnc26 := NB102_101.out; have hcz27 := q5 BK101.out; have hfz27 := fZ BK101.out) | (go_at_call 42; (with_reducible refine (spec_l11Vote.calls a1_0 a1_1 a1_2 a1_3 a1_4 false _ A10.out).mono ?_); rintro e w28 ⟨rfl, hb⟩; have _ := AM (nB BK101.out hb); have _ := AM (nB BK102.out hb); have _ := AM (below_step (bX HB.out) hb); clear BK101 BK102 HB; rename_i BK101 BK102 HB; (try clear hb); (try clear hk); have hcz29 := q3 BK102.out; have hfz29 := fZ BK102.out))
  refine bodyPost_ret (results_cell_row rfl _ _ gb102 62 #[.slice none 0 0, .bool false, .int .i64 1] (0, 0) _ rfl (by refine kP (cs := #[.slice none 0 0, .bool false, .int .i64 0]) 2 ?_; refine kP (cs := #[.slice none 0 0, .bool false, .int .i64 0]) 1 ?_; refine kP (cs := #[.slice none 0 0, .bool false, .int .i64 0]) 0 ?_; (with_reducible repeat (first | apply kN | apply kD | apply kA)); exact BK102.out) Try.underlying62 rfl (by kernel_rfl)) rfl ?_
  exact ⟨_, by first | rfl | (simp [*, errW_none, errW_some] <;> rfl), by first | exact Kd.R_nil _ _ _ _ _ | exact Kd.N_nil _ _ _ _ _ | exact Kd.V_nil _ _ _ _ _ | exact Kd.Q_nil _ _ _ _ _ | exact Kd.S_nil _ _ _ _ _, bX HB.out⟩
 replace c9 := Bool.eq_false_iff.mpr c9
 subst c9
 have H1 : (some (([] : List (S45)), false, 1)) = some (r1, r2, r3) := by rw [if_neg (show ¬ (false = true) by decide)] at H; exact H
 clear H
 have H := H1
 clear H1
 simp only [Option.some.injEq, Prod.mk.injEq] at H
 obtain ⟨rfl, rfl, rfl⟩ := H
 go_enter Try.func36, Try.ntmps36
 go_wp2_with (first | ((with_reducible refine gate_dst (N := 3) rfl ?_); refine box_event (by rfl) (N := 3) (by rfl) (cs := #[.int .i64 a1_0, .int .i64 a1_1, .int .i64 a1_2, .string a1_3, .int .i64 a1_4]) (t := 45) (by first | (go_simp; done) | (go_simp; rfl)) ?_; intro gb101 hg w30 hbox hb; have _ := AM (below_step (bX HB.out) hb); have _ := AM (hbox); have n2_ := AM ((by rw [hg]; exact (bZ (bX HB.out)) : w.heap.size ≤ gb101)); clear HB; rename_i HB BK101; have GW101 := n2_; have GE101 := n2_; clear n2_; clear hb hbox hg) | ((with_reducible refine gate_dst (N := 4) rfl ?_); refine box_event (by rfl) (N := 4) (by rfl) (cs := #[.slice none 0 0, .bool false, .int .i64 0]) (t := 62) (by first | (go_simp; done) | (go_simp; rfl)) ?_; intro gb102 hg w31 hbox hb; have _ := AM (nB BK101.out hb); have _ := AM (below_step (bX HB.out) hb); have _ := AM (hbox); have n3_ := AM ((by rw [hg]; exact (bZ (bX HB.out)) : w.heap.size ≤ gb102)); have _ := AM (lX hg BK101.out); have _ := AM (lX hg BK101.out).symm; clear BK101 HB; rename_i BK101 HB BK102 NB101_102 NB102_101; have GW102 := n3_; have GE102 := n3_; clear n3_; clear hb hbox hg) | ((with_reducible refine gate_callee (f := 27) rfl ?_); refine goesL_ (some 10) rfl rfl Try.func27 (by kernel_rfl) rfl #[.slice A0 l0.length c0] rfl (by (try simp only [mA, mB, mC]); first | done | rfl | (simp only [mD, mE]; rfl)) ?_; (with_reducible refine (spec_VotesRight.calls k _ _ l0 false _ ?side1 ?side2 A8.out).mono ?_); (case side1 => repeat (first | exact (cB HR0.out HB.out) | (with_reducible first | apply cA | apply cN | apply cD))); (case side2 => exact HC0.out); rintro e w32 ⟨rfl, hb⟩; refine ⟨_, rfl, ?_⟩; have _ := AM (nB BK101.out hb); have _ := AM (nB BK102.out hb); have _ := AM (below_step (bX HB.out) hb); clear BK101 BK102 HB; rename_i BK101 BK102 HB; (try clear hb); (try clear hk); have hnb33 := NB102_101.out; have hnc33 := NB101_102.out; have hcz34 := q3 BK102.out; have hfz34 := fZ BK102.out))
 refine bodyPost_ret (results_cell_row rfl _ _ gb102 62 #[.slice none 0 0, .bool false, .int .i64 1] (0, 0) _ rfl (by refine kP (cs := #[.slice none 0 0, .bool false, .int .i64 0]) 2 ?_; refine kP (cs := #[.slice none 0 0, .bool false, .int .i64 0]) 1 ?_; refine kP (cs := #[.slice none 0 0, .bool false, .int .i64 0]) 0 ?_; (with_reducible repeat (first | apply kN | apply kD | apply kA)); exact BK102.out) Try.underlying62 rfl (by kernel_rfl)) rfl ?_
 exact ⟨_, by first | rfl | (simp [*, errW_none, errW_some] <;> rfl), by first | exact Kd.R_nil _ _ _ _ _ | exact Kd.N_nil _ _ _ _ _ | exact Kd.V_nil _ _ _ _ _ | exact Kd.Q_nil _ _ _ _ _ | exact Kd.S_nil _ _ _ _ _, bX HB.out⟩

/-! ### spec_l01Src_l11Votes: function 19 -/

def spec_l01Src_l11Votes.l0 : Nat → List (S45) → Int → List Int → Int → Int → Int → Option ((List (S45)) × Int × Int × Int)
  | 0, _, _, _, _, _, _ => none
  | k + 1, x3, x4, x1000, x1001, x1002, x1003 => if x4 > 0 then ((spec_l01Src_l11Some.f x1000 x1001 x1002 x1003).bind fun bt108 => ((spec_VoteAdd.f k x3 bt108.1 bt108.2.1 bt108.2.2.1 bt108.2.2.2.1 bt108.2.2.2.2.1).bind fun bt116 => (if bt116.2.2 = 0 then (spec_l01Src_l11Votes.l0 k bt116.1 (wrap64 (x4 - 1)) x1000 bt108.2.2.2.2.2.1 bt108.2.2.2.2.2.2.1 bt108.2.2.2.2.2.2.2) else (spec_l01Src_l11Votes.l0 k x3 (wrap64 (x4 - 1)) x1000 bt108.2.2.2.2.2.1 bt108.2.2.2.2.2.2.1 bt108.2.2.2.2.2.2.2)))) else ((spec_l01Src_one.f x1000 x1001 x1002 x1003 25).bind fun bt122 => (if bt122.1 = true then ((spec_l01Src_l11Some.f x1000 bt122.2.1 bt122.2.2.1 bt122.2.2.2).bind fun bt126 => (if x3.length < 2932031007402 then (some ((x3 ++ [(⟨bt126.1, bt126.2.1, bt126.2.2.1, bt126.2.2.2.1, bt126.2.2.2.2.1⟩ : S45)]), bt126.2.2.2.2.2.1, bt126.2.2.2.2.2.2.1, bt126.2.2.2.2.2.2.2)) else (none))) else (some (x3, bt122.2.1, bt122.2.2.1, bt122.2.2.2))))
def spec_l01Src_l11Votes.f (k : Nat) (s0_0 : List Int) (s0_1 : Int) (s0_2 : Int) (s0_3 : Int) : Option ((List (S45)) × Int × Int × Int) := (spec_l01Src_n.f s0_0 s0_1 s0_2 s0_3 30).bind fun bt104 => (spec_l01Src_l11Votes.l0 k (([] : List (S45))) bt104.1 s0_0 bt104.2.1 bt104.2.2.1 bt104.2.2.2)
theorem spec_l01Src_l11Votes.mono_l : ∀ k, (∀ y0 y1 y2 y3 y4 y5, LeO (spec_l01Src_l11Votes.l0 k y0 y1 y2 y3 y4 y5) (spec_l01Src_l11Votes.l0 (k + 1) y0 y1 y2 y3 y4 y5))
  | 0 => fun _ _ _ _ _ _ r h => by simp [spec_l01Src_l11Votes.l0] at h
  | k + 1 => by
    have ih0 := spec_l01Src_l11Votes.mono_l k
    · intro y0 y1 y2 y3 y4 y5
      unfold spec_l01Src_l11Votes.l0
      repeat' first
      | (with_reducible exact ih0 _ _ _ _ _ _)
      | (with_reducible exact spec_VoteAdd.mono _ _ _ _ _ _ _)
      | (with_reducible exact LeO.refl _)
      | (with_reducible exact LeO.none _)
      | (with_reducible refine LeO.ite ?_ ?_)
      | (with_reducible refine LeO.bind ?_ (fun _ => ?_))
      | exact ih0 _ _ _ _ _ _
      | exact spec_VoteAdd.mono _ _ _ _ _ _ _
      | exact LeO.none _
      | refine LeO.ite ?_ ?_
      | refine LeO.bind ?_ (fun _ => ?_)
theorem spec_l01Src_l11Votes.mono : ∀ a0 a1 a2 a3 k, LeO (spec_l01Src_l11Votes.f k a0 a1 a2 a3) (spec_l01Src_l11Votes.f (k + 1) a0 a1 a2 a3) := by
  intro a0 a1 a2 a3 k
  have ih0 := spec_l01Src_l11Votes.mono_l k
  unfold spec_l01Src_l11Votes.f
  repeat' first
      | (with_reducible exact ih0 _ _ _ _ _ _)
      | (with_reducible exact spec_VoteAdd.mono _ _ _ _ _ _ _)
      | (with_reducible exact LeO.refl _)
      | (with_reducible exact LeO.none _)
      | (with_reducible refine LeO.ite ?_ ?_)
      | (with_reducible refine LeO.bind ?_ (fun _ => ?_))
      | exact ih0 _ _ _ _ _ _
      | exact spec_VoteAdd.mono _ _ _ _ _ _ _
      | exact LeO.none _
      | refine LeO.ite ?_ ?_
      | refine LeO.bind ?_ (fun _ => ?_)
theorem bI60_0_spec_l01Src_l11Votes {n : Nat} {w W W' : World} (h : Below n w W) (f : Below n w W → Below n w W' := by intro h_; repeat (first | (with_reducible first | exact h_ | apply bA | apply bN | apply bD | refine bS ?_ (IsS60.ge HI0.out) | refine bS ?_ (Aside0.out (by assumption))) | exact h_)) : Below n w W' := f h
theorem iX60_6_spec_l01Src_l11Votes {p q : Prop} (h : p) (f : p → q := by intro h_; repeat (first | (with_reducible first | exact h_ | apply IsS60.alloc | apply IsS60.drewN | apply IsS60.drew | apply IsS60.set_1 | apply IsS60.set_2 | apply IsS60.set_3 | refine IsS60.far ?_ (Aside0.out (by assumption)) _) | exact h_)) : q := f h
set_option maxHeartbeats 60000000 in
set_option maxRecDepth 100000 in
theorem spec_l01Src_l11Votes.calls (k : Nat) (g : Nat) (s0_0 : List Int) (s0_1 : Int) (s0_2 : Int) (s0_3 : Int) (r1 : List (S45)) (r2 : Int) (r3 : Int) (r4 : Int) (w0 w : World) (hI : IsS60 w0 w g s0_0 s0_1 s0_2 s0_3) (hB : Below w0.heap.size w0 w) (h : spec_l01Src_l11Votes.f k s0_0 s0_1 s0_2 s0_3 = some (r1, r2, r3, r4)) :
    Calls Try.prog 19 #[.pointer (some ⟨g, 0, none⟩)] w fun e w' => ∃ v0_ : Value, e = .returned (v0_) ∧ Kd.R k45 45 w' w.heap.size (fun _ => True) v0_ r1 ∧ IsS60 w0 w' g s0_0 r2 r3 r4 ∧ Below w0.heap.size w0 w' ∧ KeepBut w w' g none := by
 have hu62 := Try.underlying62
 have HI0 := AM hI
 have HK := AM (KeepBut.refl w g none)
 have HL := AM hB.size
 clear hI
 have HW0 := AM hB.size
 have HB := AM hB
 clear hB
 have H : ((spec_l01Src_n.f s0_0 s0_1 s0_2 s0_3 30).bind fun bt104 => (spec_l01Src_l11Votes.l0 k (([] : List (S45))) bt104.1 s0_0 bt104.2.1 bt104.2.2.1 bt104.2.2.2)) = some (r1, r2, r3, r4) := h
 clear h
 obtain ⟨y101, hy101⟩ : ∃ y_ : List (S45), y_ = (([] : List (S45))) := ⟨_, rfl⟩
 replace H : ((spec_l01Src_n.f s0_0 s0_1 s0_2 s0_3 30).bind fun bt104 => (spec_l01Src_l11Votes.l0 k y101 bt104.1 s0_0 bt104.2.1 bt104.2.2.1 bt104.2.2.2)) = some (r1, r2, r3, r4) := by first | (rw [hy101]; with_reducible exact H) | (have H2_ := (Option.bind_some _ _).symm.trans H; rw [hy101]; with_reducible exact H2_) | (have H2_ := (Option.bind_some _ _).symm.trans H; with_reducible exact H2_) | with_reducible exact H | (rw [hy101]; exact H) | exact H
 have Ny101 := AM hy101
 clear hy101
 replace H := Option.bind_eq_some_iff.mp H
 obtain ⟨⟨t104, t105, t106, t107⟩, A20, H⟩ := H
 try dsimp only at H
 have A2 := AM A20
 clear A20
 have H' := AM H
 clear H
 go_enter Try.func19, Try.ntmps19
 go_wp2_with (first | ((with_reducible refine gate_dst (N := 6) rfl ?_); refine Kd.R_lit k45 _ 45 ?hg (N := 6) ?hd (xs := ([] : List (S45))) (inner := []) (ok := fun _ => True) (okp := fun _ => True) ?hr ?hp (fun _ hk => hk) trivial (Below.refl _ _) (Nat.le_refl _) (by simp) ?_; (case hd => rfl); (case hg => rfl); (case hr => first | (go_simp; done) | (go_simp; rfl)); (case hp => exact (Reps.none _ _)); intro v102 w3 ho4 hb hg_ hnew_; clear hg_ hnew_; (first | rw [← Ny101.out] at ho4 | (simp only [Int.reduceToNat] at ho4; rw [← Ny101.out] at ho4)); have _ := AM (Kd.R_lower ho4 (keep_size (w := w) (g := g) (row := none) (hX HK.out))); have _ := AM (IsS60.below (iX60_6_spec_l01Src_l11Votes HI0.out) hb); have _ := AM (KeepBut.trans (hX HK.out) (KeepBut.of_below hb g none) (.inl rfl)); have _ := AM (below_step (bI60_0_spec_l01Src_l11Votes HB.out) hb); clear HI0 HK HB; rename_i HO103 HI0 HK HB; clear hb ho4) | ((with_reducible refine gate_callee (f := 25) rfl ?_); refine goesL_ (some 8) rfl rfl Try.func25 (by kernel_rfl) rfl #[.pointer (some ⟨g, 0, none⟩), .int .i64 30] rfl (by (try simp only [mA, mB, mC]); first | done | rfl | (simp only [mD, mE]; rfl)) ?_; (with_reducible refine (spec_l01Src_n.calls g s0_0 s0_1 s0_2 s0_3 30 t104 t105 t106 t107 w0 _ ?side1 ?side2 A2.out).mono ?_); (case side1 => exact (iX60_6_spec_l01Src_l11Votes HI0.out)); (case side2 => exact (bI60_0_spec_l01Src_l11Votes HB.out)); rintro e w5 ⟨rfl, hi, hb, hk⟩; refine ⟨_, rfl, ?_⟩; have _ := AM (Kd.R_mono (Kd.R_keep (IsS60.apart (show IsS60 w0 _ g s0_0 s0_1 s0_2 s0_3 from iX60_6_spec_l01Src_l11Votes HI0.out) (rX HO103.out) (by decide)) hk (fun _ h => h.2)) (fun _ h => h.1)); have _ := AM (KeepBut.trans (hX HK.out) hk (.inl rfl)); have _ := AM (hb); have _ := AM (hi); clear HO103 HK HB HI0; rename_i HO103 HK HB HI0; (try clear hb); (try clear hb2); (try clear hk); (try clear hi)))
 go_loopg [3, 4] k (fun kq v3 v4 w' => ∃ (x3_1 : List (S45)) (x4_1 : Int) (x1001_1 : Int) (x1002_1 : Int) (x1003_1 : Int), v4 = .int .i64 x4_1 ∧ Aside0 (spec_l01Src_l11Votes.l0 kq x3_1 x4_1 s0_0 x1001_1 x1002_1 x1003_1 = some (r1, r2, r3, r4)) ∧ Aside0 (kq ≤ k) ∧ Aside0 (Kd.R k45 45 w' w.heap.size (fun _ => True) v3 x3_1) ∧ Aside0 (IsS60 w0 w' g s0_0 x1001_1 x1002_1 x1003_1) ∧ Aside0 (KeepBut w w' g none) ∧ Aside0 (Below w0.heap.size w0 w'))
 case atStart => exact ⟨(y101), (t104), (t105), (t106), (t107), (by first | rfl | (simp; done) | (simp [*]; done)), H', ⟨Nat.le_refl _⟩, ⟨rX HO103.out⟩, ⟨iX60_6_spec_l01Src_l11Votes HI0.out⟩, ⟨hX HK.out⟩, ⟨bI60_0_spec_l01Src_l11Votes HB.out⟩⟩
 case round =>
  clear H'
  (try clear c1); (try clear c2); (try clear p2)
  obtain ⟨x3_1, x4_1, x1001_1, x1002_1, x1003_1, rfl, HA, HK1, HO_3, HI0, HK, HB⟩ := hrel
  cases gk with
  | zero => exact absurd HA.out (by simp [spec_l01Src_l11Votes.l0])
  | succ k1 =>
   have H := HA.out
   clear HA
   simp only [spec_l01Src_l11Votes.l0] at H
   by_cases c6 : x4_1 > 0
   ·
    rw [if_pos c6] at H
    have c6b0 : decide (0 < x4_1) = true := decide_eq_true c6
    clear c6
    replace H := Option.bind_eq_some_iff.mp H
    obtain ⟨⟨t108, t109, t110, t111, t112, t113, t114, t115⟩, A70, H⟩ := H
    try dsimp only at H
    have A7 := AM A70
    clear A70
    replace H := Option.bind_eq_some_iff.mp H
    obtain ⟨⟨t116, t119, t120⟩, A80, H⟩ := H
    try dsimp only at H
    have A8 := AM A80
    clear A80
    by_cases c9 : t120 = 0
    ·
     rw [if_pos c9] at H
     have c9b0 : (t120 == 0) = true := beq_iff_eq.mpr c9
     have c9b1 : (t120 != 0) = false := bne_eq_false_iff_eq.mpr c9
     clear c9
     have H' := AM H
     clear H
     go_wp2_with (first | ((with_reducible refine gate_callee (f := 20) rfl ?_); refine goesL_ (some 15) rfl rfl Try.func20 (by kernel_rfl) rfl #[.pointer (some ⟨g, 0, none⟩)] rfl (by (try simp only [mA, mB, mC]); first | done | rfl | (simp only [mD, mE]; rfl)) ?_; (with_reducible refine (spec_l01Src_l11Some.calls g s0_0 x1001_1 x1002_1 x1003_1 t108 t109 t110 t111 t112 t113 t114 t115 w0 _ ?side1 ?side2 A7.out).mono ?_); (case side1 => exact (iX60_6_spec_l01Src_l11Votes HI0.out)); (case side2 => exact (bI60_0_spec_l01Src_l11Votes HB.out)); rintro e w10 ⟨rfl, hi, hb, hk⟩; refine ⟨_, rfl, ?_⟩; have _ := AM (Kd.R_mono (Kd.R_keep (IsS60.apart (show IsS60 w0 _ g s0_0 x1001_1 x1002_1 x1003_1 from iX60_6_spec_l01Src_l11Votes HI0.out) (rX HO_3.out) (by decide)) hk (fun _ h => h.2)) (fun _ h => h.1)); have _ := AM (KeepBut.trans (hX HK.out) hk (.inl rfl)); have _ := AM (hb); have _ := AM (hi); clear HO_3 HK HB HI0; rename_i HO_3 HK HB HI0; (try clear hb); (try clear hb2); (try clear hk); (try clear hi); obtain ⟨Ao11, co11, eo11⟩ := Kd.R_slice HO_3.out; subst eo11) | ((with_reducible refine gate_callee (f := 36) rfl ?_); refine goesL_ (some 16) rfl rfl Try.func36 (by kernel_rfl) rfl #[.slice Ao11 x3_1.length co11, .agg #[.int .i64 t108, .int .i64 t109, .int .i64 t110, .string t111, .int .i64 t112]] rfl (by (try simp only [mA, mB, mC]); first | done | rfl | (simp only [mD, mE]; rfl)) ?_; (with_reducible refine (spec_VoteAdd.calls k1 _ _ x3_1 t108 t109 t110 t111 t112 t116 t119 t120 _ ?side1 ?side2 A8.out).mono ?_); (case side1 => repeat (first | exact (Kd.R_reads' HO_3.out).2.2 | (with_reducible first | apply cA | apply cN | apply cD))); (case side2 => exact (Kd.R_reads' HO_3.out).2.1); rintro e w12 ⟨v117, rfl, ho0, hb⟩; refine ⟨_, rfl, ?_⟩; have _ := AM (Kd.R_elder' (rX HO_3.out) (Kd.R_base ho0) hb); have _ := AM (Kd.R_lower (Kd.R_new' ho0 (Kd.R_lt (rX HO_3.out))) (keep_size (w := w) (g := g) (row := none) (hX HK.out))); have _ := AM (IsS60.below (iX60_6_spec_l01Src_l11Votes HI0.out) hb); have _ := AM (KeepBut.trans (hX HK.out) (KeepBut.of_below hb g none) (.inl rfl)); have _ := AM (below_step (bI60_0_spec_l01Src_l11Votes HB.out) hb); clear HO_3 HI0 HK HB; rename_i HO_3 HO118 HI0 HK HB; (try clear hb); (try clear hb2); (try clear hk); (try clear hi); (try clear ho0)) | ((with_reducible refine gate_dst (N := 5) rfl ?_); refine box_event (by rfl) (N := 5) (by rfl) (cs := #[.slice none 0 0, .bool false, .int .i64 0]) (t := 62) (by first | (go_simp; done) | (go_simp; rfl)) ?_; intro gb121 hg w13 hbox hb; have _ := AM (Kd.R_below (rX HO_3.out) hb); have _ := AM (Kd.R_below (rX HO118.out) hb); have _ := AM (IsS60.below (iX60_6_spec_l01Src_l11Votes HI0.out) hb); have _ := AM (KeepBut.trans (hX HK.out) (KeepBut.of_below hb g none) (.inl rfl)); have _ := AM (below_step (bI60_0_spec_l01Src_l11Votes HB.out) hb); have _ := AM (hbox); have _ := AM ((by rw [hg]; exact (keep_size (w := w) (g := g) (row := none) (hX HK.out)) : w.heap.size ≤ gb121)); have _ := AM ((Nat.le_trans HW0.out (by rw [hg]; exact (keep_size (w := w) (g := g) (row := none) (hX HK.out)) : w.heap.size ≤ gb121) : w0.heap.size ≤ gb121)); have _ := AM ((by rw [hg]; exact Nat.ne_of_lt (IsS60.lt (show IsS60 w0 _ g s0_0 t113 t114 t115 from iX60_6_spec_l01Src_l11Votes HI0.out)) : g ≠ gb121)); have _ := AM ((by rw [hg]; exact Nat.ne_of_gt (IsS60.lt (show IsS60 w0 _ g s0_0 t113 t114 t115 from iX60_6_spec_l01Src_l11Votes HI0.out)) : gb121 ≠ g)); clear HO_3 HO118 HI0 HK HB; rename_i HO_3 HO118 HI0 HK HB BK121 GW121 GE121 NB0_121 NB121_0; clear hb hbox hg; obtain ⟨Ao14, co14, eo14⟩ := Kd.R_slice HO118.out; subst eo14; have hnb15 := NB121_0.out; have hnc15 := NB0_121.out; have hcz16 := q3 BK121.out; have hfz16 := fZ BK121.out))
     go_roundg k1
     case measure => have := HK1.out; omega
     case rel => exact ⟨(t116), (wrap64 (x4_1 - 1)), (t113), (t114), (t115), (by first | rfl | (simp; done) | (simp [*]; done)), H', ⟨by have := HK1.out; omega⟩, ⟨by (with_reducible repeat (first | apply rA | apply rN | apply rD)); exact Kd.R_mono (Kd.R_far (p := ⟨gb121, 2, none⟩) (Kd.R_far (p := ⟨gb121, 1, none⟩) (Kd.R_far (p := ⟨gb121, 0, none⟩) (Kd.R_types HO118.out BK121.out (by decide)) (fun _ hk => hk.2) (.slice Ao14 t116.length co14)) (fun _ hk => hk.2) (.bool t119)) (fun _ hk => hk.2) (.int .i64 t120)) (fun _ hk => trivial)⟩, ⟨iX60_6_spec_l01Src_l11Votes HI0.out⟩, ⟨hX HK.out⟩, ⟨bI60_0_spec_l01Src_l11Votes HB.out⟩⟩
    rw [if_neg c9] at H
    have c9b0 : (t120 == 0) = false := beq_eq_false_iff_ne.mpr c9
    have c9b1 : (t120 != 0) = true := bne_iff_ne.mpr c9
    have H' := AM H
    clear H
    go_wp2_with (first | ((with_reducible refine gate_callee (f := 20) rfl ?_); refine goesL_ (some 15) rfl rfl Try.func20 (by kernel_rfl) rfl #[.pointer (some ⟨g, 0, none⟩)] rfl (by (try simp only [mA, mB, mC]); first | done | rfl | (simp only [mD, mE]; rfl)) ?_; (with_reducible refine (spec_l01Src_l11Some.calls g s0_0 x1001_1 x1002_1 x1003_1 t108 t109 t110 t111 t112 t113 t114 t115 w0 _ ?side1 ?side2 A7.out).mono ?_); (case side1 => exact (iX60_6_spec_l01Src_l11Votes HI0.out)); (case side2 => exact (bI60_0_spec_l01Src_l11Votes HB.out)); rintro e w17 ⟨rfl, hi, hb, hk⟩; refine ⟨_, rfl, ?_⟩; have _ := AM (Kd.R_mono (Kd.R_keep (IsS60.apart (show IsS60 w0 _ g s0_0 x1001_1 x1002_1 x1003_1 from iX60_6_spec_l01Src_l11Votes HI0.out) (rX HO_3.out) (by decide)) hk (fun _ h => h.2)) (fun _ h => h.1)); have _ := AM (KeepBut.trans (hX HK.out) hk (.inl rfl)); have _ := AM (hb); have _ := AM (hi); clear HO_3 HK HB HI0; rename_i HO_3 HK HB HI0; (try clear hb); (try clear hb2); (try clear hk); (try clear hi); obtain ⟨Ao18, co18, eo18⟩ := Kd.R_slice HO_3.out; subst eo18) | ((with_reducible refine gate_callee (f := 36) rfl ?_); refine goesL_ (some 16) rfl rfl Try.func36 (by kernel_rfl) rfl #[.slice Ao18 x3_1.length co18, .agg #[.int .i64 t108, .int .i64 t109, .int .i64 t110, .string t111, .int .i64 t112]] rfl (by (try simp only [mA, mB, mC]); first | done | rfl | (simp only [mD, mE]; rfl)) ?_; (with_reducible refine (spec_VoteAdd.calls k1 _ _ x3_1 t108 t109 t110 t111 t112 t116 t119 t120 _ ?side1 ?side2 A8.out).mono ?_); (case side1 => repeat (first | exact (Kd.R_reads' HO_3.out).2.2 | (with_reducible first | apply cA | apply cN | apply cD))); (case side2 => exact (Kd.R_reads' HO_3.out).2.1); rintro e w19 ⟨v117, rfl, ho0, hb⟩; refine ⟨_, rfl, ?_⟩; have _ := AM (Kd.R_elder' (rX HO_3.out) (Kd.R_base ho0) hb); have _ := AM (Kd.R_lower (Kd.R_new' ho0 (Kd.R_lt (rX HO_3.out))) (keep_size (w := w) (g := g) (row := none) (hX HK.out))); have _ := AM (IsS60.below (iX60_6_spec_l01Src_l11Votes HI0.out) hb); have _ := AM (KeepBut.trans (hX HK.out) (KeepBut.of_below hb g none) (.inl rfl)); have _ := AM (below_step (bI60_0_spec_l01Src_l11Votes HB.out) hb); clear HO_3 HI0 HK HB; rename_i HO_3 HO118 HI0 HK HB; (try clear hb); (try clear hb2); (try clear hk); (try clear hi); (try clear ho0)) | ((with_reducible refine gate_dst (N := 5) rfl ?_); refine box_event (by rfl) (N := 5) (by rfl) (cs := #[.slice none 0 0, .bool false, .int .i64 0]) (t := 62) (by first | (go_simp; done) | (go_simp; rfl)) ?_; intro gb121 hg w20 hbox hb; have _ := AM (Kd.R_below (rX HO_3.out) hb); have _ := AM (Kd.R_below (rX HO118.out) hb); have _ := AM (IsS60.below (iX60_6_spec_l01Src_l11Votes HI0.out) hb); have _ := AM (KeepBut.trans (hX HK.out) (KeepBut.of_below hb g none) (.inl rfl)); have _ := AM (below_step (bI60_0_spec_l01Src_l11Votes HB.out) hb); have _ := AM (hbox); have _ := AM ((by rw [hg]; exact (keep_size (w := w) (g := g) (row := none) (hX HK.out)) : w.heap.size ≤ gb121)); have _ := AM ((Nat.le_trans HW0.out (by rw [hg]; exact (keep_size (w := w) (g := g) (row := none) (hX HK.out)) : w.heap.size ≤ gb121) : w0.heap.size ≤ gb121)); have _ := AM ((by rw [hg]; exact Nat.ne_of_lt (IsS60.lt (show IsS60 w0 _ g s0_0 t113 t114 t115 from iX60_6_spec_l01Src_l11Votes HI0.out)) : g ≠ gb121)); have _ := AM ((by rw [hg]; exact Nat.ne_of_gt (IsS60.lt (show IsS60 w0 _ g s0_0 t113 t114 t115 from iX60_6_spec_l01Src_l11Votes HI0.out)) : gb121 ≠ g)); clear HO_3 HO118 HI0 HK HB; rename_i HO_3 HO118 HI0 HK HB BK121 GW121 GE121 NB0_121 NB121_0; clear hb hbox hg; obtain ⟨Ao21, co21, eo21⟩ := Kd.R_slice HO118.out; subst eo21; have hnb22 := NB121_0.out; have hnc22 := NB0_121.out; have hcz23 := q3 BK121.out; have hfz23 := fZ BK121.out))
    go_roundg k1
    case measure => have := HK1.out; omega
    case rel => exact ⟨(x3_1), (wrap64 (x4_1 - 1)), (t113), (t114), (t115), (by first | rfl | (simp; done) | (simp [*]; done)), H', ⟨by have := HK1.out; omega⟩, ⟨by (with_reducible repeat (first | apply rA | apply rN | apply rD)); exact Kd.R_mono (Kd.R_far (p := ⟨gb121, 2, none⟩) (Kd.R_far (p := ⟨gb121, 1, none⟩) (Kd.R_far (p := ⟨gb121, 0, none⟩) (Kd.R_types HO_3.out BK121.out (by decide)) (fun _ hk => hk.2) (.slice Ao21 t116.length co21)) (fun _ hk => hk.2) (.bool t119)) (fun _ hk => hk.2) (.int .i64 t120)) (fun _ hk => trivial)⟩, ⟨iX60_6_spec_l01Src_l11Votes HI0.out⟩, ⟨hX HK.out⟩, ⟨bI60_0_spec_l01Src_l11Votes HB.out⟩⟩
   rw [if_neg c6] at H
   have c6b0 : decide (0 < x4_1) = false := decide_eq_false c6
   clear c6
   replace H := Option.bind_eq_some_iff.mp H
   obtain ⟨⟨t122, t123, t124, t125⟩, A240, H⟩ := H
   try dsimp only at H
   have A24 := AM A240
   clear A240
   by_cases c25 : t122 = true
   ·
    subst c25
    have H1 : ((spec_l01Src_l11Some.f s0_0 t123 t124 t125).bind fun bt126 => (if x3_1.length < 2932031007402 then (some ((x3_1 ++ [(⟨bt126.1, bt126.2.1, bt126.2.2.1, bt126.2.2.2.1, bt126.2.2.2.2.1⟩ : S45)]), bt126.2.2.2.2.2.1, bt126.2.2.2.2.2.2.1, bt126.2.2.2.2.2.2.2)) else (none))) = some (r1, r2, r3, r4) := by rw [if_pos rfl] at H; exact H
    clear H
    have H := H1
    clear H1
    replace H := Option.bind_eq_some_iff.mp H
    obtain ⟨⟨t126, t127, t128, t129, t130, t131, t132, t133⟩, A260, H⟩ := H
    try dsimp only at H
    have A26 := AM A260
    clear A260
    by_cases c27 : x3_1.length < 2932031007402
    ·
     rw [if_pos c27] at H
     have LMc27 := AM c27
     clear c27
     obtain ⟨y134, hy134⟩ : ∃ y_ : List (S45), y_ = (x3_1 ++ [(⟨t126, t127, t128, t129, t130⟩ : S45)]) := ⟨_, rfl⟩
     replace H : (some (y134, t131, t132, t133)) = some (r1, r2, r3, r4) := by first | (rw [hy134]; with_reducible exact H) | (have H2_ := (Option.bind_some _ _).symm.trans H; rw [hy134]; with_reducible exact H2_) | (have H2_ := (Option.bind_some _ _).symm.trans H; with_reducible exact H2_) | with_reducible exact H | (rw [hy134]; exact H) | exact H
     have Ny134 := AM hy134
     clear hy134
     simp only [Option.some.injEq, Prod.mk.injEq] at H
     obtain ⟨rfl, rfl, rfl, rfl⟩ := H
     go_wp2_with (first | ((with_reducible refine gate_callee (f := 23) rfl ?_); refine goesL_ (some 23) rfl rfl Try.func23 (by kernel_rfl) rfl #[.pointer (some ⟨g, 0, none⟩), .int .i64 25] rfl (by (try simp only [mA, mB, mC]); first | done | rfl | (simp only [mD, mE]; rfl)) ?_; (with_reducible refine (spec_l01Src_one.calls g s0_0 x1001_1 x1002_1 x1003_1 25 true t123 t124 t125 w0 _ ?side1 ?side2 A24.out).mono ?_); (case side1 => exact (iX60_6_spec_l01Src_l11Votes HI0.out)); (case side2 => exact (bI60_0_spec_l01Src_l11Votes HB.out)); rintro e w28 ⟨rfl, hi, hb, hk⟩; refine ⟨_, rfl, ?_⟩; have _ := AM (Kd.R_mono (Kd.R_keep (IsS60.apart (show IsS60 w0 _ g s0_0 x1001_1 x1002_1 x1003_1 from iX60_6_spec_l01Src_l11Votes HI0.out) (rX HO_3.out) (by decide)) hk (fun _ h => h.2)) (fun _ h => h.1)); have _ := AM (KeepBut.trans (hX HK.out) hk (.inl rfl)); have _ := AM (hb); have _ := AM (hi); clear HO_3 HK HB HI0; rename_i HO_3 HK HB HI0; (try clear hb); (try clear hb2); (try clear hk); (try clear hi)) | ((with_reducible refine gate_callee (f := 20) rfl ?_); refine goesL_ (some 26) rfl rfl Try.func20 (by kernel_rfl) rfl #[.pointer (some ⟨g, 0, none⟩)] rfl (by (try simp only [mA, mB, mC]); first | done | rfl | (simp only [mD, mE]; rfl)) ?_; (with_reducible refine (spec_l01Src_l11Some.calls g s0_0 t123 t124 t125 t126 t127 t128 t129 t130 t131 t132 t133 w0 _ ?side1 ?side2 A26.out).mono ?_); (case side1 => exact (iX60_6_spec_l01Src_l11Votes HI0.out)); (case side2 => exact (bI60_0_spec_l01Src_l11Votes HB.out)); rintro e w29 ⟨rfl, hi, hb, hk⟩; refine ⟨_, rfl, ?_⟩; have _ := AM (Kd.R_mono (Kd.R_keep (IsS60.apart (show IsS60 w0 _ g s0_0 t123 t124 t125 from iX60_6_spec_l01Src_l11Votes HI0.out) (rX HO_3.out) (by decide)) hk (fun _ h => h.2)) (fun _ h => h.1)); have _ := AM (KeepBut.trans (hX HK.out) hk (.inl rfl)); have _ := AM (hb); have _ := AM (hi); clear HO_3 HK HB HI0; rename_i HO_3 HK HB HI0; (try clear hb); (try clear hb2); (try clear hk); (try clear hi)) | ((with_reducible refine gate_builtin (b := .append) (xs := #[.tmp 24, .tmp 27]) rfl ?_); at_builtin; refine Kd.R_append k45 w.heap.size rfl (.tmp 24) (.tmp 27) 23 45 (.agg #[(.int .i64 0), (.int .i64 0), (.int .i64 0), (.string ⟨#[]⟩), (.int .i64 0)]) 48 rfl Try.underlying23 info45 rfl (by decide) (by omega) u3 x3_1 (⟨t126, t127, t128, t129, t130⟩ : S45) [.int .i64 t126, .int .i64 t127, .int .i64 t128, .string t129, .int .i64 t130] (fun _ => True) (fun _ => False) rfl rfl ?aP (fun _ hk => hk.elim) ?aF ?aO (Below.refl _ _) ?aS ?aL ?_; (case aP => exact k45_mkM _ _ _ (⟨t126, t127, t128, t129, t130⟩ : S45)); (case aF => exact (fun _ _ => trivial)); (case aO => exact (rX HO_3.out)); (case aS => exact (keep_size (w := w) (g := g) (row := none) (hX HK.out))); (case aL => have := LMc27.out; omega); intro v135 w30 ho hb hg hat; rw [← Ny134.out] at ho; have _ := AM (IsS60.grown (iX60_6_spec_l01Src_l11Votes HI0.out) hg (IsS60.own_ne HI0.out HO_3.out (by decide))); have _ := AM (below_weaken (bI60_0_spec_l01Src_l11Votes HB.out) HL.out hb); have _ := AM (KeepBut.trans (hX HK.out) (KeepBut.of_grown hg g) (Kd.R_base2 HO_3.out)); have _ := AM (ho); clear HI0 HB HK HO_3; rename_i HI0 HB HK HO136; clear ho hb hg hat))
     go_ret
     exact ⟨_, by first | rfl | (simp [*, errW_none, errW_some] <;> rfl), rX HO136.out, iX60_6_spec_l01Src_l11Votes HI0.out, bI60_0_spec_l01Src_l11Votes HB.out, hX HK.out⟩
    rw [if_neg c27] at H
    exact absurd H (by simp)
   replace c25 := Bool.eq_false_iff.mpr c25
   subst c25
   have H1 : (some (x3_1, t123, t124, t125)) = some (r1, r2, r3, r4) := by rw [if_neg (show ¬ (false = true) by decide)] at H; exact H
   clear H
   have H := H1
   clear H1
   simp only [Option.some.injEq, Prod.mk.injEq] at H
   obtain ⟨rfl, rfl, rfl, rfl⟩ := H
   go_wp2_with (first | ((with_reducible refine gate_callee (f := 23) rfl ?_); refine goesL_ (some 23) rfl rfl Try.func23 (by kernel_rfl) rfl #[.pointer (some ⟨g, 0, none⟩), .int .i64 25] rfl (by (try simp only [mA, mB, mC]); first | done | rfl | (simp only [mD, mE]; rfl)) ?_; (with_reducible refine (spec_l01Src_one.calls g s0_0 x1001_1 x1002_1 x1003_1 25 false t123 t124 t125 w0 _ ?side1 ?side2 A24.out).mono ?_); (case side1 => exact (iX60_6_spec_l01Src_l11Votes HI0.out)); (case side2 => exact (bI60_0_spec_l01Src_l11Votes HB.out)); rintro e w31 ⟨rfl, hi, hb, hk⟩; refine ⟨_, rfl, ?_⟩; have _ := AM (Kd.R_mono (Kd.R_keep (IsS60.apart (show IsS60 w0 _ g s0_0 x1001_1 x1002_1 x1003_1 from iX60_6_spec_l01Src_l11Votes HI0.out) (rX HO_3.out) (by decide)) hk (fun _ h => h.2)) (fun _ h => h.1)); have _ := AM (KeepBut.trans (hX HK.out) hk (.inl rfl)); have _ := AM (hb); have _ := AM (hi); clear HO_3 HK HB HI0; rename_i HO_3 HK HB HI0; (try clear hb); (try clear hb2); (try clear hk); (try clear hi)))
   go_ret
   exact ⟨_, by first | rfl | (simp [*, errW_none, errW_some] <;> rfl), rX HO_3.out, iX60_6_spec_l01Src_l11Votes HI0.out, bI60_0_spec_l01Src_l11Votes HB.out, hX HK.out⟩

/-! ### spec_DrawProofOf: function 4 -/

def spec_DrawProofOf.f (k : Nat) (l0 : List Int) : Option ((List (S45)) × Int × Int × ByteArray) := (spec_l01Source.f k l0).bind fun bt101 => ((spec_l01Src_l11Votes.f k bt101.1 bt101.2.1 bt101.2.2.1 bt101.2.2.2).bind fun bt106 => ((spec_l01Src_l11Some.f bt101.1 bt106.2.1 bt106.2.2.1 bt106.2.2.2).bind fun bt112 => (some (bt106.1, bt112.2.1, bt112.2.2.1, bt112.2.2.2.1))))
theorem spec_DrawProofOf.mono : ∀ a0 k, LeO (spec_DrawProofOf.f k a0) (spec_DrawProofOf.f (k + 1) a0) := by
  intro a0 k
  unfold spec_DrawProofOf.f
  repeat' first
      | (with_reducible exact spec_l01Source.mono _ _)
      | (with_reducible exact spec_l01Src_l11Votes.mono _ _ _ _ _)
      | (with_reducible exact LeO.refl _)
      | (with_reducible exact LeO.none _)
      | (with_reducible refine LeO.ite ?_ ?_)
      | (with_reducible refine LeO.bind ?_ (fun _ => ?_))
      | exact spec_l01Source.mono _ _
      | exact spec_l01Src_l11Votes.mono _ _ _ _ _
      | exact LeO.none _
      | refine LeO.ite ?_ ?_
      | refine LeO.bind ?_ (fun _ => ?_)
theorem bI60_105_spec_DrawProofOf {n : Nat} {w W W' : World} (h : Below n w W) (f : Below n w W → Below n w W' := by intro h_; repeat (first | (with_reducible first | exact h_ | apply bA | apply bN | apply bD | refine bS ?_ (IsS60.ge HI105.out) | refine bS ?_ (Aside0.out (by assumption))) | exact h_)) : Below n w W' := f h
theorem iX60_6_spec_DrawProofOf {p q : Prop} (h : p) (f : p → q := by intro h_; repeat (first | (with_reducible first | exact h_ | apply IsS60.alloc | apply IsS60.drewN | apply IsS60.drew | apply IsS60.set_1 | apply IsS60.set_2 | apply IsS60.set_3 | refine IsS60.far ?_ (Aside0.out (by assumption)) _) | exact h_)) : q := f h
set_option maxHeartbeats 60000000 in
set_option maxRecDepth 100000 in
theorem spec_DrawProofOf.calls (k : Nat) (A0 : Option Addr) (c0 : Nat) (l0 : List Int) (r1 : List (S45)) (r2 : Int) (r3 : Int) (r4 : ByteArray) (w : World) (hr0 : Kd.C (Kd.int .u8) w A0 l0.length l0) (hc0 : l0.length ≤ c0) (h : spec_DrawProofOf.f k l0 = some (r1, r2, r3, r4)) :
    Calls Try.prog 4 #[.slice A0 l0.length c0] w fun e w' => ∃ v0_ : Value, e = .returned (.tuple #[v0_, .int .i64 r2, .int .i64 r3, .string r4]) ∧ Kd.R k45 45 w' w.heap.size (fun _ => True) v0_ r1 ∧ Below w.heap.size w w' := by
 have hu45 := Try.underlying45
 have HR0 := AM hr0
 have HC0 := AM hc0
 clear hr0 hc0
 have HB := AM (Below.refl w.heap.size w)
 have H : ((spec_l01Source.f k l0).bind fun bt101 => ((spec_l01Src_l11Votes.f k bt101.1 bt101.2.1 bt101.2.2.1 bt101.2.2.2).bind fun bt106 => ((spec_l01Src_l11Some.f bt101.1 bt106.2.1 bt106.2.2.1 bt106.2.2.2).bind fun bt112 => (some (bt106.1, bt112.2.1, bt112.2.2.1, bt112.2.2.2.1))))) = some (r1, r2, r3, r4) := h
 clear h
 replace H := Option.bind_eq_some_iff.mp H
 obtain ⟨⟨t101, t102, t103, t104⟩, A20, H⟩ := H
 try dsimp only at H
 have A2 := AM A20
 clear A20
 replace H := Option.bind_eq_some_iff.mp H
 obtain ⟨⟨t106, t109, t110, t111⟩, A30, H⟩ := H
 try dsimp only at H
 have A3 := AM A30
 clear A30
 replace H := Option.bind_eq_some_iff.mp H
 obtain ⟨⟨t112, t113, t114, t115, t116, t117, t118, t119⟩, A40, H⟩ := H
 try dsimp only at H
 have A4 := AM A40
 clear A40
 simp only [Option.some.injEq, Prod.mk.injEq] at H
 obtain ⟨rfl, rfl, rfl, rfl⟩ := H
 go_enter Try.func4, Try.ntmps4
 go_wp2_with (first | (go_at_call 18; (with_reducible refine (spec_l01Source.calls k _ _ l0 t101 t102 t103 t104 w _ ?side1 ?side2 ?side3 A2.out).mono ?_); (case side1 => exact (bX HB.out)); (case side2 => exact HR0.out); (case side3 => exact HC0.out); rintro e w5 ⟨g105, rfl, hi, hb, hb2⟩; have _ := AM (hb); have _ := AM (hi); clear HB; rename_i HB HI105; (try clear hb); (try clear hb2); (try clear hk); (try clear hi)) | (go_at_call 19; (with_reducible refine (spec_l01Src_l11Votes.calls k g105 t101 t102 t103 t104 t106 t109 t110 t111 w _ ?side1 ?side2 A3.out).mono ?_); (case side1 => exact (iX60_6_spec_DrawProofOf HI105.out)); (case side2 => exact (bI60_105_spec_DrawProofOf HB.out)); rintro e w6 ⟨v107, rfl, ho0, hi, hb, hk⟩; have _ := AM (Kd.R_lower ho0 (bZ (bI60_105_spec_DrawProofOf HB.out))); have _ := AM (hb); have _ := AM (hi); clear HB HI105; rename_i HO108 HB HI105; (try clear hb); (try clear hb2); (try clear hk); (try clear hi); (try clear ho0)) | (go_at_call 20; (with_reducible refine (spec_l01Src_l11Some.calls g105 t101 t109 t110 t111 t112 t113 t114 t115 t116 t117 t118 t119 w _ ?side1 ?side2 A4.out).mono ?_); (case side1 => exact (iX60_6_spec_DrawProofOf HI105.out)); (case side2 => exact (bI60_105_spec_DrawProofOf HB.out)); rintro e w7 ⟨rfl, hi, hb, hk⟩; have _ := AM (Kd.R_mono (Kd.R_keep (IsS60.apart (show IsS60 w _ g105 t101 t109 t110 t111 from iX60_6_spec_DrawProofOf HI105.out) (rX HO108.out) (by decide)) hk (fun _ h => h.2)) (fun _ h => h.1)); have _ := AM (hb); have _ := AM (hi); clear HO108 HB HI105; rename_i HO108 HB HI105; (try clear hb); (try clear hb2); (try clear hk); (try clear hi)) | ((with_reducible refine gate_dst (N := 8) rfl ?_); refine box_event (by rfl) (N := 8) (by rfl) (cs := #[.int .i64 0, .int .i64 0, .int .i64 0, .string (⟨#[]⟩ : ByteArray), .int .i64 0]) (t := 45) (by first | (go_simp; done) | (go_simp; rfl)) ?_; intro gb120 hg w8 hbox hb; have _ := AM (Kd.R_below (Kd.R_elderB (rX HO108.out) gb120 (Nat.le_of_eq hg.symm)) hb); have _ := AM (IsS60.below (iX60_6_spec_DrawProofOf HI105.out) hb); have _ := AM (below_step (bI60_105_spec_DrawProofOf HB.out) hb); have _ := AM (hbox); have n4_ := AM ((by rw [hg]; exact (bZ (bI60_105_spec_DrawProofOf HB.out)) : w.heap.size ≤ gb120)); have _ := AM ((by rw [hg]; exact Nat.ne_of_lt (IsS60.lt (show IsS60 w _ g105 t101 t117 t118 t119 from iX60_6_spec_DrawProofOf HI105.out)) : g105 ≠ gb120)); have _ := AM ((by rw [hg]; exact Nat.ne_of_gt (IsS60.lt (show IsS60 w _ g105 t101 t117 t118 t119 from iX60_6_spec_DrawProofOf HI105.out)) : gb120 ≠ g105)); clear HO108 HI105 HB; rename_i HO108 HI105 HB BK120 NB105_120 NB120_105; have GW120 := n4_; have GE120 := n4_; clear n4_; clear hb hbox hg; have hnb9 := NB120_105.out; have hnc9 := NB105_120.out; have hcz10 := q5 BK120.out; have hfz10 := fZ BK120.out))
 repeat (go_quiet (first | (go_at_call 18; (with_reducible refine (spec_l01Source.calls k _ _ l0 t101 t102 t103 t104 w _ ?side1 ?side2 ?side3 A2.out).mono ?_); (case side1 => exact (bX HB.out)); (case side2 => exact HR0.out); (case side3 => exact HC0.out); rintro e w5 ⟨g105, rfl, hi, hb, hb2⟩; have _ := AM (hb); have _ := AM (hi); clear HB; rename_i HB HI105; (try clear hb); (try clear hb2); (try clear hk); (try clear hi)) | (go_at_call 19; (with_reducible refine (spec_l01Src_l11Votes.calls k g105 t101 t102 t103 t104 t106 t109 t110 t111 w _ ?side1 ?side2 A3.out).mono ?_); (case side1 => exact (iX60_6_spec_DrawProofOf HI105.out)); (case side2 => exact (bI60_105_spec_DrawProofOf HB.out)); rintro e w6 ⟨v107, rfl, ho0, hi, hb, hk⟩; have _ := AM (Kd.R_lower ho0 (bZ (bI60_105_spec_DrawProofOf HB.out))); have _ := AM (hb); have _ := AM (hi); clear HB HI105; rename_i HO108 HB HI105; (try clear hb); (try clear hb2); (try clear hk); (try clear hi); (try clear ho0)) | (go_at_call 20; (with_reducible refine (spec_l01Src_l11Some.calls g105 t101 t109 t110 t111 t112 t113 t114 t115 t116 t117 t118 t119 w _ ?side1 ?side2 A4.out).mono ?_); (case side1 => exact (iX60_6_spec_DrawProofOf HI105.out)); (case side2 => exact (bI60_105_spec_DrawProofOf HB.out)); rintro e w7 ⟨rfl, hi, hb, hk⟩; have _ := AM (Kd.R_mono (Kd.R_keep (IsS60.apart (show IsS60 w _ g105 t101 t109 t110 t111 from iX60_6_spec_DrawProofOf HI105.out) (rX HO108.out) (by decide)) hk (fun _ h => h.2)) (fun _ h => h.1)); have _ := AM (hb); have _ := AM (hi); clear HO108 HB HI105; rename_i HO108 HB HI105; (try clear hb); (try clear hb2); (try clear hk); (try clear hi)) | ((with_reducible refine gate_dst (N := 8) rfl ?_); refine box_event (by rfl) (N := 8) (by rfl) (cs := #[.int .i64 0, .int .i64 0, .int .i64 0, .string (⟨#[]⟩ : ByteArray), .int .i64 0]) (t := 45) (by first | (go_simp; done) | (go_simp; rfl)) ?_; intro gb120 hg w8 hbox hb; have _ := AM (Kd.R_below (Kd.R_elderB (rX HO108.out) gb120 (Nat.le_of_eq hg.symm)) hb); have _ := AM (IsS60.below (iX60_6_spec_DrawProofOf HI105.out) hb); have _ := AM (below_step (bI60_105_spec_DrawProofOf HB.out) hb); have _ := AM (hbox); have n4_ := AM ((by rw [hg]; exact (bZ (bI60_105_spec_DrawProofOf HB.out)) : w.heap.size ≤ gb120)); have _ := AM ((by rw [hg]; exact Nat.ne_of_lt (IsS60.lt (show IsS60 w _ g105 t101 t117 t118 t119 from iX60_6_spec_DrawProofOf HI105.out)) : g105 ≠ gb120)); have _ := AM ((by rw [hg]; exact Nat.ne_of_gt (IsS60.lt (show IsS60 w _ g105 t101 t117 t118 t119 from iX60_6_spec_DrawProofOf HI105.out)) : gb120 ≠ g105)); clear HO108 HI105 HB; rename_i HO108 HI105 HB BK120 NB105_120 NB120_105; have GW120 := n4_; have GE120 := n4_; clear n4_; clear hb hbox hg; have hnb9 := NB120_105.out; have hnc9 := NB105_120.out; have hcz10 := q5 BK120.out; have hfz10 := fZ BK120.out)); try go_wp2_with (first | (go_at_call 18; (with_reducible refine (spec_l01Source.calls k _ _ l0 t101 t102 t103 t104 w _ ?side1 ?side2 ?side3 A2.out).mono ?_); (case side1 => exact (bX HB.out)); (case side2 => exact HR0.out); (case side3 => exact HC0.out); rintro e w5 ⟨g105, rfl, hi, hb, hb2⟩; have _ := AM (hb); have _ := AM (hi); clear HB; rename_i HB HI105; (try clear hb); (try clear hb2); (try clear hk); (try clear hi)) | (go_at_call 19; (with_reducible refine (spec_l01Src_l11Votes.calls k g105 t101 t102 t103 t104 t106 t109 t110 t111 w _ ?side1 ?side2 A3.out).mono ?_); (case side1 => exact (iX60_6_spec_DrawProofOf HI105.out)); (case side2 => exact (bI60_105_spec_DrawProofOf HB.out)); rintro e w6 ⟨v107, rfl, ho0, hi, hb, hk⟩; have _ := AM (Kd.R_lower ho0 (bZ (bI60_105_spec_DrawProofOf HB.out))); have _ := AM (hb); have _ := AM (hi); clear HB HI105; rename_i HO108 HB HI105; (try clear hb); (try clear hb2); (try clear hk); (try clear hi); (try clear ho0)) | (go_at_call 20; (with_reducible refine (spec_l01Src_l11Some.calls g105 t101 t109 t110 t111 t112 t113 t114 t115 t116 t117 t118 t119 w _ ?side1 ?side2 A4.out).mono ?_); (case side1 => exact (iX60_6_spec_DrawProofOf HI105.out)); (case side2 => exact (bI60_105_spec_DrawProofOf HB.out)); rintro e w7 ⟨rfl, hi, hb, hk⟩; have _ := AM (Kd.R_mono (Kd.R_keep (IsS60.apart (show IsS60 w _ g105 t101 t109 t110 t111 from iX60_6_spec_DrawProofOf HI105.out) (rX HO108.out) (by decide)) hk (fun _ h => h.2)) (fun _ h => h.1)); have _ := AM (hb); have _ := AM (hi); clear HO108 HB HI105; rename_i HO108 HB HI105; (try clear hb); (try clear hb2); (try clear hk); (try clear hi)) | ((with_reducible refine gate_dst (N := 8) rfl ?_); refine box_event (by rfl) (N := 8) (by rfl) (cs := #[.int .i64 0, .int .i64 0, .int .i64 0, .string (⟨#[]⟩ : ByteArray), .int .i64 0]) (t := 45) (by first | (go_simp; done) | (go_simp; rfl)) ?_; intro gb120 hg w8 hbox hb; have _ := AM (Kd.R_below (Kd.R_elderB (rX HO108.out) gb120 (Nat.le_of_eq hg.symm)) hb); have _ := AM (IsS60.below (iX60_6_spec_DrawProofOf HI105.out) hb); have _ := AM (below_step (bI60_105_spec_DrawProofOf HB.out) hb); have _ := AM (hbox); have n4_ := AM ((by rw [hg]; exact (bZ (bI60_105_spec_DrawProofOf HB.out)) : w.heap.size ≤ gb120)); have _ := AM ((by rw [hg]; exact Nat.ne_of_lt (IsS60.lt (show IsS60 w _ g105 t101 t117 t118 t119 from iX60_6_spec_DrawProofOf HI105.out)) : g105 ≠ gb120)); have _ := AM ((by rw [hg]; exact Nat.ne_of_gt (IsS60.lt (show IsS60 w _ g105 t101 t117 t118 t119 from iX60_6_spec_DrawProofOf HI105.out)) : gb120 ≠ g105)); clear HO108 HI105 HB; rename_i HO108 HI105 HB BK120 NB105_120 NB120_105; have GW120 := n4_; have GE120 := n4_; clear n4_; clear hb hbox hg; have hnb9 := NB120_105.out; have hnc9 := NB105_120.out; have hcz10 := q5 BK120.out; have hfz10 := fZ BK120.out)))
 refine bodyPost_ret (results_list (rs := [.tmp 2, .tmp 3, .tmp 4, .tmp 5]) rfl (by simp) (.tmp (.tmp (.tmp (.tmp .nil))))) rfl ?_
 exact ⟨_, by first | rfl | (simp [*, errW_none, errW_some] <;> rfl), by (with_reducible repeat (first | apply rA | apply rN | apply rD)); exact Kd.R_mono (Kd.R_far (p := ⟨gb120, 4, none⟩) (Kd.R_far (p := ⟨gb120, 3, none⟩) (Kd.R_far (p := ⟨gb120, 2, none⟩) (Kd.R_far (p := ⟨gb120, 1, none⟩) (Kd.R_far (p := ⟨gb120, 0, none⟩) (Kd.R_mono HO108.out (fun k_ hk => (⟨hk, hk.2⟩ : _ ∧ k_ ≠ gb120))) (fun _ hk => hk.2) (.int .i64 t112)) (fun _ hk => hk.2) (.int .i64 t113)) (fun _ hk => hk.2) (.int .i64 t114)) (fun _ hk => hk.2) (.string t115)) (fun _ hk => hk.2) (.int .i64 t116)) (fun _ hk => trivial), bI60_105_spec_DrawProofOf HB.out⟩

/-! ### impl_within: function 60 -/

def impl_within.f (a0 : Int) (a1 : Int) (a2 : Int) : Option (Bool) := if a0 ≥ a1 then (some (decide (a0 ≤ a2))) else (some false)
set_option maxHeartbeats 60000000 in
set_option maxRecDepth 100000 in
theorem impl_within.calls (a0 : Int) (a1 : Int) (a2 : Int) (r : Bool) (w : World) (h : impl_within.f a0 a1 a2 = some r) :
    Calls Try.prog 60 #[.int .i64 a0, .int .i64 a1, .int .i64 a2] w fun e w' => e = .returned (.bool r) ∧ Drawn0 w w' := by
 have H : (if a0 ≥ a1 then (some (decide (a0 ≤ a2))) else (some false)) = some r := h
 clear h
 by_cases c4 : a0 ≥ a1
 ·
  rw [if_pos c4] at H
  have c4b0 : decide (a1 ≤ a0) = true := decide_eq_true c4
  clear c4
  obtain rfl := Option.some.inj H
  go_enter Try.func60, Try.ntmps60
  go_wp2
  go_ret
  exact ⟨by first | rfl | (simp; done) | (simp [*]; done), by repeat (first | exact Drawn0.refl _ | apply Drawn0.step)⟩
 rw [if_neg c4] at H
 have c4b0 : decide (a1 ≤ a0) = false := decide_eq_false c4
 clear c4
 obtain rfl := Option.some.inj H
 go_enter Try.func60, Try.ntmps60
 go_wp2
 go_ret
 exact ⟨by first | rfl | (simp; done) | (simp [*]; done), by repeat (first | exact Drawn0.refl _ | apply Drawn0.step)⟩

/-! ### impl_isView: function 50 -/

def impl_isView.f (a0 : Int) (a1 : Int) : Option (Bool) := (impl_within.f a0 a1 7).bind fun t101 => (some t101)
set_option maxHeartbeats 60000000 in
set_option maxRecDepth 100000 in
theorem impl_isView.calls (a0 : Int) (a1 : Int) (r : Bool) (w : World) (h : impl_isView.f a0 a1 = some r) :
    Calls Try.prog 50 #[.int .i64 a0, .int .i64 a1] w fun e w' => e = .returned (.bool r) ∧ Drawn0 w w' := by
 have H : ((impl_within.f a0 a1 7).bind fun t101 => (some t101)) = some r := h
 clear h
 replace H := Option.bind_eq_some_iff.mp H
 obtain ⟨t101, A30, H⟩ := H
 replace H : (some t101) = some r := H
 have A3 := AM A30
 clear A30
 obtain rfl := Option.some.inj H
 go_enter Try.func50, Try.ntmps50
 go_wp2_with (first | ((with_reducible refine gate_callee (f := 60) rfl ?_); refine goesL_ (some 7) rfl rfl Try.func60 (by kernel_rfl) rfl #[.int .i64 a0, .int .i64 a1, .int .i64 7] rfl (by (try simp only [mA, mB, mC]); first | done | rfl | (simp only [mD, mE]; rfl)) ?_; (with_reducible refine (impl_within.calls a0 a1 7 t101 _ A3.out).mono ?_); rintro e w' ⟨rfl, ⟨nd, rfl⟩⟩; refine ⟨_, rfl, ?_⟩))
 go_ret
 exact ⟨by first | rfl | (simp; done) | (simp [*]; done), by repeat (first | exact Drawn0.refl _ | apply Drawn0.step)⟩

/-! ### impl_isSeq: function 51 -/

def impl_isSeq.f (a0 : Int) : Option (Bool) := (impl_within.f a0 1 6).bind fun t101 => (some t101)
set_option maxHeartbeats 60000000 in
set_option maxRecDepth 100000 in
theorem impl_isSeq.calls (a0 : Int) (r : Bool) (w : World) (h : impl_isSeq.f a0 = some r) :
    Calls Try.prog 51 #[.int .i64 a0] w fun e w' => e = .returned (.bool r) ∧ Drawn0 w w' := by
 have H : ((impl_within.f a0 1 6).bind fun t101 => (some t101)) = some r := h
 clear h
 replace H := Option.bind_eq_some_iff.mp H
 obtain ⟨t101, A20, H⟩ := H
 replace H : (some t101) = some r := H
 have A2 := AM A20
 clear A20
 obtain rfl := Option.some.inj H
 go_enter Try.func51, Try.ntmps51
 go_wp2_with (first | ((with_reducible refine gate_callee (f := 60) rfl ?_); refine goesL_ (some 4) rfl rfl Try.func60 (by kernel_rfl) rfl #[.int .i64 a0, .int .i64 1, .int .i64 6] rfl (by (try simp only [mA, mB, mC]); first | done | rfl | (simp only [mD, mE]; rfl)) ?_; (with_reducible refine (impl_within.calls a0 1 6 t101 _ A2.out).mono ?_); rintro e w' ⟨rfl, ⟨nd, rfl⟩⟩; refine ⟨_, rfl, ?_⟩))
 go_ret
 exact ⟨by first | rfl | (simp; done) | (simp [*]; done), by repeat (first | exact Drawn0.refl _ | apply Drawn0.step)⟩

/-! ### impl_isOp: function 52 -/

def impl_isOp.f (a0 : ByteArray) : Option (Bool) := some (decide ((a0.size : Int) ≤ 120))
set_option maxHeartbeats 60000000 in
set_option maxRecDepth 100000 in
theorem impl_isOp.calls (a0 : ByteArray) (r : Bool) (w : World) (h : impl_isOp.f a0 = some r) :
    Calls Try.prog 52 #[.string a0] w fun e w' => e = .returned (.bool r) ∧ Drawn0 w w' := by
 have H : (some (decide ((a0.size : Int) ≤ 120))) = some r := h
 clear h
 obtain rfl := Option.some.inj H
 go_enter Try.func52, Try.ntmps52
 go_wp2
 go_ret
 exact ⟨by first | rfl | (simp; done) | (simp [*]; done), by repeat (first | exact Drawn0.refl _ | apply Drawn0.step)⟩

/-! ### impl_isReplica: function 53 -/

def impl_isReplica.f (a0 : Int) : Option (Bool) := (impl_within.f a0 0 3).bind fun t101 => (some t101)
set_option maxHeartbeats 60000000 in
set_option maxRecDepth 100000 in
theorem impl_isReplica.calls (a0 : Int) (r : Bool) (w : World) (h : impl_isReplica.f a0 = some r) :
    Calls Try.prog 53 #[.int .i64 a0] w fun e w' => e = .returned (.bool r) ∧ Drawn0 w w' := by
 have H : ((impl_within.f a0 0 3).bind fun t101 => (some t101)) = some r := h
 clear h
 replace H := Option.bind_eq_some_iff.mp H
 obtain ⟨t101, A20, H⟩ := H
 replace H : (some t101) = some r := H
 have A2 := AM A20
 clear A20
 obtain rfl := Option.some.inj H
 go_enter Try.func53, Try.ntmps53
 go_wp2_with (first | ((with_reducible refine gate_callee (f := 60) rfl ?_); refine goesL_ (some 4) rfl rfl Try.func60 (by kernel_rfl) rfl #[.int .i64 a0, .int .i64 0, .int .i64 3] rfl (by (try simp only [mA, mB, mC]); first | done | rfl | (simp only [mD, mE]; rfl)) ?_; (with_reducible refine (impl_within.calls a0 0 3 t101 _ A2.out).mono ?_); rintro e w' ⟨rfl, ⟨nd, rfl⟩⟩; refine ⟨_, rfl, ?_⟩))
 go_ret
 exact ⟨by first | rfl | (simp; done) | (simp [*]; done), by repeat (first | exact Drawn0.refl _ | apply Drawn0.step)⟩

end Go.Proofs.Ytbaacdlocoajeaa.Q
