/- Printed by a program of this session (wip/mp.py over the kit's print.py): functions of the translation as plain Lean functions, and that the machine's calls do what these say. -/
import Derived.Test.YtjnlopoajcpclaaXx0
import Derived.Test.YtjnlopoajcpclaaXx2
import Derived.Test.YtjnlopoajcpclaaXx3
namespace Go.Proofs.Ytjnlopoajcpclaa.X
open Go.RowKit Go.Proofs.Ytjnlopoajcpclaa.HB Go.Proofs.YtjnlopoajcpclaaW.PrintWords Go.Proofs.YtjnlopoajcpclaaW.PrintLast Go.Proofs.YtjnlopoajcpclaaW.PrintMore
attribute [local go_sem] max2_int min2_int max_two min_two max_three min_three max_four min_four   -- for this text's walks alone
set_option linter.unusedVariables false
set_option linter.unusedSimpArgs false

/-! ### spec_l11Add: function 70 -/
abbrev spec_l11Add.b0 : Array Bool := #[false, true, false, false, false, false, false, false]
abbrev spec_l11Add.b1 : Array Bool := #[false, true, false, true, false, false, false, false]
abbrev spec_l11Add.b2 : Array Bool := #[true, true, false, true, false, false, false, false]
abbrev spec_l11Add.b3 : Array Bool := #[false, true, false, true, true, false, false, false]
abbrev spec_l11Add.b4 : Array Bool := #[true, true, false, true, true, false, false, false]
def spec_l11Add.f (k : Nat) (l0 : List (S32)) (a1_0 : Int) (a1_1 : Int) (a1_2 : Int) (a1_3 : ByteArray) (a1_4 : Int) : Option ((List (S32)) × Bool × Int) := (spec_l11Has.f k l0 a1_0 a1_1 a1_2 a1_3 a1_4).bind fun t103 => (if t103 = true then ((some (([] : List (S32)) : List (S32))).bind fun y104 => (if y104.length + l0.length < 2932031007402 then (some ((y104 ++ l0), false, 0)) else (none))) else (if (l0.length : Int) ≥ 400 then (some (([] : List (S32)), false, 9)) else ((some (([] : List (S32)) : List (S32))).bind fun y110 => (if y110.length + l0.length < 2932031007402 then ((some (y110 ++ l0 : List (S32))).bind fun y113 => ((some (([(⟨a1_0, a1_1, a1_2, a1_3, a1_4⟩ : S32)] : List (S32)) : List (S32))).bind fun y116 => (if y113.length + y116.length < 2932031007402 then (some ((y113 ++ y116), true, 0)) else (none)))) else (none)))))
theorem spec_l11Add.mono : ∀ a0 a1 a2 a3 a4 a5 k, LeO (spec_l11Add.f k a0 a1 a2 a3 a4 a5) (spec_l11Add.f (k + 1) a0 a1 a2 a3 a4 a5) := by
  intro a0 a1 a2 a3 a4 a5 k
  unfold spec_l11Add.f
  repeat' first
      | (with_reducible exact spec_l11Has.mono _ _ _ _ _ _ _)
      | (with_reducible exact LeO.refl _)
      | (with_reducible exact LeO.none _)
      | (with_reducible refine LeO.ite ?_ ?_)
      | (with_reducible refine LeO.bind ?_ (fun _ => ?_))
      | exact spec_l11Has.mono _ _ _ _ _ _ _
      | exact LeO.none _
      | refine LeO.ite ?_ ?_
      | refine LeO.bind ?_ (fun _ => ?_)
def spec_l11Add.T5 : Bool × List (List Nat × List Nat) := (true, [([], []), ([], []), ([0, 1], [0, 1]), ([], []), ([3], [3]), ([2, 4, 2], [2, 4]), ([5], [5]), ([6, 5, 0, 1, 2, 3, 4, 5, 6], [6])])
def spec_l11Add.B5 : List Nat := [0, 0, 3, 0, 8, 31, 63, 127]
theorem spec_l11Add.tab5 : rtab .any (opsOf Try.f70 5) = spec_l11Add.T5 := by kernel_rfl
theorem spec_l11Add.bits5 : waitsOk spec_l11Add.T5.2 spec_l11Add.B5 = true := by kernel_rfl
set_option maxHeartbeats 60000000 in
set_option maxRecDepth 100000 in
theorem spec_l11Add.calls (k : Nat) (A0 : Option Addr) (c0 : Nat) (l0 : List (S32)) (a1_0 : Int) (a1_1 : Int) (a1_2 : Int) (a1_3 : ByteArray) (a1_4 : Int) (r1 : List (S32)) (r2 : Bool) (r3 : Int) (w : World) (hr0 : Kd.C k32 w A0 l0.length l0) (hc0 : l0.length ≤ c0) (h : spec_l11Add.f k l0 a1_0 a1_1 a1_2 a1_3 a1_4 = some (r1, r2, r3)) :
    Calls Try.prog 70 #[.slice A0 l0.length c0, .agg #[.int .i64 a1_0, .int .i64 a1_1, .int .i64 a1_2, .string a1_3, .int .i64 a1_4]] w fun e w' => ∃ v0_ : Value, e = .returned (.agg #[v0_, .bool r2, .int .i64 r3]) ∧ Kd.R k32 32 w' w.heap.size (fun _ => True) v0_ r1 ∧ Below w.heap.size w w' := by
 have hu32 := Try.underlying32
 have hu29 := Try.underlying29
 have HR0 := AM hr0
 have HC0 := AM hc0
 clear hr0 hc0
 have HB := AM (Below.refl w.heap.size w)
 have H : ((spec_l11Has.f k l0 a1_0 a1_1 a1_2 a1_3 a1_4).bind fun t103 => (if t103 = true then ((some (([] : List (S32)) : List (S32))).bind fun y104 => (if y104.length + l0.length < 2932031007402 then (some ((y104 ++ l0), false, 0)) else (none))) else (if (l0.length : Int) ≥ 400 then (some (([] : List (S32)), false, 9)) else ((some (([] : List (S32)) : List (S32))).bind fun y110 => (if y110.length + l0.length < 2932031007402 then ((some (y110 ++ l0 : List (S32))).bind fun y113 => ((some (([(⟨a1_0, a1_1, a1_2, a1_3, a1_4⟩ : S32)] : List (S32)) : List (S32))).bind fun y116 => (if y113.length + y116.length < 2932031007402 then (some ((y113 ++ y116), true, 0)) else (none)))) else (none)))))) = some (r1, r2, r3) := h
 clear h
 replace H := Option.bind_eq_some_iff.mp H
 obtain ⟨t103, A30, H⟩ := H
 replace H : (if t103 = true then ((some (([] : List (S32)) : List (S32))).bind fun y104 => (if y104.length + l0.length < 2932031007402 then (some ((y104 ++ l0), false, 0)) else (none))) else (if (l0.length : Int) ≥ 400 then (some (([] : List (S32)), false, 9)) else ((some (([] : List (S32)) : List (S32))).bind fun y110 => (if y110.length + l0.length < 2932031007402 then ((some (y110 ++ l0 : List (S32))).bind fun y113 => ((some (([(⟨a1_0, a1_1, a1_2, a1_3, a1_4⟩ : S32)] : List (S32)) : List (S32))).bind fun y116 => (if y113.length + y116.length < 2932031007402 then (some ((y113 ++ y116), true, 0)) else (none)))) else (none))))) = some (r1, r2, r3) := H
 have A3 := AM A30
 clear A30
 by_cases c4 : t103 = true
 ·
  subst c4
  have H1 : ((some (([] : List (S32)) : List (S32))).bind fun y104 => (if y104.length + l0.length < 2932031007402 then (some ((y104 ++ l0), false, 0)) else (none))) = some (r1, r2, r3) := by rw [if_pos rfl] at H; exact H
  clear H
  have H := H1
  clear H1
  obtain ⟨y104, hy104⟩ : ∃ y_ : List (S32), y_ = (([] : List (S32))) := ⟨_, rfl⟩
  replace H : (if y104.length + l0.length < 2932031007402 then (some ((y104 ++ l0), false, 0)) else (none)) = some (r1, r2, r3) := by first | (rw [hy104]; with_reducible exact H) | (have H2_ := (Option.bind_some _ _).symm.trans H; rw [hy104]; with_reducible exact H2_) | (have H2_ := (Option.bind_some _ _).symm.trans H; with_reducible exact H2_) | with_reducible exact H | (rw [hy104]; exact H) | exact H
  have Ny104 := AM hy104
  clear hy104
  by_cases c5 : y104.length + l0.length < 2932031007402
  ·
   rw [if_pos c5] at H
   have LMc5 := AM c5
   clear c5
   obtain ⟨y107, hy107⟩ : ∃ y_ : List (S32), y_ = (y104 ++ l0) := ⟨_, rfl⟩
   replace H : (some (y107, false, 0)) = some (r1, r2, r3) := by first | (rw [hy107]; with_reducible exact H) | (have H2_ := (Option.bind_some _ _).symm.trans H; rw [hy107]; with_reducible exact H2_) | (have H2_ := (Option.bind_some _ _).symm.trans H; with_reducible exact H2_) | with_reducible exact H | (rw [hy107]; exact H) | exact H
   have Ny107 := AM hy107
   clear hy107
   simp only [Option.some.injEq, Prod.mk.injEq] at H
   obtain ⟨rfl, rfl, rfl⟩ := H
   go_enter Try.func70, Try.ntmps70
   go_wp2_with (first | ((with_reducible refine gate_dst (N := 3) rfl ?_); refine box_event (by rfl) (N := 3) (by rfl) (cs := #[.int .i64 a1_0, .int .i64 a1_1, .int .i64 a1_2, .string a1_3, .int .i64 a1_4]) (t := 32) (by first | (go_simp; done) | (go_simp; rfl)) ?_; intro gb101 hg w6 hbox hb; have n0_ := AM (below_step (by repeat (first | (with_reducible first | exact HB.out | apply bA | apply bN | apply bD) | exact HB.out)) hb); have n1_ := AM (hbox); have n2_ := AM ((by rw [hg]; exact (bZ (by repeat (first | (with_reducible first | exact HB.out | apply bA | apply bN | apply bD) | exact HB.out))) : w.heap.size ≤ gb101)); have n3_ := n2_; clear HB; have HB := n0_; have BK101 := n1_; have GW101 := n2_; have GE101 := n3_; clear n0_ n1_ n2_ n3_; clear hb hbox hg) | ((with_reducible refine gate_dst (N := 4) rfl ?_); refine box_event (by rfl) (N := 4) (by rfl) (cs := #[.slice none 0 0, .bool false, .int .i64 0]) (t := 29) (by first | (go_simp; done) | (go_simp; rfl)) ?_; intro gb102 hg w7 hbox hb; have n0_ := AM (blk_below (g := gb101) (o := .cells #[.int .i64 a1_0, .int .i64 a1_1, .int .i64 a1_2, .string a1_3, .int .i64 a1_4] 32 (0, 0)) (by (with_reducible repeat (first | apply kN | apply kD | apply kA)); exact BK101.out) hb); have n1_ := AM (below_step (by repeat (first | (with_reducible first | exact HB.out | apply bA | apply bN | apply bD | refine bS ?_ GE101.out) | exact HB.out)) hb); have n2_ := AM (hbox); have n3_ := AM ((by rw [hg]; exact (bZ (by repeat (first | (with_reducible first | exact HB.out | apply bA | apply bN | apply bD | refine bS ?_ GE101.out) | exact HB.out))) : w.heap.size ≤ gb102)); have n4_ := n3_; have n5_ := AM ((by rw [hg]; exact Nat.ne_of_lt (blk_lt (g := gb101) (o := .cells #[.int .i64 a1_0, .int .i64 a1_1, .int .i64 a1_2, .string a1_3, .int .i64 a1_4] 32 (0, 0)) (by (with_reducible repeat (first | apply kN | apply kD | apply kA)); exact BK101.out)) : gb101 ≠ gb102)); have n6_ := AM ((by rw [hg]; exact Nat.ne_of_gt (blk_lt (g := gb101) (o := .cells #[.int .i64 a1_0, .int .i64 a1_1, .int .i64 a1_2, .string a1_3, .int .i64 a1_4] 32 (0, 0)) (by (with_reducible repeat (first | apply kN | apply kD | apply kA)); exact BK101.out)) : gb102 ≠ gb101)); clear BK101; clear HB; have BK101 := n0_; have HB := n1_; have BK102 := n2_; have GW102 := n3_; have GE102 := n4_; have NB101_102 := n5_; have NB102_101 := n6_; clear n0_ n1_ n2_ n3_ n4_ n5_ n6_; clear hb hbox hg; have hnb8 := NB101_102.out; have hnc8 := NB102_101.out; have hcz9_0 : w7.cell? ⟨gb101, 0, none⟩ = some (.int .i64 a1_0) := (kC BK101.out 0).trans rfl; have hcz9_1 : w7.cell? ⟨gb101, 1, none⟩ = some (.int .i64 a1_1) := (kC BK101.out 1).trans rfl; have hcz9_2 : w7.cell? ⟨gb101, 2, none⟩ = some (.int .i64 a1_2) := (kC BK101.out 2).trans rfl; have hcz9_3 : w7.cell? ⟨gb101, 3, none⟩ = some (.string a1_3) := (kC BK101.out 3).trans rfl; have hcz9_4 : w7.cell? ⟨gb101, 4, none⟩ = some (.int .i64 a1_4) := (kC BK101.out 4).trans rfl; have hfz9_0 := fZ BK101.out 0; have hfz9_1 := fZ BK101.out 1; have hfz9_2 := fZ BK101.out 2; have hfz9_3 := fZ BK101.out 3; have hfz9_4 := fZ BK101.out 4) | ((with_reducible refine gate_callee (f := 111) rfl ?_); refine goesL_ (some 7) rfl rfl Try.func111 (by kernel_rfl) rfl #[.slice A0 l0.length c0, .agg #[.int .i64 a1_0, .int .i64 a1_1, .int .i64 a1_2, .string a1_3, .int .i64 a1_4]] rfl (by (try simp only [mA, mB, mC]); first | done | rfl | (simp only [mD, mE]; rfl)) ?_; (with_reducible refine (spec_l11Has.calls k _ _ l0 a1_0 a1_1 a1_2 a1_3 a1_4 true _ ?side1 ?side2 A3.out).mono ?_); (case side1 => repeat (first | exact (cB HR0.out HB.out) | (with_reducible refine cA ?_ _) | (with_reducible refine cN ?_ _) | (with_reducible refine cD ?_))); (case side2 => exact HC0.out); rintro e w10 ⟨rfl, hb⟩; refine ⟨_, rfl, ?_⟩; have n0_ := AM (blk_below (g := gb101) (o := .cells #[.int .i64 a1_0, .int .i64 a1_1, .int .i64 a1_2, .string a1_3, .int .i64 a1_4] 32 (0, 0)) (by (with_reducible repeat (first | apply kN | apply kD | apply kA)); exact BK101.out) hb); have n1_ := AM (blk_below (g := gb102) (o := .cells #[.slice none 0 0, .bool false, .int .i64 0] 29 (0, 0)) (by (with_reducible repeat (first | apply kN | apply kD | apply kA)); exact BK102.out) hb); have n2_ := AM (below_step (by repeat (first | (with_reducible first | exact HB.out | apply bA | apply bN | apply bD | refine bS ?_ GE101.out | refine bS ?_ GE102.out) | exact HB.out)) hb); clear BK101; clear BK102; clear HB; have BK101 := n0_; have BK102 := n1_; have HB := n2_; clear n0_ n1_ n2_; (try clear hb); (try clear hb2); (try clear hk); (try clear hi)) | ((with_reducible refine gate_dst (N := 8) rfl ?_); refine Kd.R_lit k32 _ 32 ?hg (N := 8) ?hd (xs := ([] : List (S32))) (inner := []) (ok := fun _ => True) (okp := fun _ => True) ?hr ?hp (fun _ hk => hk) trivial (Below.refl _ _) (Nat.le_refl _) (by simp) ?_; (case hd => rfl); (case hg => rfl); (case hr => first | (go_simp; done) | (go_simp; rfl)); (case hp => exact (Reps.none _ _)); intro v105 w11 ho12 hb hg_ hnew_; clear hg_ hnew_; (first | rw [← Ny104.out] at ho12 | (simp only [Int.reduceToNat] at ho12; rw [← Ny104.out] at ho12)); have n0_ := AM (Kd.R_lower (Kd.R_newB ho12 (g := gb101) (o := .cells #[.int .i64 a1_0, .int .i64 a1_1, .int .i64 a1_2, .string a1_3, .int .i64 a1_4] 32 (0, 0)) (by (with_reducible repeat (first | apply kN | apply kD | apply kA)); exact BK101.out)) (bZ (by repeat (first | (with_reducible first | exact HB.out | apply bA | apply bN | apply bD | refine bS ?_ GE101.out | refine bS ?_ GE102.out) | exact HB.out)))); have n1_ := AM (blk_below (g := gb101) (o := .cells #[.int .i64 a1_0, .int .i64 a1_1, .int .i64 a1_2, .string a1_3, .int .i64 a1_4] 32 (0, 0)) (by (with_reducible repeat (first | apply kN | apply kD | apply kA)); exact BK101.out) hb); have n2_ := AM (blk_below (g := gb102) (o := .cells #[.slice none 0 0, .bool false, .int .i64 0] 29 (0, 0)) (by (with_reducible repeat (first | apply kN | apply kD | apply kA)); exact BK102.out) hb); have n3_ := AM (below_step (by repeat (first | (with_reducible first | exact HB.out | apply bA | apply bN | apply bD | refine bS ?_ GE101.out | refine bS ?_ GE102.out) | exact HB.out)) hb); clear BK101; clear BK102; clear HB; have HO106 := n0_; have BK101 := n1_; have BK102 := n2_; have HB := n3_; clear n0_ n1_ n2_ n3_; clear hb ho12) | ((with_reducible refine gate_builtin (b := .append) (xs := #[.tmp 8, .tmp 9]) rfl ?_); at_builtin; refine Kd.R_append_rows k32 (w0 := w) w.heap.size rfl (.tmp 8) (.tmp 9) 27 32 (.agg #[(.int .i64 0), (.int .i64 0), (.int .i64 0), (.string ⟨#[]⟩), (.int .i64 0)]) 48 rfl Try.underlying27 info32 rfl (by decide) (by omega) v105 y104 l0 _ _ _ (fun k_ => k_ ≠ gb101) (fun _ => False) rfl rfl ?aO ?aR (fun _ _ h => h) (fun _ h => h.elim) ?aF ?aB ?aS ?aL ?_; (case aR => repeat (first | exact (cB HR0.out HB.out) | (with_reducible refine cA ?_ _) | (with_reducible refine cN ?_ _) | (with_reducible refine cD ?_))); (case aB => exact (by repeat (first | (with_reducible first | exact HB.out | apply bA | apply bN | apply bD | refine bS ?_ GE101.out | refine bS ?_ GE102.out) | exact HB.out))); (case aF => exact (fun k_ hk => Kd.freshB (g := gb101) (o := .cells #[.int .i64 a1_0, .int .i64 a1_1, .int .i64 a1_2, .string a1_3, .int .i64 a1_4] 32 (0, 0)) (by (with_reducible repeat (first | apply kN | apply kD | apply kA)); exact BK101.out) k_ hk)); (case aO => exact (by (with_reducible repeat (first | apply rA | apply rN | apply rD)); exact Kd.R_mono HO106.out (fun _ hk => hk.2))); (case aS => exact (bZ (by repeat (first | (with_reducible first | exact HB.out | apply bA | apply bN | apply bD | refine bS ?_ GE101.out | refine bS ?_ GE102.out) | exact HB.out)))); (case aL => have := LMc5.out; omega); intro v108 w13 ho hb hg hat; rw [← Ny107.out] at ho; have n0_ := AM (blk_grown (g := gb101) (o := .cells #[.int .i64 a1_0, .int .i64 a1_1, .int .i64 a1_2, .string a1_3, .int .i64 a1_4] 32 (0, 0)) (by (with_reducible repeat (first | apply kN | apply kD | apply kA)); exact BK101.out) hg (Kd.R_away HO106.out (fun _ hk => hk.2))); have n1_ := AM (blk_grown (g := gb102) (o := .cells #[.slice none 0 0, .bool false, .int .i64 0] 29 (0, 0)) (by (with_reducible repeat (first | apply kN | apply kD | apply kA)); exact BK102.out) hg (Kd.R_ne HO106.out BK102.out (by decide))); have n2_ := AM (hb); have n3_ := AM (ho); clear BK101; clear BK102; clear HB; clear HO106; have BK101 := n0_; have BK102 := n1_; have HB := n2_; have HO109 := n3_; clear n0_ n1_ n2_ n3_; clear ho hb hg hat; obtain ⟨Ao14, co14, eo14⟩ := Kd.R_slice HO109.out; subst eo14; have hcz15_0 : w13.cell? ⟨gb102, 0, none⟩ = some (.slice none 0 0) := (kC BK102.out 0).trans rfl; have hcz15_1 : w13.cell? ⟨gb102, 1, none⟩ = some (.bool false) := (kC BK102.out 1).trans rfl; have hcz15_2 : w13.cell? ⟨gb102, 2, none⟩ = some (.int .i64 0) := (kC BK102.out 2).trans rfl; have hfz15_0 := fZ BK102.out 0; have hfz15_1 := fZ BK102.out 1; have hfz15_2 := fZ BK102.out 2))
   refine bodyPost_ret (results_cell_row rfl _ _ gb102 29 #[.slice Ao14 y107.length co14, .bool false, .int .i64 0] (0, 0) _ rfl (by (with_reducible repeat (first | apply kN | apply kD | apply kA)); refine blk_put (cs := #[.slice Ao14 y107.length co14, .bool false, .int .i64 0]) ?_ 2 _ rfl; (with_reducible repeat (first | apply kN | apply kD | apply kA)); refine blk_put (cs := #[.slice Ao14 y107.length co14, .bool false, .int .i64 0]) ?_ 1 _ rfl; (with_reducible repeat (first | apply kN | apply kD | apply kA)); refine blk_put (cs := #[.slice none 0 0, .bool false, .int .i64 0]) ?_ 0 _ rfl; (with_reducible repeat (first | apply kN | apply kD | apply kA)); exact BK102.out) Try.underlying29 rfl (by kernel_rfl)) rfl ?_
   exact ⟨_, by first | rfl | (simp [*, errW_none, errW_some] <;> rfl), by (with_reducible repeat (first | apply rA | apply rN | apply rD)); exact Kd.R_mono (Kd.R_far (p := ⟨gb102, 2, none⟩) (Kd.R_far (p := ⟨gb102, 1, none⟩) (Kd.R_far (p := ⟨gb102, 0, none⟩) (Kd.R_types HO109.out BK102.out (by decide)) (fun _ hk => hk.2) (.slice Ao14 y107.length co14)) (fun _ hk => hk.2) (.bool false)) (fun _ hk => hk.2) (.int .i64 0)) (fun _ hk => trivial), by repeat (first | (with_reducible first | exact HB.out | apply bA | apply bN | apply bD | refine bS ?_ GE101.out | refine bS ?_ GE102.out) | exact HB.out)⟩
  ·
   rw [if_neg c5] at H
   exact absurd H (by simp)
 ·
  replace c4 := Bool.eq_false_iff.mpr c4
  subst c4
  have H1 : (if (l0.length : Int) ≥ 400 then (some (([] : List (S32)), false, 9)) else ((some (([] : List (S32)) : List (S32))).bind fun y110 => (if y110.length + l0.length < 2932031007402 then ((some (y110 ++ l0 : List (S32))).bind fun y113 => ((some (([(⟨a1_0, a1_1, a1_2, a1_3, a1_4⟩ : S32)] : List (S32)) : List (S32))).bind fun y116 => (if y113.length + y116.length < 2932031007402 then (some ((y113 ++ y116), true, 0)) else (none)))) else (none)))) = some (r1, r2, r3) := by rw [if_neg (show ¬ (false = true) by decide)] at H; exact H
  clear H
  have H := H1
  clear H1
  by_cases c16 : (l0.length : Int) ≥ 400
  ·
   rw [if_pos c16] at H
   have c16b0 : decide (400 ≤ (l0.length : Int)) = true := decide_eq_true c16
   have c16b1 : decide (400 ≤ l0.length) = true := decide_eq_true (by omega)
   clear c16
   simp only [Option.some.injEq, Prod.mk.injEq] at H
   obtain ⟨rfl, rfl, rfl⟩ := H
   go_enter Try.func70, Try.ntmps70
   go_wp2_with (first | ((with_reducible refine gate_dst (N := 3) rfl ?_); refine box_event (by rfl) (N := 3) (by rfl) (cs := #[.int .i64 a1_0, .int .i64 a1_1, .int .i64 a1_2, .string a1_3, .int .i64 a1_4]) (t := 32) (by first | (go_simp; done) | (go_simp; rfl)) ?_; intro gb101 hg w17 hbox hb; have n0_ := AM (below_step (by repeat (first | (with_reducible first | exact HB.out | apply bA | apply bN | apply bD) | exact HB.out)) hb); have n1_ := AM (hbox); have n2_ := AM ((by rw [hg]; exact (bZ (by repeat (first | (with_reducible first | exact HB.out | apply bA | apply bN | apply bD) | exact HB.out))) : w.heap.size ≤ gb101)); have n3_ := n2_; clear HB; have HB := n0_; have BK101 := n1_; have GW101 := n2_; have GE101 := n3_; clear n0_ n1_ n2_ n3_; clear hb hbox hg) | ((with_reducible refine gate_dst (N := 4) rfl ?_); refine box_event (by rfl) (N := 4) (by rfl) (cs := #[.slice none 0 0, .bool false, .int .i64 0]) (t := 29) (by first | (go_simp; done) | (go_simp; rfl)) ?_; intro gb102 hg w18 hbox hb; have n0_ := AM (blk_below (g := gb101) (o := .cells #[.int .i64 a1_0, .int .i64 a1_1, .int .i64 a1_2, .string a1_3, .int .i64 a1_4] 32 (0, 0)) (by (with_reducible repeat (first | apply kN | apply kD | apply kA)); exact BK101.out) hb); have n1_ := AM (below_step (by repeat (first | (with_reducible first | exact HB.out | apply bA | apply bN | apply bD | refine bS ?_ GE101.out) | exact HB.out)) hb); have n2_ := AM (hbox); have n3_ := AM ((by rw [hg]; exact (bZ (by repeat (first | (with_reducible first | exact HB.out | apply bA | apply bN | apply bD | refine bS ?_ GE101.out) | exact HB.out))) : w.heap.size ≤ gb102)); have n4_ := n3_; have n5_ := AM ((by rw [hg]; exact Nat.ne_of_lt (blk_lt (g := gb101) (o := .cells #[.int .i64 a1_0, .int .i64 a1_1, .int .i64 a1_2, .string a1_3, .int .i64 a1_4] 32 (0, 0)) (by (with_reducible repeat (first | apply kN | apply kD | apply kA)); exact BK101.out)) : gb101 ≠ gb102)); have n6_ := AM ((by rw [hg]; exact Nat.ne_of_gt (blk_lt (g := gb101) (o := .cells #[.int .i64 a1_0, .int .i64 a1_1, .int .i64 a1_2, .string a1_3, .int .i64 a1_4] 32 (0, 0)) (by (with_reducible repeat (first | apply kN | apply kD | apply kA)); exact BK101.out)) : gb102 ≠ gb101)); clear BK101; clear HB; have BK101 := n0_; have HB := n1_; have BK102 := n2_; have GW102 := n3_; have GE102 := n4_; have NB101_102 := n5_; have NB102_101 := n6_; clear n0_ n1_ n2_ n3_ n4_ n5_ n6_; clear hb hbox hg; have hnb19 := NB101_102.out; have hnc19 := NB102_101.out; have hcz20_0 : w18.cell? ⟨gb101, 0, none⟩ = some (.int .i64 a1_0) := (kC BK101.out 0).trans rfl; have hcz20_1 : w18.cell? ⟨gb101, 1, none⟩ = some (.int .i64 a1_1) := (kC BK101.out 1).trans rfl; have hcz20_2 : w18.cell? ⟨gb101, 2, none⟩ = some (.int .i64 a1_2) := (kC BK101.out 2).trans rfl; have hcz20_3 : w18.cell? ⟨gb101, 3, none⟩ = some (.string a1_3) := (kC BK101.out 3).trans rfl; have hcz20_4 : w18.cell? ⟨gb101, 4, none⟩ = some (.int .i64 a1_4) := (kC BK101.out 4).trans rfl; have hfz20_0 := fZ BK101.out 0; have hfz20_1 := fZ BK101.out 1; have hfz20_2 := fZ BK101.out 2; have hfz20_3 := fZ BK101.out 3; have hfz20_4 := fZ BK101.out 4) | ((with_reducible refine gate_callee (f := 111) rfl ?_); refine goesL_ (some 7) rfl rfl Try.func111 (by kernel_rfl) rfl #[.slice A0 l0.length c0, .agg #[.int .i64 a1_0, .int .i64 a1_1, .int .i64 a1_2, .string a1_3, .int .i64 a1_4]] rfl (by (try simp only [mA, mB, mC]); first | done | rfl | (simp only [mD, mE]; rfl)) ?_; (with_reducible refine (spec_l11Has.calls k _ _ l0 a1_0 a1_1 a1_2 a1_3 a1_4 false _ ?side1 ?side2 A3.out).mono ?_); (case side1 => repeat (first | exact (cB HR0.out HB.out) | (with_reducible refine cA ?_ _) | (with_reducible refine cN ?_ _) | (with_reducible refine cD ?_))); (case side2 => exact HC0.out); rintro e w21 ⟨rfl, hb⟩; refine ⟨_, rfl, ?_⟩; have n0_ := AM (blk_below (g := gb101) (o := .cells #[.int .i64 a1_0, .int .i64 a1_1, .int .i64 a1_2, .string a1_3, .int .i64 a1_4] 32 (0, 0)) (by (with_reducible repeat (first | apply kN | apply kD | apply kA)); exact BK101.out) hb); have n1_ := AM (blk_below (g := gb102) (o := .cells #[.slice none 0 0, .bool false, .int .i64 0] 29 (0, 0)) (by (with_reducible repeat (first | apply kN | apply kD | apply kA)); exact BK102.out) hb); have n2_ := AM (below_step (by repeat (first | (with_reducible first | exact HB.out | apply bA | apply bN | apply bD | refine bS ?_ GE101.out | refine bS ?_ GE102.out) | exact HB.out)) hb); clear BK101; clear BK102; clear HB; have BK101 := n0_; have BK102 := n1_; have HB := n2_; clear n0_ n1_ n2_; (try clear hb); (try clear hb2); (try clear hk); (try clear hi); have hcz22_0 : w21.cell? ⟨gb102, 0, none⟩ = some (.slice none 0 0) := (kC BK102.out 0).trans rfl; have hcz22_1 : w21.cell? ⟨gb102, 1, none⟩ = some (.bool false) := (kC BK102.out 1).trans rfl; have hcz22_2 : w21.cell? ⟨gb102, 2, none⟩ = some (.int .i64 0) := (kC BK102.out 2).trans rfl; have hfz22_0 := fZ BK102.out 0; have hfz22_1 := fZ BK102.out 1; have hfz22_2 := fZ BK102.out 2))
   refine bodyPost_ret (results_cell_row rfl _ _ gb102 29 #[.slice none 0 0, .bool false, .int .i64 9] (0, 0) _ rfl (by (with_reducible repeat (first | apply kN | apply kD | apply kA)); refine blk_put (cs := #[.slice none 0 0, .bool false, .int .i64 0]) ?_ 2 _ rfl; (with_reducible repeat (first | apply kN | apply kD | apply kA)); refine blk_put (cs := #[.slice none 0 0, .bool false, .int .i64 0]) ?_ 1 _ rfl; (with_reducible repeat (first | apply kN | apply kD | apply kA)); refine blk_put (cs := #[.slice none 0 0, .bool false, .int .i64 0]) ?_ 0 _ rfl; (with_reducible repeat (first | apply kN | apply kD | apply kA)); exact BK102.out) Try.underlying29 rfl (by kernel_rfl)) rfl ?_
   exact ⟨_, by first | rfl | (simp [*, errW_none, errW_some] <;> rfl), by first | exact Kd.R_nil _ _ _ _ _ | exact Kd.N_nil _ _ _ _ _ | exact Kd.V_nil _ _ _ _ _ | exact Kd.Q_nil _ _ _ _ _ | exact Kd.S_nil _ _ _ _ _, by repeat (first | (with_reducible first | exact HB.out | apply bA | apply bN | apply bD | refine bS ?_ GE101.out | refine bS ?_ GE102.out) | exact HB.out)⟩
  ·
   rw [if_neg c16] at H
   have c16b0 : decide (400 ≤ (l0.length : Int)) = false := decide_eq_false c16
   have c16b1 : decide (400 ≤ l0.length) = false := decide_eq_false (by omega)
   clear c16
   obtain ⟨y110, hy110⟩ : ∃ y_ : List (S32), y_ = (([] : List (S32))) := ⟨_, rfl⟩
   replace H : (if y110.length + l0.length < 2932031007402 then ((some (y110 ++ l0 : List (S32))).bind fun y113 => ((some (([(⟨a1_0, a1_1, a1_2, a1_3, a1_4⟩ : S32)] : List (S32)) : List (S32))).bind fun y116 => (if y113.length + y116.length < 2932031007402 then (some ((y113 ++ y116), true, 0)) else (none)))) else (none)) = some (r1, r2, r3) := by first | (rw [hy110]; with_reducible exact H) | (have H2_ := (Option.bind_some _ _).symm.trans H; rw [hy110]; with_reducible exact H2_) | (have H2_ := (Option.bind_some _ _).symm.trans H; with_reducible exact H2_) | with_reducible exact H | (rw [hy110]; exact H) | exact H
   have Ny110 := AM hy110
   clear hy110
   by_cases c23 : y110.length + l0.length < 2932031007402
   ·
    rw [if_pos c23] at H
    have LMc23 := AM c23
    clear c23
    obtain ⟨y113, hy113⟩ : ∃ y_ : List (S32), y_ = (y110 ++ l0) := ⟨_, rfl⟩
    replace H : ((some (([(⟨a1_0, a1_1, a1_2, a1_3, a1_4⟩ : S32)] : List (S32)) : List (S32))).bind fun y116 => (if y113.length + y116.length < 2932031007402 then (some ((y113 ++ y116), true, 0)) else (none))) = some (r1, r2, r3) := by first | (rw [hy113]; with_reducible exact H) | (have H2_ := (Option.bind_some _ _).symm.trans H; rw [hy113]; with_reducible exact H2_) | (have H2_ := (Option.bind_some _ _).symm.trans H; with_reducible exact H2_) | with_reducible exact H | (rw [hy113]; exact H) | exact H
    have Ny113 := AM hy113
    clear hy113
    obtain ⟨y116, hy116⟩ : ∃ y_ : List (S32), y_ = (([(⟨a1_0, a1_1, a1_2, a1_3, a1_4⟩ : S32)] : List (S32))) := ⟨_, rfl⟩
    replace H : (if y113.length + y116.length < 2932031007402 then (some ((y113 ++ y116), true, 0)) else (none)) = some (r1, r2, r3) := by first | (rw [hy116]; with_reducible exact H) | (have H2_ := (Option.bind_some _ _).symm.trans H; rw [hy116]; with_reducible exact H2_) | (have H2_ := (Option.bind_some _ _).symm.trans H; with_reducible exact H2_) | with_reducible exact H | (rw [hy116]; exact H) | exact H
    have Ny116 := AM hy116
    clear hy116
    by_cases c24 : y113.length + y116.length < 2932031007402
    ·
     rw [if_pos c24] at H
     have LMc24 := AM c24
     clear c24
     obtain ⟨y119, hy119⟩ : ∃ y_ : List (S32), y_ = (y113 ++ y116) := ⟨_, rfl⟩
     replace H : (some (y119, true, 0)) = some (r1, r2, r3) := by first | (rw [hy119]; with_reducible exact H) | (have H2_ := (Option.bind_some _ _).symm.trans H; rw [hy119]; with_reducible exact H2_) | (have H2_ := (Option.bind_some _ _).symm.trans H; with_reducible exact H2_) | with_reducible exact H | (rw [hy119]; exact H) | exact H
     have Ny119 := AM hy119
     clear hy119
     simp only [Option.some.injEq, Prod.mk.injEq] at H
     obtain ⟨rfl, rfl, rfl⟩ := H
     go_enter Try.func70, Try.ntmps70
     try go_wp2_with (first | ((with_reducible refine gate_dst (N := 3) rfl ?_); refine box_event (by rfl) (N := 3) (by rfl) (cs := #[.int .i64 a1_0, .int .i64 a1_1, .int .i64 a1_2, .string a1_3, .int .i64 a1_4]) (t := 32) (by first | (go_simp; done) | (go_simp; rfl)) ?_; intro gb101 hg w25 hbox hb; have n0_ := AM (below_step (by repeat (first | (with_reducible first | exact HB.out | apply bA | apply bN | apply bD) | exact HB.out)) hb); have n1_ := AM (hbox); have n2_ := AM ((by rw [hg]; exact (bZ (by repeat (first | (with_reducible first | exact HB.out | apply bA | apply bN | apply bD) | exact HB.out))) : w.heap.size ≤ gb101)); have n3_ := n2_; clear HB; have HB := n0_; have BK101 := n1_; have GW101 := n2_; have GE101 := n3_; clear n0_ n1_ n2_ n3_; clear hb hbox hg) | ((with_reducible refine gate_dst (N := 4) rfl ?_); refine box_event (by rfl) (N := 4) (by rfl) (cs := #[.slice none 0 0, .bool false, .int .i64 0]) (t := 29) (by first | (go_simp; done) | (go_simp; rfl)) ?_; intro gb102 hg w26 hbox hb; have n0_ := AM (blk_below (g := gb101) (o := .cells #[.int .i64 a1_0, .int .i64 a1_1, .int .i64 a1_2, .string a1_3, .int .i64 a1_4] 32 (0, 0)) (by (with_reducible repeat (first | apply kN | apply kD | apply kA)); exact BK101.out) hb); have n1_ := AM (below_step (by repeat (first | (with_reducible first | exact HB.out | apply bA | apply bN | apply bD | refine bS ?_ GE101.out) | exact HB.out)) hb); have n2_ := AM (hbox); have n3_ := AM ((by rw [hg]; exact (bZ (by repeat (first | (with_reducible first | exact HB.out | apply bA | apply bN | apply bD | refine bS ?_ GE101.out) | exact HB.out))) : w.heap.size ≤ gb102)); have n4_ := n3_; have n5_ := AM ((by rw [hg]; exact Nat.ne_of_lt (blk_lt (g := gb101) (o := .cells #[.int .i64 a1_0, .int .i64 a1_1, .int .i64 a1_2, .string a1_3, .int .i64 a1_4] 32 (0, 0)) (by (with_reducible repeat (first | apply kN | apply kD | apply kA)); exact BK101.out)) : gb101 ≠ gb102)); have n6_ := AM ((by rw [hg]; exact Nat.ne_of_gt (blk_lt (g := gb101) (o := .cells #[.int .i64 a1_0, .int .i64 a1_1, .int .i64 a1_2, .string a1_3, .int .i64 a1_4] 32 (0, 0)) (by (with_reducible repeat (first | apply kN | apply kD | apply kA)); exact BK101.out)) : gb102 ≠ gb101)); clear BK101; clear HB; have BK101 := n0_; have HB := n1_; have BK102 := n2_; have GW102 := n3_; have GE102 := n4_; have NB101_102 := n5_; have NB102_101 := n6_; clear n0_ n1_ n2_ n3_ n4_ n5_ n6_; clear hb hbox hg; have hnb27 := NB101_102.out; have hnc27 := NB102_101.out; have hcz28_0 : w26.cell? ⟨gb101, 0, none⟩ = some (.int .i64 a1_0) := (kC BK101.out 0).trans rfl; have hcz28_1 : w26.cell? ⟨gb101, 1, none⟩ = some (.int .i64 a1_1) := (kC BK101.out 1).trans rfl; have hcz28_2 : w26.cell? ⟨gb101, 2, none⟩ = some (.int .i64 a1_2) := (kC BK101.out 2).trans rfl; have hcz28_3 : w26.cell? ⟨gb101, 3, none⟩ = some (.string a1_3) := (kC BK101.out 3).trans rfl; have hcz28_4 : w26.cell? ⟨gb101, 4, none⟩ = some (.int .i64 a1_4) := (kC BK101.out 4).trans rfl; have hfz28_0 := fZ BK101.out 0; have hfz28_1 := fZ BK101.out 1; have hfz28_2 := fZ BK101.out 2; have hfz28_3 := fZ BK101.out 3; have hfz28_4 := fZ BK101.out 4) | ((with_reducible refine gate_callee (f := 111) rfl ?_); refine goesL_ (some 7) rfl rfl Try.func111 (by kernel_rfl) rfl #[.slice A0 l0.length c0, .agg #[.int .i64 a1_0, .int .i64 a1_1, .int .i64 a1_2, .string a1_3, .int .i64 a1_4]] rfl (by (try simp only [mA, mB, mC]); first | done | rfl | (simp only [mD, mE]; rfl)) ?_; (with_reducible refine (spec_l11Has.calls k _ _ l0 a1_0 a1_1 a1_2 a1_3 a1_4 false _ ?side1 ?side2 A3.out).mono ?_); (case side1 => repeat (first | exact (cB HR0.out HB.out) | (with_reducible refine cA ?_ _) | (with_reducible refine cN ?_ _) | (with_reducible refine cD ?_))); (case side2 => exact HC0.out); rintro e w29 ⟨rfl, hb⟩; refine ⟨_, rfl, ?_⟩; have n0_ := AM (blk_below (g := gb101) (o := .cells #[.int .i64 a1_0, .int .i64 a1_1, .int .i64 a1_2, .string a1_3, .int .i64 a1_4] 32 (0, 0)) (by (with_reducible repeat (first | apply kN | apply kD | apply kA)); exact BK101.out) hb); have n1_ := AM (blk_below (g := gb102) (o := .cells #[.slice none 0 0, .bool false, .int .i64 0] 29 (0, 0)) (by (with_reducible repeat (first | apply kN | apply kD | apply kA)); exact BK102.out) hb); have n2_ := AM (below_step (by repeat (first | (with_reducible first | exact HB.out | apply bA | apply bN | apply bD | refine bS ?_ GE101.out | refine bS ?_ GE102.out) | exact HB.out)) hb); clear BK101; clear BK102; clear HB; have BK101 := n0_; have BK102 := n1_; have HB := n2_; clear n0_ n1_ n2_; (try clear hb); (try clear hb2); (try clear hk); (try clear hi)))
     have n0_ := AM (kD BK101.out)
     have n1_ := AM (kD BK102.out)
     have n2_ := AM (bD HB.out)
     clear BK101
     clear BK102
     clear HB
     have BK101 := n0_
     have BK102 := n1_
     have HB := n2_
     clear n0_ n1_ n2_
     refine start_ (n := 8) (S := fun w' => w'.cell? ⟨gb101, 0, none⟩ = some (.int .i64 a1_0) ∧ w'.cell? ⟨gb101, 1, none⟩ = some (.int .i64 a1_1) ∧ w'.cell? ⟨gb101, 2, none⟩ = some (.int .i64 a1_2) ∧ w'.cell? ⟨gb101, 3, none⟩ = some (.string a1_3) ∧ w'.cell? ⟨gb101, 4, none⟩ = some (.int .i64 a1_4)) (ds := []) (upTo 0 8) (by kernel_rfl) rfl rfl ⟨(kC BK101.out 0).trans rfl, (kC BK101.out 1).trans rfl, (kC BK101.out 2).trans rfl, (kC BK101.out 3).trans rfl, (kC BK101.out 4).trans rfl⟩ (fun hHeld => ?_); refine with_tabW spec_l11Add.tab5 spec_l11Add.bits5 (fun HT_ HW_ => ?_)
     generalize w29.drew = w30 at BK101 BK102 HB hHeld ⊢
     refine pF2 1 17 spec_l11Add.b0 ?_
     refine pT2 3 19 spec_l11Add.b1 ?_ hHeld
     refine join_ (σ := Value × Value × Value) 3 (upTo 5 8) (fun s_ => [(16, s_.1), (18, s_.2.1), (20, s_.2.2)]) (fun s_ w' => (w'.cell? ⟨gb101, 0, none⟩ = some (.int .i64 a1_0) ∧ w'.cell? ⟨gb101, 1, none⟩ = some (.int .i64 a1_1) ∧ w'.cell? ⟨gb101, 2, none⟩ = some (.int .i64 a1_2) ∧ w'.cell? ⟨gb101, 3, none⟩ = some (.string a1_3) ∧ w'.cell? ⟨gb101, 4, none⟩ = some (.int .i64 a1_4)) ∧ (Kd.R k32 32 w' w.heap.size (fun k_ => some k_ ≠ (s_.2.2 : Value).ownBlock ∧ k_ ≠ gb101) s_.2.1 y113) ∧ (Kd.R k32 32 w' w.heap.size (fun k_ => some k_ ≠ (s_.2.1 : Value).ownBlock ∧ k_ ≠ gb101) s_.2.2 y116) ∧ (w'.heap[gb101]? = some (.cells #[.int .i64 a1_0, .int .i64 a1_1, .int .i64 a1_2, .string a1_3, .int .i64 a1_4] 32 (0, 0))) ∧ (w'.heap[gb102]? = some (.cells #[.slice none 0 0, .bool false, .int .i64 0] 29 (0, 0))) ∧ (Below w.heap.size w w')) ?_ ?_
     rotate_left
     ·
      intro hCont
      refine two_ (i := 0) (j := 4) (Ni := some 16) (Nj := some 20) spec_l11Add.b2 spec_l11Add.b3 rfl rfl rfl rfl (two_of HT_.out (by kernel_rfl)) (by decide) (by decide) (fun K hK => ?_) (fun K hK => ?_)
      ·
       skip
       refine Kd.R_lit_step k32 _ 32 ?hg (N := 16) ?hd (xs := ([] : List (S32))) (inner := []) (ok := fun _ => True) (okp := fun _ => True) ?hr ?hp (fun _ hk => hk) trivial (Below.refl _ _) (Nat.le_refl _) (by simp) ?_; (case hd => rfl); (case hg => rfl); (case hr => first | (go_simp; done) | (go_simp; rfl)); (case hp => exact (Reps.none _ _))
       intro v111 w31 ho32 hb hg_ hnew_
       clear hg_ hnew_
       (first | rw [← Ny110.out] at ho32 | (simp only [Int.reduceToNat] at ho32; rw [← Ny110.out] at ho32))
       have n0_ := AM (Kd.R_lower (Kd.R_newB ho32 (g := gb101) (o := .cells #[.int .i64 a1_0, .int .i64 a1_1, .int .i64 a1_2, .string a1_3, .int .i64 a1_4] 32 (0, 0)) (by (with_reducible repeat (first | apply kN | apply kD | apply kA)); exact BK101.out)) (bZ (by repeat (first | (with_reducible first | exact HB.out | apply bA | apply bN | apply bD | refine bS ?_ GE101.out | refine bS ?_ GE102.out) | exact HB.out))))
       have n1_ := AM (blk_below (g := gb101) (o := .cells #[.int .i64 a1_0, .int .i64 a1_1, .int .i64 a1_2, .string a1_3, .int .i64 a1_4] 32 (0, 0)) (by (with_reducible repeat (first | apply kN | apply kD | apply kA)); exact BK101.out) hb)
       have n2_ := AM (blk_below (g := gb102) (o := .cells #[.slice none 0 0, .bool false, .int .i64 0] 29 (0, 0)) (by (with_reducible repeat (first | apply kN | apply kD | apply kA)); exact BK102.out) hb)
       have n3_ := AM (below_step (by repeat (first | (with_reducible first | exact HB.out | apply bA | apply bN | apply bD | refine bS ?_ GE101.out | refine bS ?_ GE102.out) | exact HB.out)) hb)
       clear BK101
       clear BK102
       clear HB
       have HO112 := n0_
       have BK101 := n1_
       have BK102 := n2_
       have HB := n3_
       clear n0_ n1_ n2_ n3_
       clear hb ho32
       refine hK.out _ _ ⟨(kC BK101.out 0).trans rfl, (kC BK101.out 1).trans rfl, (kC BK101.out 2).trans rfl, (kC BK101.out 3).trans rfl, (kC BK101.out 4).trans rfl⟩ (fun hHeld => ?_)
       clear hK K
       refine norm_ (a' := ?_) ?_ ?_
       rotate_left
       ·
        show Act.put _ (some 16) _ = _
        simp only [Act.put, sA, sB, sC, i64_w, i32_w]
        rfl
       refine two_ (i := 2) (j := 4) (Ni := some 18) (Nj := some 20) (upTo 4 8) spec_l11Add.b4 rfl rfl rfl rfl (two_of HT_.out (by kernel_rfl)) (by decide) (by decide) (fun K hK => ?_) (fun K hK => ?_)
       ·
        skip
        refine Kd.R_append_rows_step k32 (w0 := w) w.heap.size (by rfl) (.tmp 16) (.tmp 17) 27 32 (.agg #[(.int .i64 0), (.int .i64 0), (.int .i64 0), (.string ⟨#[]⟩), (.int .i64 0)]) 48 rfl Try.underlying27 info32 rfl (by decide) (by omega) v111 y110 l0 _ _ _ (fun k_ => k_ ≠ gb101) (fun _ => False) rfl rfl ?aO ?aR (fun _ _ h => h) (fun _ h => h.elim) ?aF ?aB ?aS ?aL ?_
        (case aR => repeat (first | exact (cB HR0.out HB.out) | (with_reducible refine cA ?_ _) | (with_reducible refine cN ?_ _) | (with_reducible refine cD ?_)))
        (case aB => exact (by repeat (first | (with_reducible first | exact HB.out | apply bA | apply bN | apply bD | refine bS ?_ GE101.out | refine bS ?_ GE102.out) | exact HB.out)))
        (case aF => exact (fun k_ hk => Kd.freshB (g := gb101) (o := .cells #[.int .i64 a1_0, .int .i64 a1_1, .int .i64 a1_2, .string a1_3, .int .i64 a1_4] 32 (0, 0)) (by (with_reducible repeat (first | apply kN | apply kD | apply kA)); exact BK101.out) k_ hk))
        (case aO => exact (by (with_reducible repeat (first | apply rA | apply rN | apply rD)); exact Kd.R_mono HO112.out (fun _ hk => hk.2)))
        (case aS => exact (bZ (by repeat (first | (with_reducible first | exact HB.out | apply bA | apply bN | apply bD | refine bS ?_ GE101.out | refine bS ?_ GE102.out) | exact HB.out))))
        (case aL => have := LMc23.out; omega)
        intro v114 w33 ho hb hg hat
        rw [← Ny113.out] at ho
        have n0_ := AM (blk_grown (g := gb101) (o := .cells #[.int .i64 a1_0, .int .i64 a1_1, .int .i64 a1_2, .string a1_3, .int .i64 a1_4] 32 (0, 0)) (by (with_reducible repeat (first | apply kN | apply kD | apply kA)); exact BK101.out) hg (Kd.R_away HO112.out (fun _ hk => hk.2)))
        have n1_ := AM (blk_grown (g := gb102) (o := .cells #[.slice none 0 0, .bool false, .int .i64 0] 29 (0, 0)) (by (with_reducible repeat (first | apply kN | apply kD | apply kA)); exact BK102.out) hg (Kd.R_ne HO112.out BK102.out (by decide)))
        have n2_ := AM (hb)
        have n3_ := AM (ho)
        clear BK101
        clear BK102
        clear HB
        clear HO112
        have BK101 := n0_
        have BK102 := n1_
        have HB := n2_
        have HO115 := n3_
        clear n0_ n1_ n2_ n3_
        clear ho hb hg hat
        refine hK.out _ _ ⟨(kC BK101.out 0).trans rfl, (kC BK101.out 1).trans rfl, (kC BK101.out 2).trans rfl, (kC BK101.out 3).trans rfl, (kC BK101.out 4).trans rfl⟩ (fun hHeld => ?_)
        clear hK K
        refine norm_ (a' := ?_) ?_ ?_
        rotate_left
        ·
         show Act.put _ (some 18) _ = _
         simp only [Act.put, sA, sB, sC, i64_w, i32_w]
         rfl
        refine one_ (i := 4) (N := some 20) (upTo 5 8) rfl rfl (one_of HT_.out (by kernel_rfl)) (by decide) (fun K hK => ?_)
        refine Kd.R_lit_step k32 _ 32 ?hg (N := 20) ?hd (xs := ([(⟨a1_0, a1_1, a1_2, a1_3, a1_4⟩ : S32)] : List (S32))) (inner := [.int .i64 a1_0, .int .i64 a1_1, .int .i64 a1_2, .string a1_3, .int .i64 a1_4]) (ok := fun _ => True) (okp := fun _ => True) ?hr ?hp (fun _ hk => hk) trivial (Below.refl _ _) (Nat.le_refl _) (by simp) ?_; (case hd => rfl); (case hg => rfl); (case hr => first | (go_simp; done) | (go_simp; rfl)); (case hp => exact (Reps.c5 (show Kd.M k32 _ _ _ (⟨a1_0, a1_1, a1_2, a1_3, a1_4⟩ : S32) [.int .i64 a1_0, .int .i64 a1_1, .int .i64 a1_2, .string a1_3, .int .i64 a1_4] from (k32_mkM _ _ _ (⟨a1_0, a1_1, a1_2, a1_3, a1_4⟩ : S32) )) (Reps.none _ _)))
        intro v117 w34 ho35 hb hg_ hnew_
        clear hg_ hnew_
        (first | rw [← Ny116.out] at ho35 | (simp only [Int.reduceToNat] at ho35; rw [← Ny116.out] at ho35))
        have n0_ := AM (Kd.R_elder' (by (with_reducible repeat (first | apply rA | apply rN | apply rD)); exact HO115.out) (Kd.R_base ho35) hb)
        have n1_ := AM (Kd.R_lower (Kd.R_newB (Kd.R_new' ho35 (Kd.R_lt (by (with_reducible repeat (first | apply rA | apply rN | apply rD)); exact HO115.out))) (g := gb101) (o := .cells #[.int .i64 a1_0, .int .i64 a1_1, .int .i64 a1_2, .string a1_3, .int .i64 a1_4] 32 (0, 0)) (by (with_reducible repeat (first | apply kN | apply kD | apply kA)); exact BK101.out)) (bZ (by repeat (first | (with_reducible first | exact HB.out | apply bA | apply bN | apply bD | refine bS ?_ GE101.out | refine bS ?_ GE102.out) | exact HB.out))))
        have n2_ := AM (blk_below (g := gb101) (o := .cells #[.int .i64 a1_0, .int .i64 a1_1, .int .i64 a1_2, .string a1_3, .int .i64 a1_4] 32 (0, 0)) (by (with_reducible repeat (first | apply kN | apply kD | apply kA)); exact BK101.out) hb)
        have n3_ := AM (blk_below (g := gb102) (o := .cells #[.slice none 0 0, .bool false, .int .i64 0] 29 (0, 0)) (by (with_reducible repeat (first | apply kN | apply kD | apply kA)); exact BK102.out) hb)
        have n4_ := AM (below_step (by repeat (first | (with_reducible first | exact HB.out | apply bA | apply bN | apply bD | refine bS ?_ GE101.out | refine bS ?_ GE102.out) | exact HB.out)) hb)
        clear HO115
        clear BK101
        clear BK102
        clear HB
        have HO115 := n0_
        have HO118 := n1_
        have BK101 := n2_
        have BK102 := n3_
        have HB := n4_
        clear n0_ n1_ n2_ n3_ n4_
        clear hb ho35
        refine hK.out _ _ ⟨(kC BK101.out 0).trans rfl, (kC BK101.out 1).trans rfl, (kC BK101.out 2).trans rfl, (kC BK101.out 3).trans rfl, (kC BK101.out 4).trans rfl⟩ (fun hHeld => ?_)
        clear hK K
        refine norm_ (a' := ?_) ?_ ?_
        rotate_left
        ·
         show Act.put _ (some 20) _ = _
         simp only [Act.put, sA, sB, sC, i64_w, i32_w]
         rfl
        exact norm_ (by simp only [putAll, Act.put, List.setIfInBounds_toArray, List.set_cons_zero, List.set_cons_succ]) (hCont (v111, v114, v117) _ ⟨hHeld, (by (with_reducible repeat (first | apply rA | apply rN | apply rD)); exact Kd.R_mono HO115.out (fun _ hk => ⟨hk.2, hk.1⟩)), (by (with_reducible repeat (first | apply rA | apply rN | apply rD)); exact Kd.R_mono HO118.out (fun _ hk => ⟨hk.1.2, hk.2⟩)), (by (with_reducible repeat (first | apply kN | apply kD | apply kA)); exact BK101.out), (by (with_reducible repeat (first | apply kN | apply kD | apply kA)); exact BK102.out), (by repeat (first | (with_reducible first | exact HB.out | apply bA | apply bN | apply bD | refine bS ?_ GE101.out | refine bS ?_ GE102.out) | exact HB.out))⟩)
       ·
        skip
        refine Kd.R_lit_step k32 _ 32 ?hg (N := 20) ?hd (xs := ([(⟨a1_0, a1_1, a1_2, a1_3, a1_4⟩ : S32)] : List (S32))) (inner := [.int .i64 a1_0, .int .i64 a1_1, .int .i64 a1_2, .string a1_3, .int .i64 a1_4]) (ok := fun _ => True) (okp := fun _ => True) ?hr ?hp (fun _ hk => hk) trivial (Below.refl _ _) (Nat.le_refl _) (by simp) ?_; (case hd => rfl); (case hg => rfl); (case hr => first | (go_simp; done) | (go_simp; rfl)); (case hp => exact (Reps.c5 (show Kd.M k32 _ _ _ (⟨a1_0, a1_1, a1_2, a1_3, a1_4⟩ : S32) [.int .i64 a1_0, .int .i64 a1_1, .int .i64 a1_2, .string a1_3, .int .i64 a1_4] from (k32_mkM _ _ _ (⟨a1_0, a1_1, a1_2, a1_3, a1_4⟩ : S32) )) (Reps.none _ _)))
        intro v117 w33 ho34 hb hg_ hnew_
        clear hg_ hnew_
        (first | rw [← Ny116.out] at ho34 | (simp only [Int.reduceToNat] at ho34; rw [← Ny116.out] at ho34))
        have n0_ := AM (Kd.R_elder' (by (with_reducible repeat (first | apply rA | apply rN | apply rD)); exact HO112.out) (Kd.R_base ho34) hb)
        have n1_ := AM (Kd.R_lower (Kd.R_newB (Kd.R_new' ho34 (Kd.R_lt (by (with_reducible repeat (first | apply rA | apply rN | apply rD)); exact HO112.out))) (g := gb101) (o := .cells #[.int .i64 a1_0, .int .i64 a1_1, .int .i64 a1_2, .string a1_3, .int .i64 a1_4] 32 (0, 0)) (by (with_reducible repeat (first | apply kN | apply kD | apply kA)); exact BK101.out)) (bZ (by repeat (first | (with_reducible first | exact HB.out | apply bA | apply bN | apply bD | refine bS ?_ GE101.out | refine bS ?_ GE102.out) | exact HB.out))))
        have n2_ := AM (blk_below (g := gb101) (o := .cells #[.int .i64 a1_0, .int .i64 a1_1, .int .i64 a1_2, .string a1_3, .int .i64 a1_4] 32 (0, 0)) (by (with_reducible repeat (first | apply kN | apply kD | apply kA)); exact BK101.out) hb)
        have n3_ := AM (blk_below (g := gb102) (o := .cells #[.slice none 0 0, .bool false, .int .i64 0] 29 (0, 0)) (by (with_reducible repeat (first | apply kN | apply kD | apply kA)); exact BK102.out) hb)
        have n4_ := AM (below_step (by repeat (first | (with_reducible first | exact HB.out | apply bA | apply bN | apply bD | refine bS ?_ GE101.out | refine bS ?_ GE102.out) | exact HB.out)) hb)
        clear HO112
        clear BK101
        clear BK102
        clear HB
        have HO112 := n0_
        have HO118 := n1_
        have BK101 := n2_
        have BK102 := n3_
        have HB := n4_
        clear n0_ n1_ n2_ n3_ n4_
        clear hb ho34
        refine hK.out _ _ ⟨(kC BK101.out 0).trans rfl, (kC BK101.out 1).trans rfl, (kC BK101.out 2).trans rfl, (kC BK101.out 3).trans rfl, (kC BK101.out 4).trans rfl⟩ (fun hHeld => ?_)
        clear hK K
        refine norm_ (a' := ?_) ?_ ?_
        rotate_left
        ·
         show Act.put _ (some 20) _ = _
         simp only [Act.put, sA, sB, sC, i64_w, i32_w]
         rfl
        refine one_ (i := 2) (N := some 18) (upTo 5 8) rfl rfl (one_of HT_.out (by kernel_rfl)) (by decide) (fun K hK => ?_)
        refine Kd.R_append_rows_step k32 (w0 := w) w.heap.size (by rfl) (.tmp 16) (.tmp 17) 27 32 (.agg #[(.int .i64 0), (.int .i64 0), (.int .i64 0), (.string ⟨#[]⟩), (.int .i64 0)]) 48 rfl Try.underlying27 info32 rfl (by decide) (by omega) v111 y110 l0 _ _ _ (fun k_ => some k_ ≠ (v117 : Value).ownBlock ∧ k_ ≠ gb101) (fun _ => False) rfl rfl ?aO ?aR (fun _ _ h => h) (fun _ h => h.elim) ?aF ?aB ?aS ?aL ?_
        (case aR => repeat (first | exact (cB HR0.out HB.out) | (with_reducible refine cA ?_ _) | (with_reducible refine cN ?_ _) | (with_reducible refine cD ?_)))
        (case aB => exact (by repeat (first | (with_reducible first | exact HB.out | apply bA | apply bN | apply bD | refine bS ?_ GE101.out | refine bS ?_ GE102.out) | exact HB.out)))
        (case aF => exact (fun k_ hk => ⟨Kd.fresh' (Kd.R_lt (by (with_reducible repeat (first | apply rA | apply rN | apply rD)); exact HO118.out)) k_ hk, Kd.freshB (g := gb101) (o := .cells #[.int .i64 a1_0, .int .i64 a1_1, .int .i64 a1_2, .string a1_3, .int .i64 a1_4] 32 (0, 0)) (by (with_reducible repeat (first | apply kN | apply kD | apply kA)); exact BK101.out) k_ hk⟩))
        (case aO => exact (by (with_reducible repeat (first | apply rA | apply rN | apply rD)); exact Kd.R_mono HO112.out (fun _ hk => ⟨hk.2, hk.1.2⟩)))
        (case aS => exact (bZ (by repeat (first | (with_reducible first | exact HB.out | apply bA | apply bN | apply bD | refine bS ?_ GE101.out | refine bS ?_ GE102.out) | exact HB.out))))
        (case aL => have := LMc23.out; omega)
        intro v114 w35 ho hb hg hat
        rw [← Ny113.out] at ho
        have n0_ := AM (blk_grown (g := gb101) (o := .cells #[.int .i64 a1_0, .int .i64 a1_1, .int .i64 a1_2, .string a1_3, .int .i64 a1_4] 32 (0, 0)) (by (with_reducible repeat (first | apply kN | apply kD | apply kA)); exact BK101.out) hg (Kd.R_away HO112.out (fun _ hk => hk.1.2)))
        have n1_ := AM (blk_grown (g := gb102) (o := .cells #[.slice none 0 0, .bool false, .int .i64 0] 29 (0, 0)) (by (with_reducible repeat (first | apply kN | apply kD | apply kA)); exact BK102.out) hg (Kd.R_ne HO112.out BK102.out (by decide)))
        have n2_ := AM (Kd.R_after (ok := (fun k_ => k_ ≠ gb101)) (by (with_reducible repeat (first | apply rA | apply rN | apply rD)); exact Kd.R_mono HO118.out (fun _ hk => ⟨hk.2, hk.1.2⟩)) hg hat)
        have n3_ := AM (hb)
        have n4_ := AM (ho)
        clear BK101
        clear BK102
        clear HO118
        clear HB
        clear HO112
        have BK101 := n0_
        have BK102 := n1_
        have HO118 := n2_
        have HB := n3_
        have HO115 := n4_
        clear n0_ n1_ n2_ n3_ n4_
        clear ho hb hg hat
        refine hK.out _ _ ⟨(kC BK101.out 0).trans rfl, (kC BK101.out 1).trans rfl, (kC BK101.out 2).trans rfl, (kC BK101.out 3).trans rfl, (kC BK101.out 4).trans rfl⟩ (fun hHeld => ?_)
        clear hK K
        refine norm_ (a' := ?_) ?_ ?_
        rotate_left
        ·
         show Act.put _ (some 18) _ = _
         simp only [Act.put, sA, sB, sC, i64_w, i32_w]
         rfl
        exact norm_ (by simp only [putAll, Act.put, List.setIfInBounds_toArray, List.set_cons_zero, List.set_cons_succ]) (hCont (v111, v114, v117) _ ⟨hHeld, (by (with_reducible repeat (first | apply rA | apply rN | apply rD)); exact HO115.out), (by (with_reducible repeat (first | apply rA | apply rN | apply rD)); exact Kd.R_mono HO118.out (fun _ hk => ⟨hk.2, hk.1⟩)), (by (with_reducible repeat (first | apply kN | apply kD | apply kA)); exact BK101.out), (by (with_reducible repeat (first | apply kN | apply kD | apply kA)); exact BK102.out), (by repeat (first | (with_reducible first | exact HB.out | apply bA | apply bN | apply bD | refine bS ?_ GE101.out | refine bS ?_ GE102.out) | exact HB.out))⟩)
      ·
       skip
       refine Kd.R_lit_step k32 _ 32 ?hg (N := 20) ?hd (xs := ([(⟨a1_0, a1_1, a1_2, a1_3, a1_4⟩ : S32)] : List (S32))) (inner := [.int .i64 a1_0, .int .i64 a1_1, .int .i64 a1_2, .string a1_3, .int .i64 a1_4]) (ok := fun _ => True) (okp := fun _ => True) ?hr ?hp (fun _ hk => hk) trivial (Below.refl _ _) (Nat.le_refl _) (by simp) ?_; (case hd => rfl); (case hg => rfl); (case hr => first | (go_simp; done) | (go_simp; rfl)); (case hp => exact (Reps.c5 (show Kd.M k32 _ _ _ (⟨a1_0, a1_1, a1_2, a1_3, a1_4⟩ : S32) [.int .i64 a1_0, .int .i64 a1_1, .int .i64 a1_2, .string a1_3, .int .i64 a1_4] from (k32_mkM _ _ _ (⟨a1_0, a1_1, a1_2, a1_3, a1_4⟩ : S32) )) (Reps.none _ _)))
       intro v117 w31 ho32 hb hg_ hnew_
       clear hg_ hnew_
       (first | rw [← Ny116.out] at ho32 | (simp only [Int.reduceToNat] at ho32; rw [← Ny116.out] at ho32))
       have n0_ := AM (Kd.R_lower (Kd.R_newB ho32 (g := gb101) (o := .cells #[.int .i64 a1_0, .int .i64 a1_1, .int .i64 a1_2, .string a1_3, .int .i64 a1_4] 32 (0, 0)) (by (with_reducible repeat (first | apply kN | apply kD | apply kA)); exact BK101.out)) (bZ (by repeat (first | (with_reducible first | exact HB.out | apply bA | apply bN | apply bD | refine bS ?_ GE101.out | refine bS ?_ GE102.out) | exact HB.out))))
       have n1_ := AM (blk_below (g := gb101) (o := .cells #[.int .i64 a1_0, .int .i64 a1_1, .int .i64 a1_2, .string a1_3, .int .i64 a1_4] 32 (0, 0)) (by (with_reducible repeat (first | apply kN | apply kD | apply kA)); exact BK101.out) hb)
       have n2_ := AM (blk_below (g := gb102) (o := .cells #[.slice none 0 0, .bool false, .int .i64 0] 29 (0, 0)) (by (with_reducible repeat (first | apply kN | apply kD | apply kA)); exact BK102.out) hb)
       have n3_ := AM (below_step (by repeat (first | (with_reducible first | exact HB.out | apply bA | apply bN | apply bD | refine bS ?_ GE101.out | refine bS ?_ GE102.out) | exact HB.out)) hb)
       clear BK101
       clear BK102
       clear HB
       have HO118 := n0_
       have BK101 := n1_
       have BK102 := n2_
       have HB := n3_
       clear n0_ n1_ n2_ n3_
       clear hb ho32
       refine hK.out _ _ ⟨(kC BK101.out 0).trans rfl, (kC BK101.out 1).trans rfl, (kC BK101.out 2).trans rfl, (kC BK101.out 3).trans rfl, (kC BK101.out 4).trans rfl⟩ (fun hHeld => ?_)
       clear hK K
       refine norm_ (a' := ?_) ?_ ?_
       rotate_left
       ·
        show Act.put _ (some 20) _ = _
        simp only [Act.put, sA, sB, sC, i64_w, i32_w]
        rfl
       refine one_ (i := 0) (N := some 16) spec_l11Add.b4 rfl rfl (one_of HT_.out (by kernel_rfl)) (by decide) (fun K hK => ?_)
       refine Kd.R_lit_step k32 _ 32 ?hg (N := 16) ?hd (xs := ([] : List (S32))) (inner := []) (ok := fun _ => True) (okp := fun _ => True) ?hr ?hp (fun _ hk => hk) trivial (Below.refl _ _) (Nat.le_refl _) (by simp) ?_; (case hd => rfl); (case hg => rfl); (case hr => first | (go_simp; done) | (go_simp; rfl)); (case hp => exact (Reps.none _ _))
       intro v111 w33 ho34 hb hg_ hnew_
       clear hg_ hnew_
       (first | rw [← Ny110.out] at ho34 | (simp only [Int.reduceToNat] at ho34; rw [← Ny110.out] at ho34))
       have n0_ := AM (Kd.R_elder' (by (with_reducible repeat (first | apply rA | apply rN | apply rD)); exact HO118.out) (Kd.R_base ho34) hb)
       have n1_ := AM (Kd.R_lower (Kd.R_newB (Kd.R_new' ho34 (Kd.R_lt (by (with_reducible repeat (first | apply rA | apply rN | apply rD)); exact HO118.out))) (g := gb101) (o := .cells #[.int .i64 a1_0, .int .i64 a1_1, .int .i64 a1_2, .string a1_3, .int .i64 a1_4] 32 (0, 0)) (by (with_reducible repeat (first | apply kN | apply kD | apply kA)); exact BK101.out)) (bZ (by repeat (first | (with_reducible first | exact HB.out | apply bA | apply bN | apply bD | refine bS ?_ GE101.out | refine bS ?_ GE102.out) | exact HB.out))))
       have n2_ := AM (blk_below (g := gb101) (o := .cells #[.int .i64 a1_0, .int .i64 a1_1, .int .i64 a1_2, .string a1_3, .int .i64 a1_4] 32 (0, 0)) (by (with_reducible repeat (first | apply kN | apply kD | apply kA)); exact BK101.out) hb)
       have n3_ := AM (blk_below (g := gb102) (o := .cells #[.slice none 0 0, .bool false, .int .i64 0] 29 (0, 0)) (by (with_reducible repeat (first | apply kN | apply kD | apply kA)); exact BK102.out) hb)
       have n4_ := AM (below_step (by repeat (first | (with_reducible first | exact HB.out | apply bA | apply bN | apply bD | refine bS ?_ GE101.out | refine bS ?_ GE102.out) | exact HB.out)) hb)
       clear HO118
       clear BK101
       clear BK102
       clear HB
       have HO118 := n0_
       have HO112 := n1_
       have BK101 := n2_
       have BK102 := n3_
       have HB := n4_
       clear n0_ n1_ n2_ n3_ n4_
       clear hb ho34
       refine hK.out _ _ ⟨(kC BK101.out 0).trans rfl, (kC BK101.out 1).trans rfl, (kC BK101.out 2).trans rfl, (kC BK101.out 3).trans rfl, (kC BK101.out 4).trans rfl⟩ (fun hHeld => ?_)
       clear hK K
       refine norm_ (a' := ?_) ?_ ?_
       rotate_left
       ·
        show Act.put _ (some 16) _ = _
        simp only [Act.put, sA, sB, sC, i64_w, i32_w]
        rfl
       refine one_ (i := 2) (N := some 18) (upTo 5 8) rfl rfl (one_of HT_.out (by kernel_rfl)) (by decide) (fun K hK => ?_)
       refine Kd.R_append_rows_step k32 (w0 := w) w.heap.size (by rfl) (.tmp 16) (.tmp 17) 27 32 (.agg #[(.int .i64 0), (.int .i64 0), (.int .i64 0), (.string ⟨#[]⟩), (.int .i64 0)]) 48 rfl Try.underlying27 info32 rfl (by decide) (by omega) v111 y110 l0 _ _ _ (fun k_ => some k_ ≠ (v117 : Value).ownBlock ∧ k_ ≠ gb101) (fun _ => False) rfl rfl ?aO ?aR (fun _ _ h => h) (fun _ h => h.elim) ?aF ?aB ?aS ?aL ?_
       (case aR => repeat (first | exact (cB HR0.out HB.out) | (with_reducible refine cA ?_ _) | (with_reducible refine cN ?_ _) | (with_reducible refine cD ?_)))
       (case aB => exact (by repeat (first | (with_reducible first | exact HB.out | apply bA | apply bN | apply bD | refine bS ?_ GE101.out | refine bS ?_ GE102.out) | exact HB.out)))
       (case aF => exact (fun k_ hk => ⟨Kd.fresh' (Kd.R_lt (by (with_reducible repeat (first | apply rA | apply rN | apply rD)); exact HO118.out)) k_ hk, Kd.freshB (g := gb101) (o := .cells #[.int .i64 a1_0, .int .i64 a1_1, .int .i64 a1_2, .string a1_3, .int .i64 a1_4] 32 (0, 0)) (by (with_reducible repeat (first | apply kN | apply kD | apply kA)); exact BK101.out) k_ hk⟩))
       (case aO => exact (by (with_reducible repeat (first | apply rA | apply rN | apply rD)); exact Kd.R_mono HO112.out (fun _ hk => ⟨hk.1.2, hk.2⟩)))
       (case aS => exact (bZ (by repeat (first | (with_reducible first | exact HB.out | apply bA | apply bN | apply bD | refine bS ?_ GE101.out | refine bS ?_ GE102.out) | exact HB.out))))
       (case aL => have := LMc23.out; omega)
       intro v114 w35 ho hb hg hat
       rw [← Ny113.out] at ho
       have n0_ := AM (blk_grown (g := gb101) (o := .cells #[.int .i64 a1_0, .int .i64 a1_1, .int .i64 a1_2, .string a1_3, .int .i64 a1_4] 32 (0, 0)) (by (with_reducible repeat (first | apply kN | apply kD | apply kA)); exact BK101.out) hg (Kd.R_away HO112.out (fun _ hk => hk.2)))
       have n1_ := AM (blk_grown (g := gb102) (o := .cells #[.slice none 0 0, .bool false, .int .i64 0] 29 (0, 0)) (by (with_reducible repeat (first | apply kN | apply kD | apply kA)); exact BK102.out) hg (Kd.R_ne HO112.out BK102.out (by decide)))
       have n2_ := AM (Kd.R_after (ok := (fun k_ => k_ ≠ gb101)) (by (with_reducible repeat (first | apply rA | apply rN | apply rD)); exact Kd.R_mono HO118.out (fun _ hk => ⟨hk.1.2, hk.2⟩)) hg hat)
       have n3_ := AM (hb)
       have n4_ := AM (ho)
       clear BK101
       clear BK102
       clear HO118
       clear HB
       clear HO112
       have BK101 := n0_
       have BK102 := n1_
       have HO118 := n2_
       have HB := n3_
       have HO115 := n4_
       clear n0_ n1_ n2_ n3_ n4_
       clear ho hb hg hat
       refine hK.out _ _ ⟨(kC BK101.out 0).trans rfl, (kC BK101.out 1).trans rfl, (kC BK101.out 2).trans rfl, (kC BK101.out 3).trans rfl, (kC BK101.out 4).trans rfl⟩ (fun hHeld => ?_)
       clear hK K
       refine norm_ (a' := ?_) ?_ ?_
       rotate_left
       ·
        show Act.put _ (some 18) _ = _
        simp only [Act.put, sA, sB, sC, i64_w, i32_w]
        rfl
       exact norm_ (by simp only [putAll, Act.put, List.setIfInBounds_toArray, List.set_cons_zero, List.set_cons_succ]) (hCont (v111, v114, v117) _ ⟨hHeld, (by (with_reducible repeat (first | apply rA | apply rN | apply rD)); exact HO115.out), (by (with_reducible repeat (first | apply rA | apply rN | apply rD)); exact Kd.R_mono HO118.out (fun _ hk => ⟨hk.2, hk.1⟩)), (by (with_reducible repeat (first | apply kN | apply kD | apply kA)); exact BK101.out), (by (with_reducible repeat (first | apply kN | apply kD | apply kA)); exact BK102.out), (by repeat (first | (with_reducible first | exact HB.out | apply bA | apply bN | apply bD | refine bS ?_ GE101.out | refine bS ?_ GE102.out) | exact HB.out))⟩)
     rintro ⟨v111, v114, v117⟩ w36 ⟨hS_, h0_, h1_, h2_, h3_, h4_⟩
     have n0_ : Aside0 (Kd.R k32 32 w36 w.heap.size (fun k_ => some k_ ≠ (v117 : Value).ownBlock ∧ k_ ≠ gb101) v114 y113) := ⟨h0_⟩
     have n1_ : Aside0 (Kd.R k32 32 w36 w.heap.size (fun k_ => some k_ ≠ (v114 : Value).ownBlock ∧ k_ ≠ gb101) v117 y116) := ⟨h1_⟩
     have n2_ : Aside0 (w36.heap[gb101]? = some (.cells #[.int .i64 a1_0, .int .i64 a1_1, .int .i64 a1_2, .string a1_3, .int .i64 a1_4] 32 (0, 0))) := ⟨h2_⟩
     have n3_ : Aside0 (w36.heap[gb102]? = some (.cells #[.slice none 0 0, .bool false, .int .i64 0] 29 (0, 0))) := ⟨h3_⟩
     have n4_ : Aside0 (Below w.heap.size w w36) := ⟨h4_⟩
     clear BK101
     clear BK102
     clear HB
     clear h0_ h1_ h2_ h3_ h4_
     have HO115 := n0_
     have HO118 := n1_
     have BK101 := n2_
     have BK102 := n3_
     have HB := n4_
     clear n0_ n1_ n2_ n3_ n4_
     have hHeld : w36.cell? ⟨gb101, 0, none⟩ = some (.int .i64 a1_0) ∧ w36.cell? ⟨gb101, 1, none⟩ = some (.int .i64 a1_1) ∧ w36.cell? ⟨gb101, 2, none⟩ = some (.int .i64 a1_2) ∧ w36.cell? ⟨gb101, 3, none⟩ = some (.string a1_3) ∧ w36.cell? ⟨gb101, 4, none⟩ = some (.int .i64 a1_4) := hS_
     obtain ⟨Ao38, co38, eo38⟩ := Kd.R_slice HO118.out
     (first | subst eo38 | (injection eo38 with f1_ f2_ f3_; have f4_ := f1_.symm; have f5_ := f3_.symm; clear f1_ f2_ f3_; subst f4_; subst f5_))
     refine norm_ (a' := ?_) ?_ ?_
     rotate_left
     ·
      simp only [putAll, Act.put, List.setIfInBounds_toArray, List.set_cons_zero, List.set_cons_succ]
      rfl
     refine one_ (i := 5) (N := some 21) (upTo 6 8) rfl rfl (one_of HT_.out (by kernel_rfl)) (by decide) (fun K hK => ?_)
     refine Kd.R_append_rows_step k32 (w0 := w) w.heap.size (by rfl) (.tmp 18) (.tmp 20) 27 32 (.agg #[(.int .i64 0), (.int .i64 0), (.int .i64 0), (.string ⟨#[]⟩), (.int .i64 0)]) 48 rfl Try.underlying27 info32 rfl (by decide) (by omega) v114 y113 y116 _ _ _ (fun k_ => some k_ ≠ (.slice Ao38 y116.length co38 : Value).ownBlock ∧ k_ ≠ gb101) (fun _ => False) rfl rfl ?aO ?aR (fun _ _ h => h) (fun _ h => h.elim) ?aF ?aB ?aS ?aL ?_
     (case aR => repeat (first | exact (Kd.R_reads' HO118.out).2.2 | (with_reducible refine cA ?_ _) | (with_reducible refine cN ?_ _) | (with_reducible refine cD ?_)))
     (case aB => exact (by repeat (first | (with_reducible first | exact HB.out | apply bA | apply bN | apply bD | refine bS ?_ GE101.out | refine bS ?_ GE102.out) | exact HB.out)))
     (case aF => exact (fun k_ hk => ⟨Kd.fresh' (Kd.R_lt (by (with_reducible repeat (first | apply rA | apply rN | apply rD)); exact HO118.out)) k_ hk, Kd.freshB (g := gb101) (o := .cells #[.int .i64 a1_0, .int .i64 a1_1, .int .i64 a1_2, .string a1_3, .int .i64 a1_4] 32 (0, 0)) (by (with_reducible repeat (first | apply kN | apply kD | apply kA)); exact BK101.out) k_ hk⟩))
     (case aO => exact (by (with_reducible repeat (first | apply rA | apply rN | apply rD)); exact HO115.out))
     (case aS => exact (bZ (by repeat (first | (with_reducible first | exact HB.out | apply bA | apply bN | apply bD | refine bS ?_ GE101.out | refine bS ?_ GE102.out) | exact HB.out))))
     (case aL => have := LMc24.out; omega)
     intro v120 w37 ho hb hg hat
     rw [← Ny119.out] at ho
     have n0_ := AM (blk_grown (g := gb101) (o := .cells #[.int .i64 a1_0, .int .i64 a1_1, .int .i64 a1_2, .string a1_3, .int .i64 a1_4] 32 (0, 0)) (by (with_reducible repeat (first | apply kN | apply kD | apply kA)); exact BK101.out) hg (Kd.R_away HO115.out (fun _ hk => hk.2)))
     have n1_ := AM (blk_grown (g := gb102) (o := .cells #[.slice none 0 0, .bool false, .int .i64 0] 29 (0, 0)) (by (with_reducible repeat (first | apply kN | apply kD | apply kA)); exact BK102.out) hg (Kd.R_ne HO115.out BK102.out (by decide)))
     have n2_ := AM (Kd.R_after (ok := (fun k_ => k_ ≠ gb101)) (by (with_reducible repeat (first | apply rA | apply rN | apply rD)); exact Kd.R_mono HO118.out (fun _ hk => ⟨hk.2, hk.1⟩)) hg hat)
     have n3_ := AM (hb)
     have n4_ := AM (ho)
     clear BK101
     clear BK102
     clear HO118
     clear HB
     clear HO115
     have BK101 := n0_
     have BK102 := n1_
     have HO118 := n2_
     have HB := n3_
     have HO121 := n4_
     clear n0_ n1_ n2_ n3_ n4_
     clear ho hb hg hat
     obtain ⟨Ao39, co39, eo39⟩ := Kd.R_slice HO121.out
     (first | subst eo39 | (injection eo39 with f1_ f2_ f3_; have f4_ := f1_.symm; have f5_ := f3_.symm; clear f1_ f2_ f3_; subst f4_; subst f5_))
     refine hK.out _ _ ⟨(kC BK101.out 0).trans rfl, (kC BK101.out 1).trans rfl, (kC BK101.out 2).trans rfl, (kC BK101.out 3).trans rfl, (kC BK101.out 4).trans rfl⟩ (fun hHeld => ?_)
     clear hK K
     refine norm_ (a' := ?_) ?_ ?_
     rotate_left
     ·
      show Act.put _ (some 21) _ = _
      simp only [Act.put, sA, sB, sC, i64_w, i32_w]
      rfl
     refine pF 6 7 8 22 ?_
     refine one_ (i := 7) (N := none) (upTo 8 8) rfl rfl (one_of HT_.out (by kernel_rfl)) (by decide) (fun K hK => ?_)
     have hs40 : w37.cell? ⟨gb102, 0, none⟩ = some (.slice none 0 0) := (kC BK102.out 0).trans rfl
     have hfs40 := fZ BK102.out 0
     have hns40_0 := NB101_102.out
     have hms40_0 := NB102_101.out
     have hs41 : w37.cell? ⟨gb102, 1, none⟩ = some (.bool false) := (kC BK102.out 1).trans rfl
     have hfs41 := fZ BK102.out 1
     have hns41_0 := NB101_102.out
     have hms41_0 := NB102_101.out
     have hs42 : w37.cell? ⟨gb102, 2, none⟩ = some (.int .i64 0) := (kC BK102.out 2).trans rfl
     have hfs42 := fZ BK102.out 2
     have hns42_0 := NB101_102.out
     have hms42_0 := NB102_101.out
     refine skip_ (w1 := ?_) (by rfl) rfl ?_ ?_
     rotate_left
     ·
      go_simp
      rfl
     refine hK.out _ _ ⟨((cell_far (p := ⟨gb102, _, none⟩) NB101_102.out _).trans (((cell_far (p := ⟨gb102, _, none⟩) NB101_102.out _).trans (((cell_far (p := ⟨gb102, _, none⟩) NB101_102.out _).trans (hHeld.1)))))), ((cell_far (p := ⟨gb102, _, none⟩) NB101_102.out _).trans (((cell_far (p := ⟨gb102, _, none⟩) NB101_102.out _).trans (((cell_far (p := ⟨gb102, _, none⟩) NB101_102.out _).trans (hHeld.2.1)))))), ((cell_far (p := ⟨gb102, _, none⟩) NB101_102.out _).trans (((cell_far (p := ⟨gb102, _, none⟩) NB101_102.out _).trans (((cell_far (p := ⟨gb102, _, none⟩) NB101_102.out _).trans (hHeld.2.2.1)))))), ((cell_far (p := ⟨gb102, _, none⟩) NB101_102.out _).trans (((cell_far (p := ⟨gb102, _, none⟩) NB101_102.out _).trans (((cell_far (p := ⟨gb102, _, none⟩) NB101_102.out _).trans (hHeld.2.2.2.1)))))), ((cell_far (p := ⟨gb102, _, none⟩) NB101_102.out _).trans (((cell_far (p := ⟨gb102, _, none⟩) NB101_102.out _).trans (((cell_far (p := ⟨gb102, _, none⟩) NB101_102.out _).trans (hHeld.2.2.2.2))))))⟩ (fun hHeld => ?_)
     clear hK K
     refine done_ (done_of HT_.out (by kernel_rfl)) ?_
     try go_wp2
     refine bodyPost_ret (results_cell_row rfl _ _ gb102 29 #[.slice Ao39 y119.length co39, .bool true, .int .i64 0] (0, 0) _ rfl (by (with_reducible repeat (first | apply kN | apply kD | apply kA)); refine blk_put (cs := #[.slice Ao39 y119.length co39, .bool true, .int .i64 0]) ?_ 2 _ rfl; (with_reducible repeat (first | apply kN | apply kD | apply kA)); refine blk_put (cs := #[.slice Ao39 y119.length co39, .bool false, .int .i64 0]) ?_ 1 _ rfl; (with_reducible repeat (first | apply kN | apply kD | apply kA)); refine blk_put (cs := #[.slice none 0 0, .bool false, .int .i64 0]) ?_ 0 _ rfl; (with_reducible repeat (first | apply kN | apply kD | apply kA)); exact BK102.out) Try.underlying29 rfl (by kernel_rfl)) rfl ?_
     exact ⟨_, by first | rfl | (simp [*, errW_none, errW_some] <;> rfl), by (with_reducible repeat (first | apply rA | apply rN | apply rD)); exact Kd.R_mono (Kd.R_far (p := ⟨gb102, 2, none⟩) (Kd.R_far (p := ⟨gb102, 1, none⟩) (Kd.R_far (p := ⟨gb102, 0, none⟩) (Kd.R_types HO121.out BK102.out (by decide)) (fun _ hk => hk.2) (.slice Ao39 y119.length co39)) (fun _ hk => hk.2) (.bool true)) (fun _ hk => hk.2) (.int .i64 0)) (fun _ hk => trivial), by repeat (first | (with_reducible first | exact HB.out | apply bA | apply bN | apply bD | refine bS ?_ GE101.out | refine bS ?_ GE102.out) | exact HB.out)⟩
    ·
     rw [if_neg c24] at H
     exact absurd H (by simp)
   ·
    rw [if_neg c23] at H
    exact absurd H (by simp)

/-! ### spec_VoteAdd: function 16 -/

def spec_VoteAdd.f (k : Nat) (l0 : List (S32)) (a1_0 : Int) (a1_1 : Int) (a1_2 : Int) (a1_3 : ByteArray) (a1_4 : Int) : Option ((List (S32)) × Bool × Int) := if (l0.length : Int) > 400 then (some (([] : List (S32)), false, 2)) else ((spec_VotesRight.f k l0).bind fun t103 => (if t103 = true then ((spec_l11Vote.f a1_0 a1_1 a1_2 a1_3 a1_4).bind fun t104 => (if t104 = true then ((spec_l11Add.f k l0 a1_0 a1_1 a1_2 a1_3 a1_4).bind fun bt105 => (some (bt105.1, bt105.2.1, bt105.2.2))) else (some (([] : List (S32)), false, 1)))) else (some (([] : List (S32)), false, 1))))
theorem spec_VoteAdd.mono : ∀ a0 a1 a2 a3 a4 a5 k, LeO (spec_VoteAdd.f k a0 a1 a2 a3 a4 a5) (spec_VoteAdd.f (k + 1) a0 a1 a2 a3 a4 a5) := by
  intro a0 a1 a2 a3 a4 a5 k
  unfold spec_VoteAdd.f
  repeat' first
      | (with_reducible exact spec_VotesRight.mono _ _)
      | (with_reducible exact spec_l11Add.mono _ _ _ _ _ _ _)
      | (with_reducible exact LeO.refl _)
      | (with_reducible exact LeO.none _)
      | (with_reducible refine LeO.ite ?_ ?_)
      | (with_reducible refine LeO.bind ?_ (fun _ => ?_))
      | exact spec_VotesRight.mono _ _
      | exact spec_l11Add.mono _ _ _ _ _ _ _
      | exact LeO.none _
      | refine LeO.ite ?_ ?_
      | refine LeO.bind ?_ (fun _ => ?_)
set_option maxHeartbeats 60000000 in
set_option maxRecDepth 100000 in
theorem spec_VoteAdd.calls (k : Nat) (A0 : Option Addr) (c0 : Nat) (l0 : List (S32)) (a1_0 : Int) (a1_1 : Int) (a1_2 : Int) (a1_3 : ByteArray) (a1_4 : Int) (r1 : List (S32)) (r2 : Bool) (r3 : Int) (w : World) (hr0 : Kd.C k32 w A0 l0.length l0) (hc0 : l0.length ≤ c0) (h : spec_VoteAdd.f k l0 a1_0 a1_1 a1_2 a1_3 a1_4 = some (r1, r2, r3)) :
    Calls Try.prog 16 #[.slice A0 l0.length c0, .agg #[.int .i64 a1_0, .int .i64 a1_1, .int .i64 a1_2, .string a1_3, .int .i64 a1_4]] w fun e w' => ∃ v0_ : Value, e = .returned (.agg #[v0_, .bool r2, .int .i64 r3]) ∧ Kd.R k32 32 w' w.heap.size (fun _ => True) v0_ r1 ∧ Below w.heap.size w w' := by
 have hu32 := Try.underlying32
 have hu29 := Try.underlying29
 have HR0 := AM hr0
 have HC0 := AM hc0
 clear hr0 hc0
 have HB := AM (Below.refl w.heap.size w)
 have H : (if (l0.length : Int) > 400 then (some (([] : List (S32)), false, 2)) else ((spec_VotesRight.f k l0).bind fun t103 => (if t103 = true then ((spec_l11Vote.f a1_0 a1_1 a1_2 a1_3 a1_4).bind fun t104 => (if t104 = true then ((spec_l11Add.f k l0 a1_0 a1_1 a1_2 a1_3 a1_4).bind fun bt105 => (some (bt105.1, bt105.2.1, bt105.2.2))) else (some (([] : List (S32)), false, 1)))) else (some (([] : List (S32)), false, 1))))) = some (r1, r2, r3) := h
 clear h
 by_cases c3 : (l0.length : Int) > 400
 ·
  rw [if_pos c3] at H
  have c3b0 : decide (400 < (l0.length : Int)) = true := decide_eq_true c3
  have c3b1 : decide (400 < l0.length) = true := decide_eq_true (by omega)
  clear c3
  simp only [Option.some.injEq, Prod.mk.injEq] at H
  obtain ⟨rfl, rfl, rfl⟩ := H
  go_enter Try.func16, Try.ntmps16
  go_wp2_with (first | ((with_reducible refine gate_dst (N := 3) rfl ?_); refine box_event (by rfl) (N := 3) (by rfl) (cs := #[.int .i64 a1_0, .int .i64 a1_1, .int .i64 a1_2, .string a1_3, .int .i64 a1_4]) (t := 32) (by first | (go_simp; done) | (go_simp; rfl)) ?_; intro gb101 hg w4 hbox hb; have n0_ := AM (below_step (by repeat (first | (with_reducible first | exact HB.out | apply bA | apply bN | apply bD) | exact HB.out)) hb); have n1_ := AM (hbox); have n2_ := AM ((by rw [hg]; exact (bZ (by repeat (first | (with_reducible first | exact HB.out | apply bA | apply bN | apply bD) | exact HB.out))) : w.heap.size ≤ gb101)); have n3_ := n2_; clear HB; have HB := n0_; have BK101 := n1_; have GW101 := n2_; have GE101 := n3_; clear n0_ n1_ n2_ n3_; clear hb hbox hg) | ((with_reducible refine gate_dst (N := 4) rfl ?_); refine box_event (by rfl) (N := 4) (by rfl) (cs := #[.slice none 0 0, .bool false, .int .i64 0]) (t := 29) (by first | (go_simp; done) | (go_simp; rfl)) ?_; intro gb102 hg w5 hbox hb; have n0_ := AM (blk_below (g := gb101) (o := .cells #[.int .i64 a1_0, .int .i64 a1_1, .int .i64 a1_2, .string a1_3, .int .i64 a1_4] 32 (0, 0)) (by (with_reducible repeat (first | apply kN | apply kD | apply kA)); exact BK101.out) hb); have n1_ := AM (below_step (by repeat (first | (with_reducible first | exact HB.out | apply bA | apply bN | apply bD | refine bS ?_ GE101.out) | exact HB.out)) hb); have n2_ := AM (hbox); have n3_ := AM ((by rw [hg]; exact (bZ (by repeat (first | (with_reducible first | exact HB.out | apply bA | apply bN | apply bD | refine bS ?_ GE101.out) | exact HB.out))) : w.heap.size ≤ gb102)); have n4_ := n3_; have n5_ := AM ((by rw [hg]; exact Nat.ne_of_lt (blk_lt (g := gb101) (o := .cells #[.int .i64 a1_0, .int .i64 a1_1, .int .i64 a1_2, .string a1_3, .int .i64 a1_4] 32 (0, 0)) (by (with_reducible repeat (first | apply kN | apply kD | apply kA)); exact BK101.out)) : gb101 ≠ gb102)); have n6_ := AM ((by rw [hg]; exact Nat.ne_of_gt (blk_lt (g := gb101) (o := .cells #[.int .i64 a1_0, .int .i64 a1_1, .int .i64 a1_2, .string a1_3, .int .i64 a1_4] 32 (0, 0)) (by (with_reducible repeat (first | apply kN | apply kD | apply kA)); exact BK101.out)) : gb102 ≠ gb101)); clear BK101; clear HB; have BK101 := n0_; have HB := n1_; have BK102 := n2_; have GW102 := n3_; have GE102 := n4_; have NB101_102 := n5_; have NB102_101 := n6_; clear n0_ n1_ n2_ n3_ n4_ n5_ n6_; clear hb hbox hg; have hnb6 := NB102_101.out; have hnc6 := NB101_102.out; have hcz7_0 : w5.cell? ⟨gb102, 0, none⟩ = some (.slice none 0 0) := (kC BK102.out 0).trans rfl; have hcz7_1 : w5.cell? ⟨gb102, 1, none⟩ = some (.bool false) := (kC BK102.out 1).trans rfl; have hcz7_2 : w5.cell? ⟨gb102, 2, none⟩ = some (.int .i64 0) := (kC BK102.out 2).trans rfl; have hfz7_0 := fZ BK102.out 0; have hfz7_1 := fZ BK102.out 1; have hfz7_2 := fZ BK102.out 2))
  refine bodyPost_ret (results_cell_row rfl _ _ gb102 29 #[.slice none 0 0, .bool false, .int .i64 2] (0, 0) _ rfl (by (with_reducible repeat (first | apply kN | apply kD | apply kA)); refine blk_put (cs := #[.slice none 0 0, .bool false, .int .i64 0]) ?_ 2 _ rfl; (with_reducible repeat (first | apply kN | apply kD | apply kA)); refine blk_put (cs := #[.slice none 0 0, .bool false, .int .i64 0]) ?_ 1 _ rfl; (with_reducible repeat (first | apply kN | apply kD | apply kA)); refine blk_put (cs := #[.slice none 0 0, .bool false, .int .i64 0]) ?_ 0 _ rfl; (with_reducible repeat (first | apply kN | apply kD | apply kA)); exact BK102.out) Try.underlying29 rfl (by kernel_rfl)) rfl ?_
  exact ⟨_, by first | rfl | (simp [*, errW_none, errW_some] <;> rfl), by first | exact Kd.R_nil _ _ _ _ _ | exact Kd.N_nil _ _ _ _ _ | exact Kd.V_nil _ _ _ _ _ | exact Kd.Q_nil _ _ _ _ _ | exact Kd.S_nil _ _ _ _ _, by repeat (first | (with_reducible first | exact HB.out | apply bA | apply bN | apply bD | refine bS ?_ GE101.out | refine bS ?_ GE102.out) | exact HB.out)⟩
 ·
  rw [if_neg c3] at H
  have c3b0 : decide (400 < (l0.length : Int)) = false := decide_eq_false c3
  have c3b1 : decide (400 < l0.length) = false := decide_eq_false (by omega)
  clear c3
  replace H := Option.bind_eq_some_iff.mp H
  obtain ⟨t103, A80, H⟩ := H
  replace H : (if t103 = true then ((spec_l11Vote.f a1_0 a1_1 a1_2 a1_3 a1_4).bind fun t104 => (if t104 = true then ((spec_l11Add.f k l0 a1_0 a1_1 a1_2 a1_3 a1_4).bind fun bt105 => (some (bt105.1, bt105.2.1, bt105.2.2))) else (some (([] : List (S32)), false, 1)))) else (some (([] : List (S32)), false, 1))) = some (r1, r2, r3) := H
  have A8 := AM A80
  clear A80
  by_cases c9 : t103 = true
  ·
   subst c9
   have H1 : ((spec_l11Vote.f a1_0 a1_1 a1_2 a1_3 a1_4).bind fun t104 => (if t104 = true then ((spec_l11Add.f k l0 a1_0 a1_1 a1_2 a1_3 a1_4).bind fun bt105 => (some (bt105.1, bt105.2.1, bt105.2.2))) else (some (([] : List (S32)), false, 1)))) = some (r1, r2, r3) := by rw [if_pos rfl] at H; exact H
   clear H
   have H := H1
   clear H1
   replace H := Option.bind_eq_some_iff.mp H
   obtain ⟨t104, A100, H⟩ := H
   replace H : (if t104 = true then ((spec_l11Add.f k l0 a1_0 a1_1 a1_2 a1_3 a1_4).bind fun bt105 => (some (bt105.1, bt105.2.1, bt105.2.2))) else (some (([] : List (S32)), false, 1))) = some (r1, r2, r3) := H
   have A10 := AM A100
   clear A100
   by_cases c11 : t104 = true
   ·
    subst c11
    have H1 : ((spec_l11Add.f k l0 a1_0 a1_1 a1_2 a1_3 a1_4).bind fun bt105 => (some (bt105.1, bt105.2.1, bt105.2.2))) = some (r1, r2, r3) := by rw [if_pos rfl] at H; exact H
    clear H
    have H := H1
    clear H1
    replace H := Option.bind_eq_some_iff.mp H
    obtain ⟨⟨t105, t108, t109⟩, A120, H⟩ := H
    replace H : (some (t105, t108, t109)) = some (r1, r2, r3) := H
    have A12 := AM A120
    clear A120
    simp only [Option.some.injEq, Prod.mk.injEq] at H
    obtain ⟨rfl, rfl, rfl⟩ := H
    go_enter Try.func16, Try.ntmps16
    go_wp2_with (first | ((with_reducible refine gate_dst (N := 3) rfl ?_); refine box_event (by rfl) (N := 3) (by rfl) (cs := #[.int .i64 a1_0, .int .i64 a1_1, .int .i64 a1_2, .string a1_3, .int .i64 a1_4]) (t := 32) (by first | (go_simp; done) | (go_simp; rfl)) ?_; intro gb101 hg w13 hbox hb; have n0_ := AM (below_step (by repeat (first | (with_reducible first | exact HB.out | apply bA | apply bN | apply bD) | exact HB.out)) hb); have n1_ := AM (hbox); have n2_ := AM ((by rw [hg]; exact (bZ (by repeat (first | (with_reducible first | exact HB.out | apply bA | apply bN | apply bD) | exact HB.out))) : w.heap.size ≤ gb101)); have n3_ := n2_; clear HB; have HB := n0_; have BK101 := n1_; have GW101 := n2_; have GE101 := n3_; clear n0_ n1_ n2_ n3_; clear hb hbox hg) | ((with_reducible refine gate_dst (N := 4) rfl ?_); refine box_event (by rfl) (N := 4) (by rfl) (cs := #[.slice none 0 0, .bool false, .int .i64 0]) (t := 29) (by first | (go_simp; done) | (go_simp; rfl)) ?_; intro gb102 hg w14 hbox hb; have n0_ := AM (blk_below (g := gb101) (o := .cells #[.int .i64 a1_0, .int .i64 a1_1, .int .i64 a1_2, .string a1_3, .int .i64 a1_4] 32 (0, 0)) (by (with_reducible repeat (first | apply kN | apply kD | apply kA)); exact BK101.out) hb); have n1_ := AM (below_step (by repeat (first | (with_reducible first | exact HB.out | apply bA | apply bN | apply bD | refine bS ?_ GE101.out) | exact HB.out)) hb); have n2_ := AM (hbox); have n3_ := AM ((by rw [hg]; exact (bZ (by repeat (first | (with_reducible first | exact HB.out | apply bA | apply bN | apply bD | refine bS ?_ GE101.out) | exact HB.out))) : w.heap.size ≤ gb102)); have n4_ := n3_; have n5_ := AM ((by rw [hg]; exact Nat.ne_of_lt (blk_lt (g := gb101) (o := .cells #[.int .i64 a1_0, .int .i64 a1_1, .int .i64 a1_2, .string a1_3, .int .i64 a1_4] 32 (0, 0)) (by (with_reducible repeat (first | apply kN | apply kD | apply kA)); exact BK101.out)) : gb101 ≠ gb102)); have n6_ := AM ((by rw [hg]; exact Nat.ne_of_gt (blk_lt (g := gb101) (o := .cells #[.int .i64 a1_0, .int .i64 a1_1, .int .i64 a1_2, .string a1_3, .int .i64 a1_4] 32 (0, 0)) (by (with_reducible repeat (first | apply kN | apply kD | apply kA)); exact BK101.out)) : gb102 ≠ gb101)); clear BK101; clear HB; have BK101 := n0_; have HB := n1_; have BK102 := n2_; have GW102 := n3_; have GE102 := n4_; have NB101_102 := n5_; have NB102_101 := n6_; clear n0_ n1_ n2_ n3_ n4_ n5_ n6_; clear hb hbox hg) | ((with_reducible refine gate_callee (f := 68) rfl ?_); refine goesL_ (some 10) rfl rfl Try.func68 (by kernel_rfl) rfl #[.slice A0 l0.length c0] rfl (by (try simp only [mA, mB, mC]); first | done | rfl | (simp only [mD, mE]; rfl)) ?_; (with_reducible refine (spec_VotesRight.calls k _ _ l0 true _ ?side1 ?side2 A8.out).mono ?_); (case side1 => repeat (first | exact (cB HR0.out HB.out) | (with_reducible refine cA ?_ _) | (with_reducible refine cN ?_ _) | (with_reducible refine cD ?_))); (case side2 => exact HC0.out); rintro e w15 ⟨rfl, hb⟩; refine ⟨_, rfl, ?_⟩; have n0_ := AM (blk_below (g := gb101) (o := .cells #[.int .i64 a1_0, .int .i64 a1_1, .int .i64 a1_2, .string a1_3, .int .i64 a1_4] 32 (0, 0)) (by (with_reducible repeat (first | apply kN | apply kD | apply kA)); exact BK101.out) hb); have n1_ := AM (blk_below (g := gb102) (o := .cells #[.slice none 0 0, .bool false, .int .i64 0] 29 (0, 0)) (by (with_reducible repeat (first | apply kN | apply kD | apply kA)); exact BK102.out) hb); have n2_ := AM (below_step (by repeat (first | (with_reducible first | exact HB.out | apply bA | apply bN | apply bD | refine bS ?_ GE101.out | refine bS ?_ GE102.out) | exact HB.out)) hb); clear BK101; clear BK102; clear HB; have BK101 := n0_; have BK102 := n1_; have HB := n2_; clear n0_ n1_ n2_; (try clear hb); (try clear hb2); (try clear hk); (try clear hi); have hnb16 := NB101_102.out; have hnc16 := NB102_101.out; have hcz17_0 : w15.cell? ⟨gb101, 0, none⟩ = some (.int .i64 a1_0) := (kC BK101.out 0).trans rfl; have hcz17_1 : w15.cell? ⟨gb101, 1, none⟩ = some (.int .i64 a1_1) := (kC BK101.out 1).trans rfl; have hcz17_2 : w15.cell? ⟨gb101, 2, none⟩ = some (.int .i64 a1_2) := (kC BK101.out 2).trans rfl; have hcz17_3 : w15.cell? ⟨gb101, 3, none⟩ = some (.string a1_3) := (kC BK101.out 3).trans rfl; have hcz17_4 : w15.cell? ⟨gb101, 4, none⟩ = some (.int .i64 a1_4) := (kC BK101.out 4).trans rfl; have hfz17_0 := fZ BK101.out 0; have hfz17_1 := fZ BK101.out 1; have hfz17_2 := fZ BK101.out 2; have hfz17_3 := fZ BK101.out 3; have hfz17_4 := fZ BK101.out 4) | (go_at_call 69; (with_reducible refine (spec_l11Vote.calls a1_0 a1_1 a1_2 a1_3 a1_4 true _ A10.out).mono ?_); rintro e w18 ⟨rfl, hb⟩; have n0_ := AM (blk_below (g := gb101) (o := .cells #[.int .i64 a1_0, .int .i64 a1_1, .int .i64 a1_2, .string a1_3, .int .i64 a1_4] 32 (0, 0)) (by (with_reducible repeat (first | apply kN | apply kD | apply kA)); exact BK101.out) hb); have n1_ := AM (blk_below (g := gb102) (o := .cells #[.slice none 0 0, .bool false, .int .i64 0] 29 (0, 0)) (by (with_reducible repeat (first | apply kN | apply kD | apply kA)); exact BK102.out) hb); have n2_ := AM (below_step (by repeat (first | (with_reducible first | exact HB.out | apply bA | apply bN | apply bD | refine bS ?_ GE101.out | refine bS ?_ GE102.out) | exact HB.out)) hb); clear BK101; clear BK102; clear HB; have BK101 := n0_; have BK102 := n1_; have HB := n2_; clear n0_ n1_ n2_; (try clear hb); (try clear hb2); (try clear hk); (try clear hi); have hcz19_0 : w18.cell? ⟨gb101, 0, none⟩ = some (.int .i64 a1_0) := (kC BK101.out 0).trans rfl; have hcz19_1 : w18.cell? ⟨gb101, 1, none⟩ = some (.int .i64 a1_1) := (kC BK101.out 1).trans rfl; have hcz19_2 : w18.cell? ⟨gb101, 2, none⟩ = some (.int .i64 a1_2) := (kC BK101.out 2).trans rfl; have hcz19_3 : w18.cell? ⟨gb101, 3, none⟩ = some (.string a1_3) := (kC BK101.out 3).trans rfl; have hcz19_4 : w18.cell? ⟨gb101, 4, none⟩ = some (.int .i64 a1_4) := (kC BK101.out 4).trans rfl; have hfz19_0 := fZ BK101.out 0; have hfz19_1 := fZ BK101.out 1; have hfz19_2 := fZ BK101.out 2; have hfz19_3 := fZ BK101.out 3; have hfz19_4 := fZ BK101.out 4) | ((with_reducible refine gate_callee (f := 70) rfl ?_); refine goesL_ (some 20) rfl rfl Try.func70 (by kernel_rfl) rfl #[.slice A0 l0.length c0, .agg #[.int .i64 a1_0, .int .i64 a1_1, .int .i64 a1_2, .string a1_3, .int .i64 a1_4]] rfl (by (try simp only [mA, mB, mC]); first | done | rfl | (simp only [mD, mE]; rfl)) ?_; (with_reducible refine (spec_l11Add.calls k _ _ l0 a1_0 a1_1 a1_2 a1_3 a1_4 t105 t108 t109 _ ?side1 ?side2 A12.out).mono ?_); (case side1 => repeat (first | exact (cB HR0.out HB.out) | (with_reducible refine cA ?_ _) | (with_reducible refine cN ?_ _) | (with_reducible refine cD ?_))); (case side2 => exact HC0.out); rintro e w20 ⟨v106, rfl, ho0, hb⟩; refine ⟨_, rfl, ?_⟩; have n0_ := AM (Kd.R_lower (Kd.R_newB ho0 (g := gb101) (o := .cells #[.int .i64 a1_0, .int .i64 a1_1, .int .i64 a1_2, .string a1_3, .int .i64 a1_4] 32 (0, 0)) (by (with_reducible repeat (first | apply kN | apply kD | apply kA)); exact BK101.out)) (bZ (by repeat (first | (with_reducible first | exact HB.out | apply bA | apply bN | apply bD | refine bS ?_ GE101.out | refine bS ?_ GE102.out) | exact HB.out)))); have n1_ := AM (blk_below (g := gb101) (o := .cells #[.int .i64 a1_0, .int .i64 a1_1, .int .i64 a1_2, .string a1_3, .int .i64 a1_4] 32 (0, 0)) (by (with_reducible repeat (first | apply kN | apply kD | apply kA)); exact BK101.out) hb); have n2_ := AM (blk_below (g := gb102) (o := .cells #[.slice none 0 0, .bool false, .int .i64 0] 29 (0, 0)) (by (with_reducible repeat (first | apply kN | apply kD | apply kA)); exact BK102.out) hb); have n3_ := AM (below_step (by repeat (first | (with_reducible first | exact HB.out | apply bA | apply bN | apply bD | refine bS ?_ GE101.out | refine bS ?_ GE102.out) | exact HB.out)) hb); clear BK101; clear BK102; clear HB; have HO107 := n0_; have BK101 := n1_; have BK102 := n2_; have HB := n3_; clear n0_ n1_ n2_ n3_; (try clear hb); (try clear hb2); (try clear hk); (try clear hi); (try clear ho0); obtain ⟨Ao21, co21, eo21⟩ := Kd.R_slice HO107.out; subst eo21; have hcz22_0 : w20.cell? ⟨gb102, 0, none⟩ = some (.slice none 0 0) := (kC BK102.out 0).trans rfl; have hcz22_1 : w20.cell? ⟨gb102, 1, none⟩ = some (.bool false) := (kC BK102.out 1).trans rfl; have hcz22_2 : w20.cell? ⟨gb102, 2, none⟩ = some (.int .i64 0) := (kC BK102.out 2).trans rfl; have hfz22_0 := fZ BK102.out 0; have hfz22_1 := fZ BK102.out 1; have hfz22_2 := fZ BK102.out 2))
    refine bodyPost_ret (results_cell_row rfl _ _ gb102 29 #[.slice Ao21 t105.length co21, .bool t108, .int .i64 t109] (0, 0) _ rfl (by (with_reducible repeat (first | apply kN | apply kD | apply kA)); refine blk_put (cs := #[.slice Ao21 t105.length co21, .bool t108, .int .i64 0]) ?_ 2 _ rfl; (with_reducible repeat (first | apply kN | apply kD | apply kA)); refine blk_put (cs := #[.slice Ao21 t105.length co21, .bool false, .int .i64 0]) ?_ 1 _ rfl; (with_reducible repeat (first | apply kN | apply kD | apply kA)); refine blk_put (cs := #[.slice none 0 0, .bool false, .int .i64 0]) ?_ 0 _ rfl; (with_reducible repeat (first | apply kN | apply kD | apply kA)); exact BK102.out) Try.underlying29 rfl (by kernel_rfl)) rfl ?_
    exact ⟨_, by first | rfl | (simp [*, errW_none, errW_some] <;> rfl), by (with_reducible repeat (first | apply rA | apply rN | apply rD)); exact Kd.R_mono (Kd.R_far (p := ⟨gb102, 2, none⟩) (Kd.R_far (p := ⟨gb102, 1, none⟩) (Kd.R_far (p := ⟨gb102, 0, none⟩) (Kd.R_types HO107.out BK102.out (by decide)) (fun _ hk => hk.2) (.slice Ao21 t105.length co21)) (fun _ hk => hk.2) (.bool t108)) (fun _ hk => hk.2) (.int .i64 t109)) (fun _ hk => trivial), by repeat (first | (with_reducible first | exact HB.out | apply bA | apply bN | apply bD | refine bS ?_ GE101.out | refine bS ?_ GE102.out) | exact HB.out)⟩
   ·
    replace c11 := Bool.eq_false_iff.mpr c11
    subst c11
    have H1 : (some (([] : List (S32)), false, 1)) = some (r1, r2, r3) := by rw [if_neg (show ¬ (false = true) by decide)] at H; exact H
    clear H
    have H := H1
    clear H1
    simp only [Option.some.injEq, Prod.mk.injEq] at H
    obtain ⟨rfl, rfl, rfl⟩ := H
    go_enter Try.func16, Try.ntmps16
    go_wp2_with (first | ((with_reducible refine gate_dst (N := 3) rfl ?_); refine box_event (by rfl) (N := 3) (by rfl) (cs := #[.int .i64 a1_0, .int .i64 a1_1, .int .i64 a1_2, .string a1_3, .int .i64 a1_4]) (t := 32) (by first | (go_simp; done) | (go_simp; rfl)) ?_; intro gb101 hg w23 hbox hb; have n0_ := AM (below_step (by repeat (first | (with_reducible first | exact HB.out | apply bA | apply bN | apply bD) | exact HB.out)) hb); have n1_ := AM (hbox); have n2_ := AM ((by rw [hg]; exact (bZ (by repeat (first | (with_reducible first | exact HB.out | apply bA | apply bN | apply bD) | exact HB.out))) : w.heap.size ≤ gb101)); have n3_ := n2_; clear HB; have HB := n0_; have BK101 := n1_; have GW101 := n2_; have GE101 := n3_; clear n0_ n1_ n2_ n3_; clear hb hbox hg) | ((with_reducible refine gate_dst (N := 4) rfl ?_); refine box_event (by rfl) (N := 4) (by rfl) (cs := #[.slice none 0 0, .bool false, .int .i64 0]) (t := 29) (by first | (go_simp; done) | (go_simp; rfl)) ?_; intro gb102 hg w24 hbox hb; have n0_ := AM (blk_below (g := gb101) (o := .cells #[.int .i64 a1_0, .int .i64 a1_1, .int .i64 a1_2, .string a1_3, .int .i64 a1_4] 32 (0, 0)) (by (with_reducible repeat (first | apply kN | apply kD | apply kA)); exact BK101.out) hb); have n1_ := AM (below_step (by repeat (first | (with_reducible first | exact HB.out | apply bA | apply bN | apply bD | refine bS ?_ GE101.out) | exact HB.out)) hb); have n2_ := AM (hbox); have n3_ := AM ((by rw [hg]; exact (bZ (by repeat (first | (with_reducible first | exact HB.out | apply bA | apply bN | apply bD | refine bS ?_ GE101.out) | exact HB.out))) : w.heap.size ≤ gb102)); have n4_ := n3_; have n5_ := AM ((by rw [hg]; exact Nat.ne_of_lt (blk_lt (g := gb101) (o := .cells #[.int .i64 a1_0, .int .i64 a1_1, .int .i64 a1_2, .string a1_3, .int .i64 a1_4] 32 (0, 0)) (by (with_reducible repeat (first | apply kN | apply kD | apply kA)); exact BK101.out)) : gb101 ≠ gb102)); have n6_ := AM ((by rw [hg]; exact Nat.ne_of_gt (blk_lt (g := gb101) (o := .cells #[.int .i64 a1_0, .int .i64 a1_1, .int .i64 a1_2, .string a1_3, .int .i64 a1_4] 32 (0, 0)) (by (with_reducible repeat (first | apply kN | apply kD | apply kA)); exact BK101.out)) : gb102 ≠ gb101)); clear BK101; clear HB; have BK101 := n0_; have HB := n1_; have BK102 := n2_; have GW102 := n3_; have GE102 := n4_; have NB101_102 := n5_; have NB102_101 := n6_; clear n0_ n1_ n2_ n3_ n4_ n5_ n6_; clear hb hbox hg) | ((with_reducible refine gate_callee (f := 68) rfl ?_); refine goesL_ (some 10) rfl rfl Try.func68 (by kernel_rfl) rfl #[.slice A0 l0.length c0] rfl (by (try simp only [mA, mB, mC]); first | done | rfl | (simp only [mD, mE]; rfl)) ?_; (with_reducible refine (spec_VotesRight.calls k _ _ l0 true _ ?side1 ?side2 A8.out).mono ?_); (case side1 => repeat (first | exact (cB HR0.out HB.out) | (with_reducible refine cA ?_ _) | (with_reducible refine cN ?_ _) | (with_reducible refine cD ?_))); (case side2 => exact HC0.out); rintro e w25 ⟨rfl, hb⟩; refine ⟨_, rfl, ?_⟩; have n0_ := AM (blk_below (g := gb101) (o := .cells #[.int .i64 a1_0, .int .i64 a1_1, .int .i64 a1_2, .string a1_3, .int .i64 a1_4] 32 (0, 0)) (by (with_reducible repeat (first | apply kN | apply kD | apply kA)); exact BK101.out) hb); have n1_ := AM (blk_below (g := gb102) (o := .cells #[.slice none 0 0, .bool false, .int .i64 0] 29 (0, 0)) (by (with_reducible repeat (first | apply kN | apply kD | apply kA)); exact BK102.out) hb); have n2_ := AM (below_step (by repeat (first | (with_reducible first | exact HB.out | apply bA | apply bN | apply bD | refine bS ?_ GE101.out | refine bS ?_ GE102.out) | exact HB.out)) hb); clear BK101; clear BK102; clear HB; have BK101 := n0_; have BK102 := n1_; have HB := n2_; clear n0_ n1_ n2_; (try clear hb); (try clear hb2); (try clear hk); (try clear hi); have hnb26 := NB101_102.out; have hnc26 := NB102_101.out; have hcz27_0 : w25.cell? ⟨gb101, 0, none⟩ = some (.int .i64 a1_0) := (kC BK101.out 0).trans rfl; have hcz27_1 : w25.cell? ⟨gb101, 1, none⟩ = some (.int .i64 a1_1) := (kC BK101.out 1).trans rfl; have hcz27_2 : w25.cell? ⟨gb101, 2, none⟩ = some (.int .i64 a1_2) := (kC BK101.out 2).trans rfl; have hcz27_3 : w25.cell? ⟨gb101, 3, none⟩ = some (.string a1_3) := (kC BK101.out 3).trans rfl; have hcz27_4 : w25.cell? ⟨gb101, 4, none⟩ = some (.int .i64 a1_4) := (kC BK101.out 4).trans rfl; have hfz27_0 := fZ BK101.out 0; have hfz27_1 := fZ BK101.out 1; have hfz27_2 := fZ BK101.out 2; have hfz27_3 := fZ BK101.out 3; have hfz27_4 := fZ BK101.out 4) | (go_at_call 69; (with_reducible refine (spec_l11Vote.calls a1_0 a1_1 a1_2 a1_3 a1_4 false _ A10.out).mono ?_); rintro e w28 ⟨rfl, hb⟩; have n0_ := AM (blk_below (g := gb101) (o := .cells #[.int .i64 a1_0, .int .i64 a1_1, .int .i64 a1_2, .string a1_3, .int .i64 a1_4] 32 (0, 0)) (by (with_reducible repeat (first | apply kN | apply kD | apply kA)); exact BK101.out) hb); have n1_ := AM (blk_below (g := gb102) (o := .cells #[.slice none 0 0, .bool false, .int .i64 0] 29 (0, 0)) (by (with_reducible repeat (first | apply kN | apply kD | apply kA)); exact BK102.out) hb); have n2_ := AM (below_step (by repeat (first | (with_reducible first | exact HB.out | apply bA | apply bN | apply bD | refine bS ?_ GE101.out | refine bS ?_ GE102.out) | exact HB.out)) hb); clear BK101; clear BK102; clear HB; have BK101 := n0_; have BK102 := n1_; have HB := n2_; clear n0_ n1_ n2_; (try clear hb); (try clear hb2); (try clear hk); (try clear hi); have hcz29_0 : w28.cell? ⟨gb102, 0, none⟩ = some (.slice none 0 0) := (kC BK102.out 0).trans rfl; have hcz29_1 : w28.cell? ⟨gb102, 1, none⟩ = some (.bool false) := (kC BK102.out 1).trans rfl; have hcz29_2 : w28.cell? ⟨gb102, 2, none⟩ = some (.int .i64 0) := (kC BK102.out 2).trans rfl; have hfz29_0 := fZ BK102.out 0; have hfz29_1 := fZ BK102.out 1; have hfz29_2 := fZ BK102.out 2))
    refine bodyPost_ret (results_cell_row rfl _ _ gb102 29 #[.slice none 0 0, .bool false, .int .i64 1] (0, 0) _ rfl (by (with_reducible repeat (first | apply kN | apply kD | apply kA)); refine blk_put (cs := #[.slice none 0 0, .bool false, .int .i64 0]) ?_ 2 _ rfl; (with_reducible repeat (first | apply kN | apply kD | apply kA)); refine blk_put (cs := #[.slice none 0 0, .bool false, .int .i64 0]) ?_ 1 _ rfl; (with_reducible repeat (first | apply kN | apply kD | apply kA)); refine blk_put (cs := #[.slice none 0 0, .bool false, .int .i64 0]) ?_ 0 _ rfl; (with_reducible repeat (first | apply kN | apply kD | apply kA)); exact BK102.out) Try.underlying29 rfl (by kernel_rfl)) rfl ?_
    exact ⟨_, by first | rfl | (simp [*, errW_none, errW_some] <;> rfl), by first | exact Kd.R_nil _ _ _ _ _ | exact Kd.N_nil _ _ _ _ _ | exact Kd.V_nil _ _ _ _ _ | exact Kd.Q_nil _ _ _ _ _ | exact Kd.S_nil _ _ _ _ _, by repeat (first | (with_reducible first | exact HB.out | apply bA | apply bN | apply bD | refine bS ?_ GE101.out | refine bS ?_ GE102.out) | exact HB.out)⟩
  ·
   replace c9 := Bool.eq_false_iff.mpr c9
   subst c9
   have H1 : (some (([] : List (S32)), false, 1)) = some (r1, r2, r3) := by rw [if_neg (show ¬ (false = true) by decide)] at H; exact H
   clear H
   have H := H1
   clear H1
   simp only [Option.some.injEq, Prod.mk.injEq] at H
   obtain ⟨rfl, rfl, rfl⟩ := H
   go_enter Try.func16, Try.ntmps16
   go_wp2_with (first | ((with_reducible refine gate_dst (N := 3) rfl ?_); refine box_event (by rfl) (N := 3) (by rfl) (cs := #[.int .i64 a1_0, .int .i64 a1_1, .int .i64 a1_2, .string a1_3, .int .i64 a1_4]) (t := 32) (by first | (go_simp; done) | (go_simp; rfl)) ?_; intro gb101 hg w30 hbox hb; have n0_ := AM (below_step (by repeat (first | (with_reducible first | exact HB.out | apply bA | apply bN | apply bD) | exact HB.out)) hb); have n1_ := AM (hbox); have n2_ := AM ((by rw [hg]; exact (bZ (by repeat (first | (with_reducible first | exact HB.out | apply bA | apply bN | apply bD) | exact HB.out))) : w.heap.size ≤ gb101)); have n3_ := n2_; clear HB; have HB := n0_; have BK101 := n1_; have GW101 := n2_; have GE101 := n3_; clear n0_ n1_ n2_ n3_; clear hb hbox hg) | ((with_reducible refine gate_dst (N := 4) rfl ?_); refine box_event (by rfl) (N := 4) (by rfl) (cs := #[.slice none 0 0, .bool false, .int .i64 0]) (t := 29) (by first | (go_simp; done) | (go_simp; rfl)) ?_; intro gb102 hg w31 hbox hb; have n0_ := AM (blk_below (g := gb101) (o := .cells #[.int .i64 a1_0, .int .i64 a1_1, .int .i64 a1_2, .string a1_3, .int .i64 a1_4] 32 (0, 0)) (by (with_reducible repeat (first | apply kN | apply kD | apply kA)); exact BK101.out) hb); have n1_ := AM (below_step (by repeat (first | (with_reducible first | exact HB.out | apply bA | apply bN | apply bD | refine bS ?_ GE101.out) | exact HB.out)) hb); have n2_ := AM (hbox); have n3_ := AM ((by rw [hg]; exact (bZ (by repeat (first | (with_reducible first | exact HB.out | apply bA | apply bN | apply bD | refine bS ?_ GE101.out) | exact HB.out))) : w.heap.size ≤ gb102)); have n4_ := n3_; have n5_ := AM ((by rw [hg]; exact Nat.ne_of_lt (blk_lt (g := gb101) (o := .cells #[.int .i64 a1_0, .int .i64 a1_1, .int .i64 a1_2, .string a1_3, .int .i64 a1_4] 32 (0, 0)) (by (with_reducible repeat (first | apply kN | apply kD | apply kA)); exact BK101.out)) : gb101 ≠ gb102)); have n6_ := AM ((by rw [hg]; exact Nat.ne_of_gt (blk_lt (g := gb101) (o := .cells #[.int .i64 a1_0, .int .i64 a1_1, .int .i64 a1_2, .string a1_3, .int .i64 a1_4] 32 (0, 0)) (by (with_reducible repeat (first | apply kN | apply kD | apply kA)); exact BK101.out)) : gb102 ≠ gb101)); clear BK101; clear HB; have BK101 := n0_; have HB := n1_; have BK102 := n2_; have GW102 := n3_; have GE102 := n4_; have NB101_102 := n5_; have NB102_101 := n6_; clear n0_ n1_ n2_ n3_ n4_ n5_ n6_; clear hb hbox hg) | ((with_reducible refine gate_callee (f := 68) rfl ?_); refine goesL_ (some 10) rfl rfl Try.func68 (by kernel_rfl) rfl #[.slice A0 l0.length c0] rfl (by (try simp only [mA, mB, mC]); first | done | rfl | (simp only [mD, mE]; rfl)) ?_; (with_reducible refine (spec_VotesRight.calls k _ _ l0 false _ ?side1 ?side2 A8.out).mono ?_); (case side1 => repeat (first | exact (cB HR0.out HB.out) | (with_reducible refine cA ?_ _) | (with_reducible refine cN ?_ _) | (with_reducible refine cD ?_))); (case side2 => exact HC0.out); rintro e w32 ⟨rfl, hb⟩; refine ⟨_, rfl, ?_⟩; have n0_ := AM (blk_below (g := gb101) (o := .cells #[.int .i64 a1_0, .int .i64 a1_1, .int .i64 a1_2, .string a1_3, .int .i64 a1_4] 32 (0, 0)) (by (with_reducible repeat (first | apply kN | apply kD | apply kA)); exact BK101.out) hb); have n1_ := AM (blk_below (g := gb102) (o := .cells #[.slice none 0 0, .bool false, .int .i64 0] 29 (0, 0)) (by (with_reducible repeat (first | apply kN | apply kD | apply kA)); exact BK102.out) hb); have n2_ := AM (below_step (by repeat (first | (with_reducible first | exact HB.out | apply bA | apply bN | apply bD | refine bS ?_ GE101.out | refine bS ?_ GE102.out) | exact HB.out)) hb); clear BK101; clear BK102; clear HB; have BK101 := n0_; have BK102 := n1_; have HB := n2_; clear n0_ n1_ n2_; (try clear hb); (try clear hb2); (try clear hk); (try clear hi); have hnb33 := NB102_101.out; have hnc33 := NB101_102.out; have hcz34_0 : w32.cell? ⟨gb102, 0, none⟩ = some (.slice none 0 0) := (kC BK102.out 0).trans rfl; have hcz34_1 : w32.cell? ⟨gb102, 1, none⟩ = some (.bool false) := (kC BK102.out 1).trans rfl; have hcz34_2 : w32.cell? ⟨gb102, 2, none⟩ = some (.int .i64 0) := (kC BK102.out 2).trans rfl; have hfz34_0 := fZ BK102.out 0; have hfz34_1 := fZ BK102.out 1; have hfz34_2 := fZ BK102.out 2))
   refine bodyPost_ret (results_cell_row rfl _ _ gb102 29 #[.slice none 0 0, .bool false, .int .i64 1] (0, 0) _ rfl (by (with_reducible repeat (first | apply kN | apply kD | apply kA)); refine blk_put (cs := #[.slice none 0 0, .bool false, .int .i64 0]) ?_ 2 _ rfl; (with_reducible repeat (first | apply kN | apply kD | apply kA)); refine blk_put (cs := #[.slice none 0 0, .bool false, .int .i64 0]) ?_ 1 _ rfl; (with_reducible repeat (first | apply kN | apply kD | apply kA)); refine blk_put (cs := #[.slice none 0 0, .bool false, .int .i64 0]) ?_ 0 _ rfl; (with_reducible repeat (first | apply kN | apply kD | apply kA)); exact BK102.out) Try.underlying29 rfl (by kernel_rfl)) rfl ?_
   exact ⟨_, by first | rfl | (simp [*, errW_none, errW_some] <;> rfl), by first | exact Kd.R_nil _ _ _ _ _ | exact Kd.N_nil _ _ _ _ _ | exact Kd.V_nil _ _ _ _ _ | exact Kd.Q_nil _ _ _ _ _ | exact Kd.S_nil _ _ _ _ _, by repeat (first | (with_reducible first | exact HB.out | apply bA | apply bN | apply bD | refine bS ?_ GE101.out | refine bS ?_ GE102.out) | exact HB.out)⟩

/-! ### impl_within: function 120 -/

def impl_within.f (a0 : Int) (a1 : Int) (a2 : Int) : Option (Bool) := if a0 ≥ a1 then (some (decide (a0 ≤ a2))) else (some false)
set_option maxHeartbeats 60000000 in
set_option maxRecDepth 100000 in
theorem impl_within.calls (a0 : Int) (a1 : Int) (a2 : Int) (r : Bool) (w : World) (h : impl_within.f a0 a1 a2 = some r) :
    Calls Try.prog 120 #[.int .i64 a0, .int .i64 a1, .int .i64 a2] w fun e w' => e = .returned (.bool r) ∧ Drawn0 w w' := by
 have H : (if a0 ≥ a1 then (some (decide (a0 ≤ a2))) else (some false)) = some r := h
 clear h
 by_cases c4 : a0 ≥ a1
 ·
  rw [if_pos c4] at H
  have c4b0 : decide (a1 ≤ a0) = true := decide_eq_true c4
  clear c4
  obtain rfl := Option.some.inj H
  go_enter Try.func120, Try.ntmps120
  go_wp2
  go_ret
  exact ⟨by first | rfl | (simp; done) | (simp [*]; done), by repeat (first | exact Drawn0.refl _ | apply Drawn0.step)⟩
 ·
  rw [if_neg c4] at H
  have c4b0 : decide (a1 ≤ a0) = false := decide_eq_false c4
  clear c4
  obtain rfl := Option.some.inj H
  go_enter Try.func120, Try.ntmps120
  go_wp2
  go_ret
  exact ⟨by first | rfl | (simp; done) | (simp [*]; done), by repeat (first | exact Drawn0.refl _ | apply Drawn0.step)⟩

/-! ### impl_isReplica: function 88 -/

def impl_isReplica.f (a0 : Int) : Option (Bool) := (impl_within.f a0 0 3).bind fun t101 => (some t101)
set_option maxHeartbeats 60000000 in
set_option maxRecDepth 100000 in
theorem impl_isReplica.calls (a0 : Int) (r : Bool) (w : World) (h : impl_isReplica.f a0 = some r) :
    Calls Try.prog 88 #[.int .i64 a0] w fun e w' => e = .returned (.bool r) ∧ Drawn0 w w' := by
 have H : ((impl_within.f a0 0 3).bind fun t101 => (some t101)) = some r := h
 clear h
 replace H := Option.bind_eq_some_iff.mp H
 obtain ⟨t101, A20, H⟩ := H
 replace H : (some t101) = some r := H
 have A2 := AM A20
 clear A20
 obtain rfl := Option.some.inj H
 go_enter Try.func88, Try.ntmps88
 go_wp2_with (first | ((with_reducible refine gate_callee (f := 120) rfl ?_); refine goesL_ (some 4) rfl rfl Try.func120 (by kernel_rfl) rfl #[.int .i64 a0, .int .i64 0, .int .i64 3] rfl (by (try simp only [mA, mB, mC]); first | done | rfl | (simp only [mD, mE]; rfl)) ?_; (with_reducible refine (impl_within.calls a0 0 3 t101 _ A2.out).mono ?_); rintro e w' ⟨rfl, ⟨nd, rfl⟩⟩; refine ⟨_, rfl, ?_⟩))
 go_ret
 exact ⟨by first | rfl | (simp; done) | (simp [*]; done), by repeat (first | exact Drawn0.refl _ | apply Drawn0.step)⟩

end Go.Proofs.Ytjnlopoajcpclaa.X
