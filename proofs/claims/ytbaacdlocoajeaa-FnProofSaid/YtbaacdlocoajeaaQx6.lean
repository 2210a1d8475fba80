/- Printed by a program of this session (wip/mp.py over the kit's print.py): functions of the translation as plain Lean functions, and that the machine's calls do what these say. -/
import Derived.Test.YtbaacdlocoajeaaQx0
import Derived.Test.YtbaacdlocoajeaaQx1
import Derived.Test.YtbaacdlocoajeaaQx3
import Derived.Test.YtbaacdlocoajeaaQx4
import Derived.Test.YtbaacdlocoajeaaQx5
namespace Go.Proofs.Ytbaacdlocoajeaa.Q
open Go.RowKit Go.Proofs.Ytbaacdlocoajeaa.HB Go.Proofs.YtbaacdlocoajeaaW.PrintWords Go.Proofs.YtbaacdlocoajeaaW.PrintLast Go.Proofs.YtbaacdlocoajeaaW.PrintMore
attribute [local go_sem] max2_int min2_int max_two min_two max_three min_three max_four min_four   -- for this text's walks alone
set_option linter.unusedVariables false
set_option linter.unusedSimpArgs false

/-! ### impl_proofOf: function 22 -/

def impl_proofOf.f (k : Nat) (l0 : List (S45)) (a1 : Int) (a2 : Int) (a3 : ByteArray) : Option (Int × Int × ByteArray × List Int) := (impl_voters.f k l0 2 a1 a2 a3).bind fun t102 => (if (t102.length : Int) < 3 then (some (0, 0, (⟨#[]⟩ : ByteArray), ([] : List Int))) else (some (a1, a2, a3, t102)))
theorem impl_proofOf.mono : ∀ a0 a1 a2 a3 k, LeO (impl_proofOf.f k a0 a1 a2 a3) (impl_proofOf.f (k + 1) a0 a1 a2 a3) := by
  intro a0 a1 a2 a3 k
  unfold impl_proofOf.f
  repeat' first
      | (with_reducible exact impl_voters.mono _ _ _ _ _ _)
      | (with_reducible exact LeO.refl _)
      | (with_reducible exact LeO.none _)
      | (with_reducible refine LeO.ite ?_ ?_)
      | (with_reducible refine LeO.bind ?_ (fun _ => ?_))
      | exact impl_voters.mono _ _ _ _ _ _
      | exact LeO.none _
      | refine LeO.ite ?_ ?_
      | refine LeO.bind ?_ (fun _ => ?_)
set_option maxHeartbeats 60000000 in
set_option maxRecDepth 100000 in
theorem impl_proofOf.calls (k : Nat) (A0 : Option Addr) (c0 : Nat) (l0 : List (S45)) (a1 : Int) (a2 : Int) (a3 : ByteArray) (r1 : Int) (r2 : Int) (r3 : ByteArray) (r4 : List Int) (w : World) (hr0 : Kd.C k45 w A0 l0.length l0) (hc0 : l0.length ≤ c0) (h : impl_proofOf.f k l0 a1 a2 a3 = some (r1, r2, r3, r4)) :
    Calls Try.prog 22 #[.slice A0 l0.length c0, .int .i64 a1, .int .i64 a2, .string a3] w fun e w' => ∃ v3_ : Value, e = .returned (.agg #[.int .i64 r1, .int .i64 r2, .string r3, v3_]) ∧ Kd.R (Kd.int .i64) 2 w' w.heap.size (fun _ => True) v3_ r4 ∧ Below w.heap.size w w' := by
 have hu28 := Try.underlying28
 have HR0 := AM hr0
 have HC0 := AM hc0
 clear hr0 hc0
 have HB := AM (Below.refl w.heap.size w)
 have H : ((impl_voters.f k l0 2 a1 a2 a3).bind fun t102 => (if (t102.length : Int) < 3 then (some (0, 0, (⟨#[]⟩ : ByteArray), ([] : List Int))) else (some (a1, a2, a3, t102)))) = some (r1, r2, r3, r4) := h
 clear h
 replace H := Option.bind_eq_some_iff.mp H
 obtain ⟨t102, A50, H⟩ := H
 replace H : (if (t102.length : Int) < 3 then (some (0, 0, (⟨#[]⟩ : ByteArray), ([] : List Int))) else (some (a1, a2, a3, t102))) = some (r1, r2, r3, r4) := H
 have A5 := AM A50
 clear A50
 by_cases c6 : (t102.length : Int) < 3
 ·
  rw [if_pos c6] at H
  have c6b0 : decide ((t102.length : Int) < 3) = true := decide_eq_true c6
  have c6b1 : decide (t102.length < 3) = true := decide_eq_true (by omega)
  clear c6
  simp only [Option.some.injEq, Prod.mk.injEq] at H
  obtain ⟨rfl, rfl, rfl, rfl⟩ := H
  go_enter Try.func22, Try.ntmps22
  go_wp2_with (first | ((with_reducible refine gate_dst (N := 8) rfl ?_); refine box_event (by rfl) (N := 8) (by rfl) (cs := #[.int .i64 0, .int .i64 0, .string (⟨#[]⟩ : ByteArray), .slice none 0 0]) (t := 28) (by first | (go_simp; done) | (go_simp; rfl)) ?_; intro gb101 hg w7 hbox hb; have _ := AM (below_step (bX HB.out) hb); have _ := AM (hbox); have n2_ := AM ((by rw [hg]; exact (bZ (bX HB.out)) : w.heap.size ≤ gb101)); clear HB; rename_i HB BK101; have GW101 := n2_; have GE101 := n2_; clear n2_; clear hb hbox hg) | ((with_reducible refine gate_callee (f := 40) rfl ?_); refine goesL_ (some 14) rfl rfl Try.func40 (by kernel_rfl) rfl #[.slice A0 l0.length c0, .int .i64 2, .int .i64 a1, .int .i64 a2, .string a3] rfl (by (try simp only [mA, mB, mC]); first | done | rfl | (simp only [mD, mE]; rfl)) ?_; (with_reducible refine (impl_voters.calls k _ _ l0 2 a1 a2 a3 t102 _ ?side1 ?side2 A5.out).mono ?_); (case side1 => repeat (first | exact (cB HR0.out HB.out) | (with_reducible first | apply cA | apply cN | apply cD))); (case side2 => exact HC0.out); rintro e w8 ⟨v103, rfl, ho0, hb⟩; refine ⟨_, rfl, ?_⟩; have _ := AM (Kd.R_lower ho0 (bZ (bX HB.out))); have _ := AM (nB BK101.out hb); have _ := AM (below_step (bX HB.out) hb); clear BK101 HB; rename_i HO104 BK101 HB; (try clear hb); (try clear hk); (try clear ho0); obtain ⟨Ao9, co9, eo9⟩ := Kd.R_slice HO104.out; subst eo9; have hcz10 := q4 BK101.out; have hfz10 := fZ BK101.out))
  refine bodyPost_ret (results_cell_row rfl _ _ gb101 28 #[.int .i64 0, .int .i64 0, .string (⟨#[]⟩ : ByteArray), .slice none 0 0] (0, 0) _ rfl (by refine kP (cs := #[.int .i64 0, .int .i64 0, .string (⟨#[]⟩ : ByteArray), .slice none 0 0]) 3 ?_; refine kP (cs := #[.int .i64 0, .int .i64 0, .string (⟨#[]⟩ : ByteArray), .slice none 0 0]) 2 ?_; refine kP (cs := #[.int .i64 0, .int .i64 0, .string (⟨#[]⟩ : ByteArray), .slice none 0 0]) 1 ?_; refine kP (cs := #[.int .i64 0, .int .i64 0, .string (⟨#[]⟩ : ByteArray), .slice none 0 0]) 0 ?_; (with_reducible repeat (first | apply kN | apply kD | apply kA)); exact BK101.out) Try.underlying28 rfl (by kernel_rfl)) rfl ?_
  exact ⟨_, by first | rfl | (simp [*, errW_none, errW_some] <;> rfl), by first | exact Kd.R_nil _ _ _ _ _ | exact Kd.N_nil _ _ _ _ _ | exact Kd.V_nil _ _ _ _ _ | exact Kd.Q_nil _ _ _ _ _ | exact Kd.S_nil _ _ _ _ _, bX HB.out⟩
 rw [if_neg c6] at H
 have c6b0 : decide ((t102.length : Int) < 3) = false := decide_eq_false c6
 have c6b1 : decide (t102.length < 3) = false := decide_eq_false (by omega)
 clear c6
 simp only [Option.some.injEq, Prod.mk.injEq] at H
 obtain ⟨rfl, rfl, rfl, rfl⟩ := H
 go_enter Try.func22, Try.ntmps22
 go_wp2_with (first | ((with_reducible refine gate_dst (N := 8) rfl ?_); refine box_event (by rfl) (N := 8) (by rfl) (cs := #[.int .i64 0, .int .i64 0, .string (⟨#[]⟩ : ByteArray), .slice none 0 0]) (t := 28) (by first | (go_simp; done) | (go_simp; rfl)) ?_; intro gb101 hg w11 hbox hb; have _ := AM (below_step (bX HB.out) hb); have _ := AM (hbox); have n2_ := AM ((by rw [hg]; exact (bZ (bX HB.out)) : w.heap.size ≤ gb101)); clear HB; rename_i HB BK101; have GW101 := n2_; have GE101 := n2_; clear n2_; clear hb hbox hg) | ((with_reducible refine gate_callee (f := 40) rfl ?_); refine goesL_ (some 14) rfl rfl Try.func40 (by kernel_rfl) rfl #[.slice A0 l0.length c0, .int .i64 2, .int .i64 a1, .int .i64 a2, .string a3] rfl (by (try simp only [mA, mB, mC]); first | done | rfl | (simp only [mD, mE]; rfl)) ?_; (with_reducible refine (impl_voters.calls k _ _ l0 2 a1 a2 a3 t102 _ ?side1 ?side2 A5.out).mono ?_); (case side1 => repeat (first | exact (cB HR0.out HB.out) | (with_reducible first | apply cA | apply cN | apply cD))); (case side2 => exact HC0.out); rintro e w12 ⟨v103, rfl, ho0, hb⟩; refine ⟨_, rfl, ?_⟩; have _ := AM (Kd.R_lower ho0 (bZ (bX HB.out))); have _ := AM (nB BK101.out hb); have _ := AM (below_step (bX HB.out) hb); clear BK101 HB; rename_i HO104 BK101 HB; (try clear hb); (try clear hk); (try clear ho0); obtain ⟨Ao13, co13, eo13⟩ := Kd.R_slice HO104.out; subst eo13; have hcz14 := q4 BK101.out; have hfz14 := fZ BK101.out))
 refine bodyPost_ret (results_cell_row rfl _ _ gb101 28 #[.int .i64 a1, .int .i64 a2, .string a3, .slice Ao13 t102.length co13] (0, 0) _ rfl (by refine kP (cs := #[.int .i64 a1, .int .i64 a2, .string a3, .slice none 0 0]) 3 ?_; refine kP (cs := #[.int .i64 a1, .int .i64 a2, .string (⟨#[]⟩ : ByteArray), .slice none 0 0]) 2 ?_; refine kP (cs := #[.int .i64 a1, .int .i64 0, .string (⟨#[]⟩ : ByteArray), .slice none 0 0]) 1 ?_; refine kP (cs := #[.int .i64 0, .int .i64 0, .string (⟨#[]⟩ : ByteArray), .slice none 0 0]) 0 ?_; (with_reducible repeat (first | apply kN | apply kD | apply kA)); exact BK101.out) Try.underlying28 rfl (by kernel_rfl)) rfl ?_
 exact ⟨_, by first | rfl | (simp [*, errW_none, errW_some] <;> rfl), by (with_reducible repeat (first | apply rA | apply rN | apply rD)); exact Rf4 HO104.out BK101.out (by decide) (fun _ hk => trivial), bX HB.out⟩

/-! ### impl_ProofOf: function 5 -/

def impl_ProofOf.f (k : Nat) (l0 : List (S45)) (a1 : Int) (a2 : Int) (a3 : ByteArray) : Option (Int × Int × ByteArray × List Int) := if (a3.size : Int) > 20000 then (some (0, 0, (⟨#[]⟩ : ByteArray), ([] : List Int))) else ((impl_areVotes.f k l0).bind fun t102 => (if t102 = true then ((impl_proofOf.f k l0 a1 a2 a3).bind fun bt103 => (some (bt103.1, bt103.2.1, bt103.2.2.1, bt103.2.2.2))) else (some (0, 0, (⟨#[]⟩ : ByteArray), ([] : List Int)))))
theorem impl_ProofOf.mono : ∀ a0 a1 a2 a3 k, LeO (impl_ProofOf.f k a0 a1 a2 a3) (impl_ProofOf.f (k + 1) a0 a1 a2 a3) := by
  intro a0 a1 a2 a3 k
  unfold impl_ProofOf.f
  repeat' first
      | (with_reducible exact impl_areVotes.mono _ _)
      | (with_reducible exact impl_proofOf.mono _ _ _ _ _)
      | (with_reducible exact LeO.refl _)
      | (with_reducible exact LeO.none _)
      | (with_reducible refine LeO.ite ?_ ?_)
      | (with_reducible refine LeO.bind ?_ (fun _ => ?_))
      | exact impl_areVotes.mono _ _
      | exact impl_proofOf.mono _ _ _ _ _
      | exact LeO.none _
      | refine LeO.ite ?_ ?_
      | refine LeO.bind ?_ (fun _ => ?_)
set_option maxHeartbeats 60000000 in
set_option maxRecDepth 100000 in
theorem impl_ProofOf.calls (k : Nat) (A0 : Option Addr) (c0 : Nat) (l0 : List (S45)) (a1 : Int) (a2 : Int) (a3 : ByteArray) (r1 : Int) (r2 : Int) (r3 : ByteArray) (r4 : List Int) (w : World) (hr0 : Kd.C k45 w A0 l0.length l0) (hc0 : l0.length ≤ c0) (h : impl_ProofOf.f k l0 a1 a2 a3 = some (r1, r2, r3, r4)) :
    Calls Try.prog 5 #[.slice A0 l0.length c0, .int .i64 a1, .int .i64 a2, .string a3] w fun e w' => ∃ v3_ : Value, e = .returned (.agg #[.int .i64 r1, .int .i64 r2, .string r3, v3_]) ∧ Kd.R (Kd.int .i64) 2 w' w.heap.size (fun _ => True) v3_ r4 ∧ Below w.heap.size w w' := by
 have hu28 := Try.underlying28
 have HR0 := AM hr0
 have HC0 := AM hc0
 clear hr0 hc0
 have HB := AM (Below.refl w.heap.size w)
 have H : (if (a3.size : Int) > 20000 then (some (0, 0, (⟨#[]⟩ : ByteArray), ([] : List Int))) else ((impl_areVotes.f k l0).bind fun t102 => (if t102 = true then ((impl_proofOf.f k l0 a1 a2 a3).bind fun bt103 => (some (bt103.1, bt103.2.1, bt103.2.2.1, bt103.2.2.2))) else (some (0, 0, (⟨#[]⟩ : ByteArray), ([] : List Int)))))) = some (r1, r2, r3, r4) := h
 clear h
 by_cases c5 : (a3.size : Int) > 20000
 ·
  rw [if_pos c5] at H
  have c5b0 : decide (20000 < (a3.size : Int)) = true := decide_eq_true c5
  have c5b1 : decide (20000 < a3.size) = true := decide_eq_true (by omega)
  clear c5
  simp only [Option.some.injEq, Prod.mk.injEq] at H
  obtain ⟨rfl, rfl, rfl, rfl⟩ := H
  go_enter Try.func5, Try.ntmps5
  go_wp2_with (first | ((with_reducible refine gate_dst (N := 8) rfl ?_); refine box_event (by rfl) (N := 8) (by rfl) (cs := #[.int .i64 0, .int .i64 0, .string (⟨#[]⟩ : ByteArray), .slice none 0 0]) (t := 28) (by first | (go_simp; done) | (go_simp; rfl)) ?_; intro gb101 hg w6 hbox hb; have _ := AM (below_step (bX HB.out) hb); have _ := AM (hbox); have n2_ := AM ((by rw [hg]; exact (bZ (bX HB.out)) : w.heap.size ≤ gb101)); clear HB; rename_i HB BK101; have GW101 := n2_; have GE101 := n2_; clear n2_; clear hb hbox hg; have hcz7 := q4 BK101.out; have hfz7 := fZ BK101.out))
  refine bodyPost_ret (results_cell_row rfl _ _ gb101 28 #[.int .i64 0, .int .i64 0, .string (⟨#[]⟩ : ByteArray), .slice none 0 0] (0, 0) _ rfl (by refine kP (cs := #[.int .i64 0, .int .i64 0, .string (⟨#[]⟩ : ByteArray), .slice none 0 0]) 3 ?_; refine kP (cs := #[.int .i64 0, .int .i64 0, .string (⟨#[]⟩ : ByteArray), .slice none 0 0]) 2 ?_; refine kP (cs := #[.int .i64 0, .int .i64 0, .string (⟨#[]⟩ : ByteArray), .slice none 0 0]) 1 ?_; refine kP (cs := #[.int .i64 0, .int .i64 0, .string (⟨#[]⟩ : ByteArray), .slice none 0 0]) 0 ?_; (with_reducible repeat (first | apply kN | apply kD | apply kA)); exact BK101.out) Try.underlying28 rfl (by kernel_rfl)) rfl ?_
  exact ⟨_, by first | rfl | (simp [*, errW_none, errW_some] <;> rfl), by first | exact Kd.R_nil _ _ _ _ _ | exact Kd.N_nil _ _ _ _ _ | exact Kd.V_nil _ _ _ _ _ | exact Kd.Q_nil _ _ _ _ _ | exact Kd.S_nil _ _ _ _ _, bX HB.out⟩
 rw [if_neg c5] at H
 have c5b0 : decide (20000 < (a3.size : Int)) = false := decide_eq_false c5
 have c5b1 : decide (20000 < a3.size) = false := decide_eq_false (by omega)
 clear c5
 replace H := Option.bind_eq_some_iff.mp H
 obtain ⟨t102, A80, H⟩ := H
 replace H : (if t102 = true then ((impl_proofOf.f k l0 a1 a2 a3).bind fun bt103 => (some (bt103.1, bt103.2.1, bt103.2.2.1, bt103.2.2.2))) else (some (0, 0, (⟨#[]⟩ : ByteArray), ([] : List Int)))) = some (r1, r2, r3, r4) := H
 have A8 := AM A80
 clear A80
 by_cases c9 : t102 = true
 ·
  subst c9
  have H1 : ((impl_proofOf.f k l0 a1 a2 a3).bind fun bt103 => (some (bt103.1, bt103.2.1, bt103.2.2.1, bt103.2.2.2))) = some (r1, r2, r3, r4) := by rw [if_pos rfl] at H; exact H
  clear H
  have H := H1
  clear H1
  replace H := Option.bind_eq_some_iff.mp H
  obtain ⟨⟨t103, t104, t105, t106⟩, A100, H⟩ := H
  try dsimp only at H
  have A10 := AM A100
  clear A100
  simp only [Option.some.injEq, Prod.mk.injEq] at H
  obtain ⟨rfl, rfl, rfl, rfl⟩ := H
  go_enter Try.func5, Try.ntmps5
  go_wp2_with (first | ((with_reducible refine gate_dst (N := 8) rfl ?_); refine box_event (by rfl) (N := 8) (by rfl) (cs := #[.int .i64 0, .int .i64 0, .string (⟨#[]⟩ : ByteArray), .slice none 0 0]) (t := 28) (by first | (go_simp; done) | (go_simp; rfl)) ?_; intro gb101 hg w11 hbox hb; have _ := AM (below_step (bX HB.out) hb); have _ := AM (hbox); have n2_ := AM ((by rw [hg]; exact (bZ (bX HB.out)) : w.heap.size ≤ gb101)); clear HB; rename_i HB BK101; have GW101 := n2_; have GE101 := n2_; clear n2_; clear hb hbox hg) | (go_at_call 21; (with_reducible refine (impl_areVotes.calls k _ _ l0 true _ ?side1 ?side2 A8.out).mono ?_); (case side1 => repeat (first | exact (cB HR0.out HB.out) | (with_reducible first | apply cA | apply cN | apply cD))); (case side2 => exact HC0.out); rintro e w12 ⟨rfl, hb⟩; have _ := AM (nB BK101.out hb); have _ := AM (below_step (bX HB.out) hb); clear BK101 HB; rename_i BK101 HB; (try clear hb); (try clear hk)) | ((with_reducible refine gate_callee (f := 22) rfl ?_); refine goesL_ (some 22) rfl rfl Try.func22 (by kernel_rfl) rfl #[.slice A0 l0.length c0, .int .i64 a1, .int .i64 a2, .string a3] rfl (by (try simp only [mA, mB, mC]); first | done | rfl | (simp only [mD, mE]; rfl)) ?_; (with_reducible refine (impl_proofOf.calls k _ _ l0 a1 a2 a3 t103 t104 t105 t106 _ ?side1 ?side2 A10.out).mono ?_); (case side1 => repeat (first | exact (cB HR0.out HB.out) | (with_reducible first | apply cA | apply cN | apply cD))); (case side2 => exact HC0.out); rintro e w13 ⟨v107, rfl, ho0, hb⟩; refine ⟨_, rfl, ?_⟩; have _ := AM (Kd.R_lower ho0 (bZ (bX HB.out))); have _ := AM (nB BK101.out hb); have _ := AM (below_step (bX HB.out) hb); clear BK101 HB; rename_i HO108 BK101 HB; (try clear hb); (try clear hk); (try clear ho0); have hcz14 := q4 BK101.out; have hfz14 := fZ BK101.out; obtain ⟨Ao15, co15, eo15⟩ := Kd.R_slice HO108.out; subst eo15))
  refine bodyPost_ret (results_cell_row rfl _ _ gb101 28 #[.int .i64 t103, .int .i64 t104, .string t105, .slice Ao15 t106.length co15] (0, 0) _ rfl (by refine kP (cs := #[.int .i64 t103, .int .i64 t104, .string t105, .slice none 0 0]) 3 ?_; refine kP (cs := #[.int .i64 t103, .int .i64 t104, .string (⟨#[]⟩ : ByteArray), .slice none 0 0]) 2 ?_; refine kP (cs := #[.int .i64 t103, .int .i64 0, .string (⟨#[]⟩ : ByteArray), .slice none 0 0]) 1 ?_; refine kP (cs := #[.int .i64 0, .int .i64 0, .string (⟨#[]⟩ : ByteArray), .slice none 0 0]) 0 ?_; (with_reducible repeat (first | apply kN | apply kD | apply kA)); exact BK101.out) Try.underlying28 rfl (by kernel_rfl)) rfl ?_
  exact ⟨_, by first | rfl | (simp [*, errW_none, errW_some] <;> rfl), by (with_reducible repeat (first | apply rA | apply rN | apply rD)); exact Rf4 HO108.out BK101.out (by decide) (fun _ hk => trivial), bX HB.out⟩
 replace c9 := Bool.eq_false_iff.mpr c9
 subst c9
 have H1 : (some (0, 0, (⟨#[]⟩ : ByteArray), ([] : List Int))) = some (r1, r2, r3, r4) := by rw [if_neg (show ¬ (false = true) by decide)] at H; exact H
 clear H
 have H := H1
 clear H1
 simp only [Option.some.injEq, Prod.mk.injEq] at H
 obtain ⟨rfl, rfl, rfl, rfl⟩ := H
 go_enter Try.func5, Try.ntmps5
 go_wp2_with (first | ((with_reducible refine gate_dst (N := 8) rfl ?_); refine box_event (by rfl) (N := 8) (by rfl) (cs := #[.int .i64 0, .int .i64 0, .string (⟨#[]⟩ : ByteArray), .slice none 0 0]) (t := 28) (by first | (go_simp; done) | (go_simp; rfl)) ?_; intro gb101 hg w16 hbox hb; have _ := AM (below_step (bX HB.out) hb); have _ := AM (hbox); have n2_ := AM ((by rw [hg]; exact (bZ (bX HB.out)) : w.heap.size ≤ gb101)); clear HB; rename_i HB BK101; have GW101 := n2_; have GE101 := n2_; clear n2_; clear hb hbox hg) | (go_at_call 21; (with_reducible refine (impl_areVotes.calls k _ _ l0 false _ ?side1 ?side2 A8.out).mono ?_); (case side1 => repeat (first | exact (cB HR0.out HB.out) | (with_reducible first | apply cA | apply cN | apply cD))); (case side2 => exact HC0.out); rintro e w17 ⟨rfl, hb⟩; have _ := AM (nB BK101.out hb); have _ := AM (below_step (bX HB.out) hb); clear BK101 HB; rename_i BK101 HB; (try clear hb); (try clear hk); have hcz18 := q4 BK101.out; have hfz18 := fZ BK101.out))
 refine bodyPost_ret (results_cell_row rfl _ _ gb101 28 #[.int .i64 0, .int .i64 0, .string (⟨#[]⟩ : ByteArray), .slice none 0 0] (0, 0) _ rfl (by refine kP (cs := #[.int .i64 0, .int .i64 0, .string (⟨#[]⟩ : ByteArray), .slice none 0 0]) 3 ?_; refine kP (cs := #[.int .i64 0, .int .i64 0, .string (⟨#[]⟩ : ByteArray), .slice none 0 0]) 2 ?_; refine kP (cs := #[.int .i64 0, .int .i64 0, .string (⟨#[]⟩ : ByteArray), .slice none 0 0]) 1 ?_; refine kP (cs := #[.int .i64 0, .int .i64 0, .string (⟨#[]⟩ : ByteArray), .slice none 0 0]) 0 ?_; (with_reducible repeat (first | apply kN | apply kD | apply kA)); exact BK101.out) Try.underlying28 rfl (by kernel_rfl)) rfl ?_
 exact ⟨_, by first | rfl | (simp [*, errW_none, errW_some] <;> rfl), by first | exact Kd.R_nil _ _ _ _ _ | exact Kd.N_nil _ _ _ _ _ | exact Kd.V_nil _ _ _ _ _ | exact Kd.Q_nil _ _ _ _ _ | exact Kd.S_nil _ _ _ _ _, bX HB.out⟩

/-! ### spec_l01Src_edge: function 24 -/

def spec_l01Src_edge.f (s0_0 : List Int) (s0_1 : Int) (s0_2 : Int) (s0_3 : Int) : Option (Int × Int × Int × Int) := (some (([0, 1, (-1), 2, 1000, 1001, 2147483648, 2147483647, (-2147483648), 4611686018427387904, 9223372036854775807, (-9223372036854775808), 1000000, 1000001] : List Int) : List Int)).bind fun y101 => ((spec_l01Src_n.f s0_0 s0_1 s0_2 s0_3 14).bind fun bt104 => (if 0 ≤ bt104.1 then (if bt104.1 < (y101.length : Int) then (some (rd y101 bt104.1, bt104.2.1, bt104.2.2.1, bt104.2.2.2)) else (none)) else (none)))
theorem bI60_0_spec_l01Src_edge {n : Nat} {w W W' : World} (h : Below n w W) (f : Below n w W → Below n w W' := by intro h_; repeat (first | (with_reducible first | exact h_ | apply bA | apply bN | apply bD | refine bS ?_ (IsS60.ge HI0.out) | refine bS ?_ (Aside0.out (by assumption))) | exact h_)) : Below n w W' := f h
theorem iX60_6_spec_l01Src_edge {p q : Prop} (h : p) (f : p → q := by intro h_; repeat (first | (with_reducible first | exact h_ | apply IsS60.alloc | apply IsS60.drewN | apply IsS60.drew | apply IsS60.set_1 | apply IsS60.set_2 | apply IsS60.set_3 | refine IsS60.far ?_ (Aside0.out (by assumption)) _) | exact h_)) : q := f h
set_option maxHeartbeats 60000000 in
set_option maxRecDepth 100000 in
theorem spec_l01Src_edge.calls (g : Nat) (s0_0 : List Int) (s0_1 : Int) (s0_2 : Int) (s0_3 : Int) (r1 : Int) (r2 : Int) (r3 : Int) (r4 : Int) (w0 w : World) (hI : IsS60 w0 w g s0_0 s0_1 s0_2 s0_3) (hB : Below w0.heap.size w0 w) (h : spec_l01Src_edge.f s0_0 s0_1 s0_2 s0_3 = some (r1, r2, r3, r4)) :
    Calls Try.prog 24 #[.pointer (some ⟨g, 0, none⟩)] w fun e w' => e = .returned (.int .i64 r1) ∧ IsS60 w0 w' g s0_0 r2 r3 r4 ∧ Below w0.heap.size w0 w' ∧ KeepBut w w' g none := by
 have HI0 := AM hI
 have HK := AM (KeepBut.refl w g none)
 have HL := AM hB.size
 clear hI
 have HW0 := AM hB.size
 have HB := AM hB
 clear hB
 have H : ((some (([0, 1, (-1), 2, 1000, 1001, 2147483648, 2147483647, (-2147483648), 4611686018427387904, 9223372036854775807, (-9223372036854775808), 1000000, 1000001] : List Int) : List Int)).bind fun y101 => ((spec_l01Src_n.f s0_0 s0_1 s0_2 s0_3 14).bind fun bt104 => (if 0 ≤ bt104.1 then (if bt104.1 < (y101.length : Int) then (some (rd y101 bt104.1, bt104.2.1, bt104.2.2.1, bt104.2.2.2)) else (none)) else (none)))) = some (r1, r2, r3, r4) := h
 clear h
 obtain ⟨y101, hy101⟩ : ∃ y_ : List Int, y_ = (([0, 1, (-1), 2, 1000, 1001, 2147483648, 2147483647, (-2147483648), 4611686018427387904, 9223372036854775807, (-9223372036854775808), 1000000, 1000001] : List Int)) := ⟨_, rfl⟩
 replace H : ((spec_l01Src_n.f s0_0 s0_1 s0_2 s0_3 14).bind fun bt104 => (if 0 ≤ bt104.1 then (if bt104.1 < (y101.length : Int) then (some (rd y101 bt104.1, bt104.2.1, bt104.2.2.1, bt104.2.2.2)) else (none)) else (none))) = some (r1, r2, r3, r4) := by first | (rw [hy101]; with_reducible exact H) | (have H2_ := (Option.bind_some _ _).symm.trans H; rw [hy101]; with_reducible exact H2_) | (have H2_ := (Option.bind_some _ _).symm.trans H; with_reducible exact H2_) | with_reducible exact H | (rw [hy101]; exact H) | exact H
 have Ny101 := AM hy101
 clear hy101
 replace H := Option.bind_eq_some_iff.mp H
 obtain ⟨⟨t104, t105, t106, t107⟩, A20, H⟩ := H
 try dsimp only at H
 have A2 := AM A20
 clear A20
 by_cases c3 : 0 ≤ t104
 ·
  rw [if_pos c3] at H
  have c3b0 : decide (0 ≤ t104) = true := decide_eq_true c3
  clear c3
  by_cases c4 : t104 < (y101.length : Int)
  ·
   rw [if_pos c4] at H
   have c4b0 : decide (t104 < (y101.length : Int)) = true := decide_eq_true c4
   clear c4
   simp only [Option.some.injEq, Prod.mk.injEq] at H
   obtain ⟨rfl, rfl, rfl, rfl⟩ := H
   go_enter Try.func24, Try.ntmps24
   go_wp2_with (first | ((with_reducible refine gate_dst (N := 3) rfl ?_); refine Kd.R_lit (Kd.int .i64) _ 2 ?hg (N := 3) ?hd (xs := ([0, 1, (-1), 2, 1000, 1001, 2147483648, 2147483647, (-2147483648), 4611686018427387904, 9223372036854775807, (-9223372036854775808), 1000000, 1000001] : List Int)) (inner := [.int .i64 0, .int .i64 1, .int .i64 (-1), .int .i64 2, .int .i64 1000, .int .i64 1001, .int .i64 2147483648, .int .i64 2147483647, .int .i64 (-2147483648), .int .i64 4611686018427387904, .int .i64 9223372036854775807, .int .i64 (-9223372036854775808), .int .i64 1000000, .int .i64 1000001]) (ok := fun _ => True) (okp := fun _ => True) ?hr ?hp (fun _ hk => hk) trivial (Below.refl _ _) (Nat.le_refl _) (by simp) ?_; (case hd => rfl); (case hg => rfl); (case hr => first | (go_simp; done) | (go_simp; rfl)); (case hp => exact (Reps.one (show Kd.M (Kd.int .i64) _ _ _ 0 [.int .i64 0] from rfl) (Reps.one (show Kd.M (Kd.int .i64) _ _ _ 1 [.int .i64 1] from rfl) (Reps.one (show Kd.M (Kd.int .i64) _ _ _ (-1) [.int .i64 (-1)] from rfl) (Reps.one (show Kd.M (Kd.int .i64) _ _ _ 2 [.int .i64 2] from rfl) (Reps.one (show Kd.M (Kd.int .i64) _ _ _ 1000 [.int .i64 1000] from rfl) (Reps.one (show Kd.M (Kd.int .i64) _ _ _ 1001 [.int .i64 1001] from rfl) (Reps.one (show Kd.M (Kd.int .i64) _ _ _ 2147483648 [.int .i64 2147483648] from rfl) (Reps.one (show Kd.M (Kd.int .i64) _ _ _ 2147483647 [.int .i64 2147483647] from rfl) (Reps.one (show Kd.M (Kd.int .i64) _ _ _ (-2147483648) [.int .i64 (-2147483648)] from rfl) (Reps.one (show Kd.M (Kd.int .i64) _ _ _ 4611686018427387904 [.int .i64 4611686018427387904] from rfl) (Reps.one (show Kd.M (Kd.int .i64) _ _ _ 9223372036854775807 [.int .i64 9223372036854775807] from rfl) (Reps.one (show Kd.M (Kd.int .i64) _ _ _ (-9223372036854775808) [.int .i64 (-9223372036854775808)] from rfl) (Reps.one (show Kd.M (Kd.int .i64) _ _ _ 1000000 [.int .i64 1000000] from rfl) (Reps.one (show Kd.M (Kd.int .i64) _ _ _ 1000001 [.int .i64 1000001] from rfl) (Reps.none _ _)))))))))))))))); intro v102 w5 ho6 hb hg_ hnew_; clear hg_ hnew_; (first | rw [← Ny101.out] at ho6 | (simp only [Int.reduceToNat] at ho6; rw [← Ny101.out] at ho6)); have _ := AM (Kd.R_lower ho6 (keep_size (w := w) (g := g) (row := none) (hX HK.out))); have _ := AM (IsS60.below (iX60_6_spec_l01Src_edge HI0.out) hb); have _ := AM (KeepBut.trans (hX HK.out) (KeepBut.of_below hb g none) (.inl rfl)); have _ := AM (below_step (bI60_0_spec_l01Src_edge HB.out) hb); clear HI0 HK HB; rename_i HO103 HI0 HK HB; clear hb ho6) | ((with_reducible refine gate_callee (f := 25) rfl ?_); refine goesL_ (some 5) rfl rfl Try.func25 (by kernel_rfl) rfl #[.pointer (some ⟨g, 0, none⟩), .int .i64 14] rfl (by (try simp only [mA, mB, mC]); first | done | rfl | (simp only [mD, mE]; rfl)) ?_; (with_reducible refine (spec_l01Src_n.calls g s0_0 s0_1 s0_2 s0_3 14 t104 t105 t106 t107 w0 _ ?side1 ?side2 A2.out).mono ?_); (case side1 => exact (iX60_6_spec_l01Src_edge HI0.out)); (case side2 => exact (bI60_0_spec_l01Src_edge HB.out)); rintro e w7 ⟨rfl, hi, hb, hk⟩; refine ⟨_, rfl, ?_⟩; have _ := AM (Kd.R_mono (Kd.R_keep (IsS60.apart (show IsS60 w0 _ g s0_0 s0_1 s0_2 s0_3 from iX60_6_spec_l01Src_edge HI0.out) (rX HO103.out) (by decide)) hk (fun _ h => h.2)) (fun _ h => h.1)); have _ := AM (KeepBut.trans (hX HK.out) hk (.inl rfl)); have _ := AM (hb); have _ := AM (hi); clear HO103 HK HB HI0; rename_i HO103 HK HB HI0; (try clear hb); (try clear hb2); (try clear hk); (try clear hi); obtain ⟨Ao8, co8, eo8⟩ := Kd.R_slice HO103.out; subst eo8; have p108 : 0 ≤ (t104 : Int) := of_decide_eq_true (by assumption); have q108 : t104 < (y101.length : Int) := of_decide_eq_true (by assumption); obtain ⟨ad108, e108, hx108_0⟩ := Kd.at_int (Kd.R_reads' HO103.out).2.2 t104 p108 q108; cases e108; replace p108 := eq_true p108; replace q108 := eq_true q108))
   go_ret
   exact ⟨by first | rfl | (simp [*, errW_none, errW_some] <;> rfl), iX60_6_spec_l01Src_edge HI0.out, bI60_0_spec_l01Src_edge HB.out, hX HK.out⟩
  rw [if_neg c4] at H
  exact absurd H (by simp)
 rw [if_neg c3] at H
 exact absurd H (by simp)

/-! ### spec_DrawPrepared: function 6 -/

def spec_DrawPrepared.f (k : Nat) (l0 : List Int) : Option ((List (S45)) × Int) := (spec_l01Source.f k l0).bind fun bt101 => ((spec_l01Src_l11Votes.f k bt101.1 bt101.2.1 bt101.2.2.1 bt101.2.2.2).bind fun bt106 => ((spec_l01Src_one.f bt101.1 bt106.2.1 bt106.2.2.1 bt106.2.2.2 12).bind fun bt112 => (if bt112.1 = true then ((spec_l01Src_edge.f bt101.1 bt112.2.1 bt112.2.2.1 bt112.2.2.2).bind fun bt116 => (some (bt106.1, bt116.1))) else ((spec_l01Src_n.f bt101.1 bt112.2.1 bt112.2.2.1 bt112.2.2.2 4).bind fun bt120 => (some (bt106.1, bt120.1))))))
theorem spec_DrawPrepared.mono : ∀ a0 k, LeO (spec_DrawPrepared.f k a0) (spec_DrawPrepared.f (k + 1) a0) := by
  intro a0 k
  unfold spec_DrawPrepared.f
  repeat' first
      | (with_reducible exact spec_l01Source.mono _ _)
      | (with_reducible exact spec_l01Src_l11Votes.mono _ _ _ _ _)
      | (with_reducible exact LeO.refl _)
      | (with_reducible exact LeO.none _)
      | (with_reducible refine LeO.ite ?_ ?_)
      | (with_reducible refine LeO.bind ?_ (fun _ => ?_))
      | exact spec_l01Source.mono _ _
      | exact spec_l01Src_l11Votes.mono _ _ _ _ _
      | exact LeO.none _
      | refine LeO.ite ?_ ?_
      | refine LeO.bind ?_ (fun _ => ?_)
theorem bI60_105_spec_DrawPrepared {n : Nat} {w W W' : World} (h : Below n w W) (f : Below n w W → Below n w W' := by intro h_; repeat (first | (with_reducible first | exact h_ | apply bA | apply bN | apply bD | refine bS ?_ (IsS60.ge HI105.out) | refine bS ?_ (Aside0.out (by assumption))) | exact h_)) : Below n w W' := f h
theorem iX60_6_spec_DrawPrepared {p q : Prop} (h : p) (f : p → q := by intro h_; repeat (first | (with_reducible first | exact h_ | apply IsS60.alloc | apply IsS60.drewN | apply IsS60.drew | apply IsS60.set_1 | apply IsS60.set_2 | apply IsS60.set_3 | refine IsS60.far ?_ (Aside0.out (by assumption)) _) | exact h_)) : q := f h
set_option maxHeartbeats 60000000 in
set_option maxRecDepth 100000 in
theorem spec_DrawPrepared.calls (k : Nat) (A0 : Option Addr) (c0 : Nat) (l0 : List Int) (r1 : List (S45)) (r2 : Int) (w : World) (hr0 : Kd.C (Kd.int .u8) w A0 l0.length l0) (hc0 : l0.length ≤ c0) (h : spec_DrawPrepared.f k l0 = some (r1, r2)) :
    Calls Try.prog 6 #[.slice A0 l0.length c0] w fun e w' => ∃ v0_ : Value, e = .returned (.tuple #[v0_, .int .i64 r2]) ∧ Kd.R k45 45 w' w.heap.size (fun _ => True) v0_ r1 ∧ Below w.heap.size w w' := by
 have HR0 := AM hr0
 have HC0 := AM hc0
 clear hr0 hc0
 have HB := AM (Below.refl w.heap.size w)
 have H : ((spec_l01Source.f k l0).bind fun bt101 => ((spec_l01Src_l11Votes.f k bt101.1 bt101.2.1 bt101.2.2.1 bt101.2.2.2).bind fun bt106 => ((spec_l01Src_one.f bt101.1 bt106.2.1 bt106.2.2.1 bt106.2.2.2 12).bind fun bt112 => (if bt112.1 = true then ((spec_l01Src_edge.f bt101.1 bt112.2.1 bt112.2.2.1 bt112.2.2.2).bind fun bt116 => (some (bt106.1, bt116.1))) else ((spec_l01Src_n.f bt101.1 bt112.2.1 bt112.2.2.1 bt112.2.2.2 4).bind fun bt120 => (some (bt106.1, bt120.1))))))) = some (r1, r2) := h
 clear h
 replace H := Option.bind_eq_some_iff.mp H
 obtain ⟨⟨t101, t102, t103, t104⟩, A20, H⟩ := H
 try dsimp only at H
 have A2 := AM A20
 clear A20
 replace H := Option.bind_eq_some_iff.mp H
 obtain ⟨⟨t106, t109, t110, t111⟩, A30, H⟩ := H
 try dsimp only at H
 have A3 := AM A30
 clear A30
 replace H := Option.bind_eq_some_iff.mp H
 obtain ⟨⟨t112, t113, t114, t115⟩, A40, H⟩ := H
 try dsimp only at H
 have A4 := AM A40
 clear A40
 by_cases c5 : t112 = true
 ·
  subst c5
  have H1 : ((spec_l01Src_edge.f t101 t113 t114 t115).bind fun bt116 => (some (t106, bt116.1))) = some (r1, r2) := by rw [if_pos rfl] at H; exact H
  clear H
  have H := H1
  clear H1
  replace H := Option.bind_eq_some_iff.mp H
  obtain ⟨⟨t116, t117, t118, t119⟩, A60, H⟩ := H
  try dsimp only at H
  have A6 := AM A60
  clear A60
  simp only [Option.some.injEq, Prod.mk.injEq] at H
  obtain ⟨rfl, rfl⟩ := H
  go_enter Try.func6, Try.ntmps6
  go_wp2_with (first | ((with_reducible refine gate_callee (f := 18) rfl ?_); refine goesL_ (some 7) rfl rfl Try.func18 (by kernel_rfl) rfl #[.slice A0 l0.length c0] rfl (by (try simp only [mA, mB, mC]); first | done | rfl | (simp only [mD, mE]; rfl)) ?_; (with_reducible refine (spec_l01Source.calls k _ _ l0 t101 t102 t103 t104 w _ ?side1 ?side2 ?side3 A2.out).mono ?_); (case side1 => exact (bX HB.out)); (case side2 => exact HR0.out); (case side3 => exact HC0.out); rintro e w7 ⟨g105, rfl, hi, hb, hb2⟩; refine ⟨_, rfl, ?_⟩; have _ := AM (hb); have _ := AM (hi); clear HB; rename_i HB HI105; (try clear hb); (try clear hb2); (try clear hk); (try clear hi)) | ((with_reducible refine gate_callee (f := 19) rfl ?_); refine goesL_ (some 9) rfl rfl Try.func19 (by kernel_rfl) rfl #[.pointer (some ⟨g105, 0, none⟩)] rfl (by (try simp only [mA, mB, mC]); first | done | rfl | (simp only [mD, mE]; rfl)) ?_; (with_reducible refine (spec_l01Src_l11Votes.calls k g105 t101 t102 t103 t104 t106 t109 t110 t111 w _ ?side1 ?side2 A3.out).mono ?_); (case side1 => exact (iX60_6_spec_DrawPrepared HI105.out)); (case side2 => exact (bI60_105_spec_DrawPrepared HB.out)); rintro e w8 ⟨v107, rfl, ho0, hi, hb, hk⟩; refine ⟨_, rfl, ?_⟩; have _ := AM (Kd.R_lower ho0 (bZ (bI60_105_spec_DrawPrepared HB.out))); have _ := AM (hb); have _ := AM (hi); clear HB HI105; rename_i HO108 HB HI105; (try clear hb); (try clear hb2); (try clear hk); (try clear hi); (try clear ho0)) | ((with_reducible refine gate_callee (f := 23) rfl ?_); refine goesL_ (some 11) rfl rfl Try.func23 (by kernel_rfl) rfl #[.pointer (some ⟨g105, 0, none⟩), .int .i64 12] rfl (by (try simp only [mA, mB, mC]); first | done | rfl | (simp only [mD, mE]; rfl)) ?_; (with_reducible refine (spec_l01Src_one.calls g105 t101 t109 t110 t111 12 true t113 t114 t115 w _ ?side1 ?side2 A4.out).mono ?_); (case side1 => exact (iX60_6_spec_DrawPrepared HI105.out)); (case side2 => exact (bI60_105_spec_DrawPrepared HB.out)); rintro e w9 ⟨rfl, hi, hb, hk⟩; refine ⟨_, rfl, ?_⟩; have _ := AM (Kd.R_mono (Kd.R_keep (IsS60.apart (show IsS60 w _ g105 t101 t109 t110 t111 from iX60_6_spec_DrawPrepared HI105.out) (rX HO108.out) (by decide)) hk (fun _ h => h.2)) (fun _ h => h.1)); have _ := AM (hb); have _ := AM (hi); clear HO108 HB HI105; rename_i HO108 HB HI105; (try clear hb); (try clear hb2); (try clear hk); (try clear hi)) | ((with_reducible refine gate_callee (f := 24) rfl ?_); refine goesL_ (some 14) rfl rfl Try.func24 (by kernel_rfl) rfl #[.pointer (some ⟨g105, 0, none⟩)] rfl (by (try simp only [mA, mB, mC]); first | done | rfl | (simp only [mD, mE]; rfl)) ?_; (with_reducible refine (spec_l01Src_edge.calls g105 t101 t113 t114 t115 t116 t117 t118 t119 w _ ?side1 ?side2 A6.out).mono ?_); (case side1 => exact (iX60_6_spec_DrawPrepared HI105.out)); (case side2 => exact (bI60_105_spec_DrawPrepared HB.out)); rintro e w10 ⟨rfl, hi, hb, hk⟩; refine ⟨_, rfl, ?_⟩; have _ := AM (Kd.R_mono (Kd.R_keep (IsS60.apart (show IsS60 w _ g105 t101 t113 t114 t115 from iX60_6_spec_DrawPrepared HI105.out) (rX HO108.out) (by decide)) hk (fun _ h => h.2)) (fun _ h => h.1)); have _ := AM (hb); have _ := AM (hi); clear HO108 HB HI105; rename_i HO108 HB HI105; (try clear hb); (try clear hb2); (try clear hk); (try clear hi)))
  go_ret2
  exact ⟨_, by first | rfl | (simp [*, errW_none, errW_some] <;> rfl), rX HO108.out, bI60_105_spec_DrawPrepared HB.out⟩
 replace c5 := Bool.eq_false_iff.mpr c5
 subst c5
 have H1 : ((spec_l01Src_n.f t101 t113 t114 t115 4).bind fun bt120 => (some (t106, bt120.1))) = some (r1, r2) := by rw [if_neg (show ¬ (false = true) by decide)] at H; exact H
 clear H
 have H := H1
 clear H1
 replace H := Option.bind_eq_some_iff.mp H
 obtain ⟨⟨t120, t121, t122, t123⟩, A110, H⟩ := H
 try dsimp only at H
 have A11 := AM A110
 clear A110
 simp only [Option.some.injEq, Prod.mk.injEq] at H
 obtain ⟨rfl, rfl⟩ := H
 go_enter Try.func6, Try.ntmps6
 go_wp2_with (first | ((with_reducible refine gate_callee (f := 18) rfl ?_); refine goesL_ (some 7) rfl rfl Try.func18 (by kernel_rfl) rfl #[.slice A0 l0.length c0] rfl (by (try simp only [mA, mB, mC]); first | done | rfl | (simp only [mD, mE]; rfl)) ?_; (with_reducible refine (spec_l01Source.calls k _ _ l0 t101 t102 t103 t104 w _ ?side1 ?side2 ?side3 A2.out).mono ?_); (case side1 => exact (bX HB.out)); (case side2 => exact HR0.out); (case side3 => exact HC0.out); rintro e w12 ⟨g105, rfl, hi, hb, hb2⟩; refine ⟨_, rfl, ?_⟩; have _ := AM (hb); have _ := AM (hi); clear HB; rename_i HB HI105; (try clear hb); (try clear hb2); (try clear hk); (try clear hi)) | ((with_reducible refine gate_callee (f := 19) rfl ?_); refine goesL_ (some 9) rfl rfl Try.func19 (by kernel_rfl) rfl #[.pointer (some ⟨g105, 0, none⟩)] rfl (by (try simp only [mA, mB, mC]); first | done | rfl | (simp only [mD, mE]; rfl)) ?_; (with_reducible refine (spec_l01Src_l11Votes.calls k g105 t101 t102 t103 t104 t106 t109 t110 t111 w _ ?side1 ?side2 A3.out).mono ?_); (case side1 => exact (iX60_6_spec_DrawPrepared HI105.out)); (case side2 => exact (bI60_105_spec_DrawPrepared HB.out)); rintro e w13 ⟨v107, rfl, ho0, hi, hb, hk⟩; refine ⟨_, rfl, ?_⟩; have _ := AM (Kd.R_lower ho0 (bZ (bI60_105_spec_DrawPrepared HB.out))); have _ := AM (hb); have _ := AM (hi); clear HB HI105; rename_i HO108 HB HI105; (try clear hb); (try clear hb2); (try clear hk); (try clear hi); (try clear ho0)) | ((with_reducible refine gate_callee (f := 23) rfl ?_); refine goesL_ (some 11) rfl rfl Try.func23 (by kernel_rfl) rfl #[.pointer (some ⟨g105, 0, none⟩), .int .i64 12] rfl (by (try simp only [mA, mB, mC]); first | done | rfl | (simp only [mD, mE]; rfl)) ?_; (with_reducible refine (spec_l01Src_one.calls g105 t101 t109 t110 t111 12 false t113 t114 t115 w _ ?side1 ?side2 A4.out).mono ?_); (case side1 => exact (iX60_6_spec_DrawPrepared HI105.out)); (case side2 => exact (bI60_105_spec_DrawPrepared HB.out)); rintro e w14 ⟨rfl, hi, hb, hk⟩; refine ⟨_, rfl, ?_⟩; have _ := AM (Kd.R_mono (Kd.R_keep (IsS60.apart (show IsS60 w _ g105 t101 t109 t110 t111 from iX60_6_spec_DrawPrepared HI105.out) (rX HO108.out) (by decide)) hk (fun _ h => h.2)) (fun _ h => h.1)); have _ := AM (hb); have _ := AM (hi); clear HO108 HB HI105; rename_i HO108 HB HI105; (try clear hb); (try clear hb2); (try clear hk); (try clear hi)) | ((with_reducible refine gate_callee (f := 25) rfl ?_); refine goesL_ (some 17) rfl rfl Try.func25 (by kernel_rfl) rfl #[.pointer (some ⟨g105, 0, none⟩), .int .i64 4] rfl (by (try simp only [mA, mB, mC]); first | done | rfl | (simp only [mD, mE]; rfl)) ?_; (with_reducible refine (spec_l01Src_n.calls g105 t101 t113 t114 t115 4 t120 t121 t122 t123 w _ ?side1 ?side2 A11.out).mono ?_); (case side1 => exact (iX60_6_spec_DrawPrepared HI105.out)); (case side2 => exact (bI60_105_spec_DrawPrepared HB.out)); rintro e w15 ⟨rfl, hi, hb, hk⟩; refine ⟨_, rfl, ?_⟩; have _ := AM (Kd.R_mono (Kd.R_keep (IsS60.apart (show IsS60 w _ g105 t101 t113 t114 t115 from iX60_6_spec_DrawPrepared HI105.out) (rX HO108.out) (by decide)) hk (fun _ h => h.2)) (fun _ h => h.1)); have _ := AM (hb); have _ := AM (hi); clear HO108 HB HI105; rename_i HO108 HB HI105; (try clear hb); (try clear hb2); (try clear hk); (try clear hi)))
 go_ret2
 exact ⟨_, by first | rfl | (simp [*, errW_none, errW_some] <;> rfl), rX HO108.out, bI60_105_spec_DrawPrepared HB.out⟩

/-! ### laws_lwNums: function 16 -/

def laws_lwNums.l0 : Nat → List Int → List Int → Int → Option (Bool)
  | 0, _, _, _ => none
  | k + 1, x0, x1, x5 => if x5 < (x0.length : Int) then (if 0 ≤ x5 then (if x5 < (x1.length : Int) then (if (rd x0 x5) = (rd x1 x5) then (laws_lwNums.l0 k x0 x1 (wrap64 (x5 + 1))) else (some false)) else (none)) else (none)) else (some true)
def laws_lwNums.f (k : Nat) (l0 : List Int) (l1 : List Int) : Option (Bool) := if (l0.length : Int) = (l1.length : Int) then (laws_lwNums.l0 k l0 l1 0) else (some false)
theorem laws_lwNums.mono_l : ∀ k, (∀ y0 y1 y2, LeO (laws_lwNums.l0 k y0 y1 y2) (laws_lwNums.l0 (k + 1) y0 y1 y2))
  | 0 => fun _ _ _ r h => by simp [laws_lwNums.l0] at h
  | k + 1 => by
    have ih0 := laws_lwNums.mono_l k
    · intro y0 y1 y2
      unfold laws_lwNums.l0
      repeat' first
      | (with_reducible exact ih0 _ _ _)
      | (with_reducible exact LeO.refl _)
      | (with_reducible exact LeO.none _)
      | (with_reducible refine LeO.ite ?_ ?_)
      | (with_reducible refine LeO.bind ?_ (fun _ => ?_))
      | exact ih0 _ _ _
      | exact LeO.none _
      | refine LeO.ite ?_ ?_
      | refine LeO.bind ?_ (fun _ => ?_)
theorem laws_lwNums.mono : ∀ a0 a1 k, LeO (laws_lwNums.f k a0 a1) (laws_lwNums.f (k + 1) a0 a1) := by
  intro a0 a1 k
  have ih0 := laws_lwNums.mono_l k
  unfold laws_lwNums.f
  repeat' first
      | (with_reducible exact ih0 _ _ _)
      | (with_reducible exact LeO.refl _)
      | (with_reducible exact LeO.none _)
      | (with_reducible refine LeO.ite ?_ ?_)
      | (with_reducible refine LeO.bind ?_ (fun _ => ?_))
      | exact ih0 _ _ _
      | exact LeO.none _
      | refine LeO.ite ?_ ?_
      | refine LeO.bind ?_ (fun _ => ?_)
set_option maxHeartbeats 60000000 in
set_option maxRecDepth 100000 in
theorem laws_lwNums.calls (k : Nat) (A0 : Option Addr) (c0 : Nat) (l0 : List Int) (A1 : Option Addr) (c1 : Nat) (l1 : List Int) (r : Bool) (w : World) (hr0 : Kd.C (Kd.int .i64) w A0 l0.length l0) (hc0 : l0.length ≤ c0) (hr1 : Kd.C (Kd.int .i64) w A1 l1.length l1) (hc1 : l1.length ≤ c1) (h : laws_lwNums.f k l0 l1 = some r) :
    Calls Try.prog 16 #[.slice A0 l0.length c0, .slice A1 l1.length c1] w fun e w' => e = .returned (.bool r) ∧ Drawn0 w w' := by
 have HR0 := AM hr0
 have HC0 := AM hc0
 clear hr0 hc0
 have HR1 := AM hr1
 have HC1 := AM hc1
 clear hr1 hc1
 have H : (if (l0.length : Int) = (l1.length : Int) then (laws_lwNums.l0 k l0 l1 0) else (some false)) = some r := h
 clear h
 by_cases c3 : (l0.length : Int) = (l1.length : Int)
 ·
  rw [if_pos c3] at H
  have c3b0 : ((l0.length : Int) == (l1.length : Int)) = true := beq_iff_eq.mpr c3
  have c3b1 : ((l0.length : Int) != (l1.length : Int)) = false := bne_eq_false_iff_eq.mpr c3
  have c3b2 : (l0.length == l1.length) = true := by first | simpa using c3 | (simp at c3 ⊢; omega)
  clear c3
  have H' := AM H
  clear H
  go_enter Try.func16, Try.ntmps16
  go_wp2
  repeat (go_quiet (fail); try go_wp2)
  go_loopg [5] k (fun kq v5 w' => ∃ (x5_1 : Int), v5 = .int .i64 x5_1 ∧ Aside0 (laws_lwNums.l0 kq l0 l1 x5_1 = some r) ∧ Aside0 (kq ≤ k) ∧ Drawn0 w w')
  case atStart => exact ⟨(0), (by first | rfl | (simp; done) | (simp [*]; done)), H', ⟨Nat.le_refl _⟩, by repeat (first | exact Drawn0.refl _ | apply Drawn0.step)⟩
  case round =>
   clear H'
   (try clear c1); (try clear p2); (try clear c3); (try clear c3b0); (try clear c3b1); (try clear c3b2)
   obtain ⟨x5_1, rfl, HA, HK1, ⟨m1, rfl⟩⟩ := hrel
   cases gk with
   | zero => exact absurd HA.out (by simp [laws_lwNums.l0])
   | succ k1 =>
    have H := HA.out
    clear HA
    simp only [laws_lwNums.l0] at H
    by_cases c4 : x5_1 < (l0.length : Int)
    ·
     rw [if_pos c4] at H
     have c4b0 : decide (x5_1 < (l0.length : Int)) = true := decide_eq_true c4
     clear c4
     by_cases c5 : 0 ≤ x5_1
     ·
      rw [if_pos c5] at H
      have c5b0 : decide (0 ≤ x5_1) = true := decide_eq_true c5
      clear c5
      by_cases c6 : x5_1 < (l1.length : Int)
      ·
       rw [if_pos c6] at H
       have c6b0 : decide (x5_1 < (l1.length : Int)) = true := decide_eq_true c6
       clear c6
       by_cases c7 : (rd l0 x5_1) = (rd l1 x5_1)
       ·
        rw [if_pos c7] at H
        have c7b0 : ((rd l0 x5_1) == (rd l1 x5_1)) = true := beq_iff_eq.mpr c7
        have c7b1 : ((rd l0 x5_1) != (rd l1 x5_1)) = false := bne_eq_false_iff_eq.mpr c7
        clear c7
        have H' := AM H
        clear H
        have p101 : 0 ≤ (x5_1 : Int) := of_decide_eq_true (by assumption)
        have q101 : x5_1 < (l0.length : Int) := of_decide_eq_true (by assumption)
        obtain ⟨ad101, e101, hx101_0⟩ := Kd.at_int HR0.out x5_1 p101 q101
        cases e101
        replace p101 := eq_true p101
        replace q101 := eq_true q101
        have p102 : 0 ≤ (x5_1 : Int) := of_decide_eq_true (by assumption)
        have q102 : x5_1 < (l1.length : Int) := of_decide_eq_true (by assumption)
        obtain ⟨ad102, e102, hx102_0⟩ := Kd.at_int HR1.out x5_1 p102 q102
        cases e102
        replace p102 := eq_true p102
        replace q102 := eq_true q102
        go_wp2
        repeat (go_quiet (fail); try go_wp2)
        go_roundg k1
        case measure => have := HK1.out; omega
        case rel => exact ⟨(wrap64 (x5_1 + 1)), (by first | rfl | (simp; done) | (simp [*]; done)), H', ⟨by have := HK1.out; omega⟩, by repeat (first | exact Drawn0.refl _ | apply Drawn0.step)⟩
       rw [if_neg c7] at H
       have c7b0 : ((rd l0 x5_1) == (rd l1 x5_1)) = false := beq_eq_false_iff_ne.mpr c7
       have c7b1 : ((rd l0 x5_1) != (rd l1 x5_1)) = true := bne_iff_ne.mpr c7
       obtain rfl := Option.some.inj H
       have p101 : 0 ≤ (x5_1 : Int) := of_decide_eq_true (by assumption)
       have q101 : x5_1 < (l0.length : Int) := of_decide_eq_true (by assumption)
       obtain ⟨ad101, e101, hx101_0⟩ := Kd.at_int HR0.out x5_1 p101 q101
       cases e101
       replace p101 := eq_true p101
       replace q101 := eq_true q101
       have p102 : 0 ≤ (x5_1 : Int) := of_decide_eq_true (by assumption)
       have q102 : x5_1 < (l1.length : Int) := of_decide_eq_true (by assumption)
       obtain ⟨ad102, e102, hx102_0⟩ := Kd.at_int HR1.out x5_1 p102 q102
       cases e102
       replace p102 := eq_true p102
       replace q102 := eq_true q102
       go_wp2
       repeat (go_quiet (fail); try go_wp2)
       go_ret
       exact ⟨by first | rfl | (simp; done) | (simp [*]; done), by repeat (first | exact Drawn0.refl _ | apply Drawn0.step)⟩
      rw [if_neg c6] at H
      exact absurd H (by simp)
     rw [if_neg c5] at H
     exact absurd H (by simp)
    rw [if_neg c4] at H
    have c4b0 : decide (x5_1 < (l0.length : Int)) = false := decide_eq_false c4
    clear c4
    obtain rfl := Option.some.inj H
    go_wp2
    repeat (go_quiet (fail); try go_wp2)
    go_ret
    exact ⟨by first | rfl | (simp; done) | (simp [*]; done), by repeat (first | exact Drawn0.refl _ | apply Drawn0.step)⟩
 rw [if_neg c3] at H
 have c3b0 : ((l0.length : Int) == (l1.length : Int)) = false := beq_eq_false_iff_ne.mpr c3
 have c3b1 : ((l0.length : Int) != (l1.length : Int)) = true := bne_iff_ne.mpr c3
 have c3b2 : (l0.length == l1.length) = false := by first | simpa using c3 | (simp at c3 ⊢; omega)
 obtain rfl := Option.some.inj H
 go_enter Try.func16, Try.ntmps16
 go_wp2
 repeat (go_quiet (fail); try go_wp2)
 go_ret
 exact ⟨by first | rfl | (simp; done) | (simp [*]; done), by repeat (first | exact Drawn0.refl _ | apply Drawn0.step)⟩

/-! ### laws_lwProof: function 7 -/

def laws_lwProof.f (k : Nat) (a0_0 : Int) (a0_1 : Int) (a0_2 : ByteArray) (l0_3 : List Int) (a1_0 : Int) (a1_1 : Int) (a1_2 : ByteArray) (l1_3 : List Int) : Option (Bool) := if a0_0 = a1_0 then (if a0_1 = a1_1 then (if a0_2.toList = a1_2.toList then ((laws_lwNums.f k l0_3 l1_3).bind fun t103 => (some t103)) else (some false)) else (some false)) else (some false)
theorem laws_lwProof.mono : ∀ a0 a1 a2 a3 a4 a5 a6 a7 k, LeO (laws_lwProof.f k a0 a1 a2 a3 a4 a5 a6 a7) (laws_lwProof.f (k + 1) a0 a1 a2 a3 a4 a5 a6 a7) := by
  intro a0 a1 a2 a3 a4 a5 a6 a7 k
  unfold laws_lwProof.f
  repeat' first
      | (with_reducible exact laws_lwNums.mono _ _ _)
      | (with_reducible exact LeO.refl _)
      | (with_reducible exact LeO.none _)
      | (with_reducible refine LeO.ite ?_ ?_)
      | (with_reducible refine LeO.bind ?_ (fun _ => ?_))
      | exact laws_lwNums.mono _ _ _
      | exact LeO.none _
      | refine LeO.ite ?_ ?_
      | refine LeO.bind ?_ (fun _ => ?_)
set_option maxHeartbeats 60000000 in
set_option maxRecDepth 100000 in
theorem laws_lwProof.calls (k : Nat) (a0_0 : Int) (a0_1 : Int) (a0_2 : ByteArray) (A0_3 : Option Addr) (c0_3 : Nat) (l0_3 : List Int) (a1_0 : Int) (a1_1 : Int) (a1_2 : ByteArray) (A1_3 : Option Addr) (c1_3 : Nat) (l1_3 : List Int) (r : Bool) (w : World) (hr0_3 : Kd.C (Kd.int .i64) w A0_3 l0_3.length l0_3) (hc0_3 : l0_3.length ≤ c0_3) (hr1_3 : Kd.C (Kd.int .i64) w A1_3 l1_3.length l1_3) (hc1_3 : l1_3.length ≤ c1_3) (h : laws_lwProof.f k a0_0 a0_1 a0_2 l0_3 a1_0 a1_1 a1_2 l1_3 = some r) :
    Calls Try.prog 7 #[.agg #[.int .i64 a0_0, .int .i64 a0_1, .string a0_2, .slice A0_3 l0_3.length c0_3], .agg #[.int .i64 a1_0, .int .i64 a1_1, .string a1_2, .slice A1_3 l1_3.length c1_3]] w fun e w' => e = .returned (.bool r) ∧ Below w.heap.size w w' := by
 have hu28 := Try.underlying28
 have HR0_3 := AM hr0_3
 have HC0_3 := AM hc0_3
 clear hr0_3 hc0_3
 have HR1_3 := AM hr1_3
 have HC1_3 := AM hc1_3
 clear hr1_3 hc1_3
 have HB := AM (Below.refl w.heap.size w)
 have H : (if a0_0 = a1_0 then (if a0_1 = a1_1 then (if a0_2.toList = a1_2.toList then ((laws_lwNums.f k l0_3 l1_3).bind fun t103 => (some t103)) else (some false)) else (some false)) else (some false)) = some r := h
 clear h
 by_cases c3 : a0_0 = a1_0
 ·
  rw [if_pos c3] at H
  have c3b0 : (a0_0 == a1_0) = true := beq_iff_eq.mpr c3
  have c3b1 : (a0_0 != a1_0) = false := bne_eq_false_iff_eq.mpr c3
  clear c3
  by_cases c4 : a0_1 = a1_1
  ·
   rw [if_pos c4] at H
   have c4b0 : (a0_1 == a1_1) = true := beq_iff_eq.mpr c4
   have c4b1 : (a0_1 != a1_1) = false := bne_eq_false_iff_eq.mpr c4
   clear c4
   by_cases c5 : a0_2.toList = a1_2.toList
   ·
    rw [if_pos c5] at H
    have c5b0 : (a0_2.toList == a1_2.toList) = true := beq_iff_eq.mpr c5
    have c5b1 : (a0_2.toList != a1_2.toList) = false := bne_eq_false_iff_eq.mpr c5
    clear c5
    replace H := Option.bind_eq_some_iff.mp H
    obtain ⟨t103, A60, H⟩ := H
    replace H : (some t103) = some r := H
    have A6 := AM A60
    clear A60
    obtain rfl := Option.some.inj H
    go_enter Try.func7, Try.ntmps7
    go_wp2_with (first | ((with_reducible refine gate_dst (N := 2) rfl ?_); refine box_event (by rfl) (N := 2) (by rfl) (cs := #[.int .i64 a0_0, .int .i64 a0_1, .string a0_2, .slice A0_3 l0_3.length c0_3]) (t := 28) (by first | (go_simp; done) | (go_simp; rfl)) ?_; intro gb101 hg w7 hbox hb; have _ := AM (below_step (bX HB.out) hb); have _ := AM (hbox); have n2_ := AM ((by rw [hg]; exact (bZ (bX HB.out)) : w.heap.size ≤ gb101)); clear HB; rename_i HB BK101; have GW101 := n2_; have GE101 := n2_; clear n2_; clear hb hbox hg) | ((with_reducible refine gate_dst (N := 3) rfl ?_); refine box_event (by rfl) (N := 3) (by rfl) (cs := #[.int .i64 a1_0, .int .i64 a1_1, .string a1_2, .slice A1_3 l1_3.length c1_3]) (t := 28) (by first | (go_simp; done) | (go_simp; rfl)) ?_; intro gb102 hg w8 hbox hb; have _ := AM (nB BK101.out hb); have _ := AM (below_step (bX HB.out) hb); have _ := AM (hbox); have n3_ := AM ((by rw [hg]; exact (bZ (bX HB.out)) : w.heap.size ≤ gb102)); have _ := AM (lX hg BK101.out); have _ := AM (lX hg BK101.out).symm; clear BK101 HB; rename_i BK101 HB BK102 NB101_102 NB102_101; have GW102 := n3_; have GE102 := n3_; clear n3_; clear hb hbox hg; have hnb9 := NB101_102.out; have hnc9 := NB102_101.out; have hcz10 := q4 BK101.out; have hfz10 := fZ BK101.out; have hcz11 := q4 BK102.out; have hfz11 := fZ BK102.out) | (go_at_call 16; (with_reducible refine (laws_lwNums.calls k _ _ l0_3 _ _ l1_3 t103 _ ?side1 ?side2 ?side3 ?side4 A6.out).mono ?_); (case side1 => repeat (first | exact (cB HR0_3.out HB.out) | (with_reducible first | apply cA | apply cN | apply cD))); (case side2 => exact HC0_3.out); (case side3 => repeat (first | exact (cB HR1_3.out HB.out) | (with_reducible first | apply cA | apply cN | apply cD))); (case side4 => exact HC1_3.out); rintro e w' ⟨rfl, ⟨nd, rfl⟩⟩))
    go_ret
    exact ⟨by first | rfl | (simp [*, errW_none, errW_some] <;> rfl), bX HB.out⟩
   rw [if_neg c5] at H
   have c5b0 : (a0_2.toList == a1_2.toList) = false := beq_eq_false_iff_ne.mpr c5
   have c5b1 : (a0_2.toList != a1_2.toList) = true := bne_iff_ne.mpr c5
   obtain rfl := Option.some.inj H
   go_enter Try.func7, Try.ntmps7
   go_wp2_with (first | ((with_reducible refine gate_dst (N := 2) rfl ?_); refine box_event (by rfl) (N := 2) (by rfl) (cs := #[.int .i64 a0_0, .int .i64 a0_1, .string a0_2, .slice A0_3 l0_3.length c0_3]) (t := 28) (by first | (go_simp; done) | (go_simp; rfl)) ?_; intro gb101 hg w12 hbox hb; have _ := AM (below_step (bX HB.out) hb); have _ := AM (hbox); have n2_ := AM ((by rw [hg]; exact (bZ (bX HB.out)) : w.heap.size ≤ gb101)); clear HB; rename_i HB BK101; have GW101 := n2_; have GE101 := n2_; clear n2_; clear hb hbox hg) | ((with_reducible refine gate_dst (N := 3) rfl ?_); refine box_event (by rfl) (N := 3) (by rfl) (cs := #[.int .i64 a1_0, .int .i64 a1_1, .string a1_2, .slice A1_3 l1_3.length c1_3]) (t := 28) (by first | (go_simp; done) | (go_simp; rfl)) ?_; intro gb102 hg w13 hbox hb; have _ := AM (nB BK101.out hb); have _ := AM (below_step (bX HB.out) hb); have _ := AM (hbox); have n3_ := AM ((by rw [hg]; exact (bZ (bX HB.out)) : w.heap.size ≤ gb102)); have _ := AM (lX hg BK101.out); have _ := AM (lX hg BK101.out).symm; clear BK101 HB; rename_i BK101 HB BK102 NB101_102 NB102_101; have GW102 := n3_; have GE102 := n3_; clear n3_; clear hb hbox hg; have hnb14 := NB101_102.out; have hnc14 := NB102_101.out; have hcz15 := q4 BK101.out; have hfz15 := fZ BK101.out; have hcz16 := q4 BK102.out; have hfz16 := fZ BK102.out))
   go_ret
   exact ⟨by first | rfl | (simp [*, errW_none, errW_some] <;> rfl), bX HB.out⟩
  rw [if_neg c4] at H
  have c4b0 : (a0_1 == a1_1) = false := beq_eq_false_iff_ne.mpr c4
  have c4b1 : (a0_1 != a1_1) = true := bne_iff_ne.mpr c4
  obtain rfl := Option.some.inj H
  go_enter Try.func7, Try.ntmps7
  go_wp2_with (first | ((with_reducible refine gate_dst (N := 2) rfl ?_); refine box_event (by rfl) (N := 2) (by rfl) (cs := #[.int .i64 a0_0, .int .i64 a0_1, .string a0_2, .slice A0_3 l0_3.length c0_3]) (t := 28) (by first | (go_simp; done) | (go_simp; rfl)) ?_; intro gb101 hg w17 hbox hb; have _ := AM (below_step (bX HB.out) hb); have _ := AM (hbox); have n2_ := AM ((by rw [hg]; exact (bZ (bX HB.out)) : w.heap.size ≤ gb101)); clear HB; rename_i HB BK101; have GW101 := n2_; have GE101 := n2_; clear n2_; clear hb hbox hg) | ((with_reducible refine gate_dst (N := 3) rfl ?_); refine box_event (by rfl) (N := 3) (by rfl) (cs := #[.int .i64 a1_0, .int .i64 a1_1, .string a1_2, .slice A1_3 l1_3.length c1_3]) (t := 28) (by first | (go_simp; done) | (go_simp; rfl)) ?_; intro gb102 hg w18 hbox hb; have _ := AM (nB BK101.out hb); have _ := AM (below_step (bX HB.out) hb); have _ := AM (hbox); have n3_ := AM ((by rw [hg]; exact (bZ (bX HB.out)) : w.heap.size ≤ gb102)); have _ := AM (lX hg BK101.out); have _ := AM (lX hg BK101.out).symm; clear BK101 HB; rename_i BK101 HB BK102 NB101_102 NB102_101; have GW102 := n3_; have GE102 := n3_; clear n3_; clear hb hbox hg; have hnb19 := NB101_102.out; have hnc19 := NB102_101.out; have hcz20 := q4 BK101.out; have hfz20 := fZ BK101.out; have hcz21 := q4 BK102.out; have hfz21 := fZ BK102.out))
  go_ret
  exact ⟨by first | rfl | (simp [*, errW_none, errW_some] <;> rfl), bX HB.out⟩
 rw [if_neg c3] at H
 have c3b0 : (a0_0 == a1_0) = false := beq_eq_false_iff_ne.mpr c3
 have c3b1 : (a0_0 != a1_0) = true := bne_iff_ne.mpr c3
 obtain rfl := Option.some.inj H
 go_enter Try.func7, Try.ntmps7
 go_wp2_with (first | ((with_reducible refine gate_dst (N := 2) rfl ?_); refine box_event (by rfl) (N := 2) (by rfl) (cs := #[.int .i64 a0_0, .int .i64 a0_1, .string a0_2, .slice A0_3 l0_3.length c0_3]) (t := 28) (by first | (go_simp; done) | (go_simp; rfl)) ?_; intro gb101 hg w22 hbox hb; have _ := AM (below_step (bX HB.out) hb); have _ := AM (hbox); have n2_ := AM ((by rw [hg]; exact (bZ (bX HB.out)) : w.heap.size ≤ gb101)); clear HB; rename_i HB BK101; have GW101 := n2_; have GE101 := n2_; clear n2_; clear hb hbox hg) | ((with_reducible refine gate_dst (N := 3) rfl ?_); refine box_event (by rfl) (N := 3) (by rfl) (cs := #[.int .i64 a1_0, .int .i64 a1_1, .string a1_2, .slice A1_3 l1_3.length c1_3]) (t := 28) (by first | (go_simp; done) | (go_simp; rfl)) ?_; intro gb102 hg w23 hbox hb; have _ := AM (nB BK101.out hb); have _ := AM (below_step (bX HB.out) hb); have _ := AM (hbox); have n3_ := AM ((by rw [hg]; exact (bZ (bX HB.out)) : w.heap.size ≤ gb102)); have _ := AM (lX hg BK101.out); have _ := AM (lX hg BK101.out).symm; clear BK101 HB; rename_i BK101 HB BK102 NB101_102 NB102_101; have GW102 := n3_; have GE102 := n3_; clear n3_; clear hb hbox hg; have hnb24 := NB101_102.out; have hnc24 := NB102_101.out; have hcz25 := q4 BK101.out; have hfz25 := fZ BK101.out; have hcz26 := q4 BK102.out; have hfz26 := fZ BK102.out))
 go_ret
 exact ⟨by first | rfl | (simp [*, errW_none, errW_some] <;> rfl), bX HB.out⟩

/-! ### spec_l11Voters: function 35 -/

mutual
def spec_l11Voters.l0 : Nat → List (S45) → Int → Int → Int → ByteArray → List Int → Int → Option (List Int)
  | 0, _, _, _, _, _, _, _ => none
  | k + 1, x0, x1, x2, x3, x4, x11, x12 => if x12 < 4 then (spec_l11Voters.l1 k x0 x1 x2 x3 x4 x11 x12 0) else (some x11)
def spec_l11Voters.l1 : Nat → List (S45) → Int → Int → Int → ByteArray → List Int → Int → Int → Option (List Int)
  | 0, _, _, _, _, _, _, _, _ => none
  | k + 1, x0, x1, x2, x3, x4, x11, x12, x13 => if x13 < (x0.length : Int) then (if 0 ≤ x13 then (if ((rd_T45 x0 x13).f4) = x12 then (if ((rd_T45 x0 x13).f0) = x1 then (if ((rd_T45 x0 x13).f1) = x2 then (if ((rd_T45 x0 x13).f2) = x3 then (if ((rd_T45 x0 x13).f3).toList = x4.toList then (if x11.length < 17592186044416 then (spec_l11Voters.l1 k x0 x1 x2 x3 x4 (x11 ++ [x12]) x12 (wrap64 (x13 + 1))) else (none)) else (spec_l11Voters.l1 k x0 x1 x2 x3 x4 x11 x12 (wrap64 (x13 + 1)))) else (spec_l11Voters.l1 k x0 x1 x2 x3 x4 x11 x12 (wrap64 (x13 + 1)))) else (spec_l11Voters.l1 k x0 x1 x2 x3 x4 x11 x12 (wrap64 (x13 + 1)))) else (spec_l11Voters.l1 k x0 x1 x2 x3 x4 x11 x12 (wrap64 (x13 + 1)))) else (spec_l11Voters.l1 k x0 x1 x2 x3 x4 x11 x12 (wrap64 (x13 + 1)))) else (none)) else (spec_l11Voters.l0 k x0 x1 x2 x3 x4 x11 (wrap64 (x12 + 1)))
end
def spec_l11Voters.f (k : Nat) (l0 : List (S45)) (a1 : Int) (a2 : Int) (a3 : Int) (a4 : ByteArray) : Option (List Int) := spec_l11Voters.l0 k l0 a1 a2 a3 a4 (([] : List Int)) 0
theorem spec_l11Voters.mono_l : ∀ k, (∀ y0 y1 y2 y3 y4 y5 y6, LeO (spec_l11Voters.l0 k y0 y1 y2 y3 y4 y5 y6) (spec_l11Voters.l0 (k + 1) y0 y1 y2 y3 y4 y5 y6)) ∧ (∀ y0 y1 y2 y3 y4 y5 y6 y7, LeO (spec_l11Voters.l1 k y0 y1 y2 y3 y4 y5 y6 y7) (spec_l11Voters.l1 (k + 1) y0 y1 y2 y3 y4 y5 y6 y7))
  | 0 => ⟨fun _ _ _ _ _ _ _ r h => by simp [spec_l11Voters.l0] at h, fun _ _ _ _ _ _ _ _ r h => by simp [spec_l11Voters.l1] at h⟩
  | k + 1 => by
    obtain ⟨ih0, ih1⟩ := spec_l11Voters.mono_l k
    refine ⟨?_, ?_⟩
    · intro y0 y1 y2 y3 y4 y5 y6
      unfold spec_l11Voters.l0
      repeat' first
      | (with_reducible exact ih0 _ _ _ _ _ _ _)
      | (with_reducible exact ih1 _ _ _ _ _ _ _ _)
      | (with_reducible exact LeO.refl _)
      | (with_reducible exact LeO.none _)
      | (with_reducible refine LeO.ite ?_ ?_)
      | (with_reducible refine LeO.bind ?_ (fun _ => ?_))
      | exact ih0 _ _ _ _ _ _ _
      | exact ih1 _ _ _ _ _ _ _ _
      | exact LeO.none _
      | refine LeO.ite ?_ ?_
      | refine LeO.bind ?_ (fun _ => ?_)
    · intro y0 y1 y2 y3 y4 y5 y6 y7
      unfold spec_l11Voters.l1
      repeat' first
      | (with_reducible exact ih0 _ _ _ _ _ _ _)
      | (with_reducible exact ih1 _ _ _ _ _ _ _ _)
      | (with_reducible exact LeO.refl _)
      | (with_reducible exact LeO.none _)
      | (with_reducible refine LeO.ite ?_ ?_)
      | (with_reducible refine LeO.bind ?_ (fun _ => ?_))
      | exact ih0 _ _ _ _ _ _ _
      | exact ih1 _ _ _ _ _ _ _ _
      | exact LeO.none _
      | refine LeO.ite ?_ ?_
      | refine LeO.bind ?_ (fun _ => ?_)
theorem spec_l11Voters.mono : ∀ a0 a1 a2 a3 a4 k, LeO (spec_l11Voters.f k a0 a1 a2 a3 a4) (spec_l11Voters.f (k + 1) a0 a1 a2 a3 a4) := by
  intro a0 a1 a2 a3 a4 k
  obtain ⟨ih0, ih1⟩ := spec_l11Voters.mono_l k
  unfold spec_l11Voters.f
  repeat' first
      | (with_reducible exact ih0 _ _ _ _ _ _ _)
      | (with_reducible exact ih1 _ _ _ _ _ _ _ _)
      | (with_reducible exact LeO.refl _)
      | (with_reducible exact LeO.none _)
      | (with_reducible refine LeO.ite ?_ ?_)
      | (with_reducible refine LeO.bind ?_ (fun _ => ?_))
      | exact ih0 _ _ _ _ _ _ _
      | exact ih1 _ _ _ _ _ _ _ _
      | exact LeO.none _
      | refine LeO.ite ?_ ?_
      | refine LeO.bind ?_ (fun _ => ?_)
set_option maxHeartbeats 60000000 in
set_option maxRecDepth 100000 in
theorem spec_l11Voters.calls (k : Nat) (A0 : Option Addr) (c0 : Nat) (l0 : List (S45)) (a1 : Int) (a2 : Int) (a3 : Int) (a4 : ByteArray) (r : List Int) (w : World) (hr0 : Kd.C k45 w A0 l0.length l0) (hc0 : l0.length ≤ c0) (h : spec_l11Voters.f k l0 a1 a2 a3 a4 = some r) :
    Calls Try.prog 35 #[.slice A0 l0.length c0, .int .i64 a1, .int .i64 a2, .int .i64 a3, .string a4] w fun e w' => ∃ v0_ : Value, e = .returned (v0_) ∧ Kd.R (Kd.int .i64) 2 w' w.heap.size (fun _ => True) v0_ r ∧ Below w.heap.size w w' := by
 have hu45 := Try.underlying45
 have HR0 := AM hr0
 have HC0 := AM hc0
 clear hr0 hc0
 have HB := AM (Below.refl w.heap.size w)
 have H : (spec_l11Voters.l0 k l0 a1 a2 a3 a4 (([] : List Int)) 0) = some r := h
 clear h
 obtain ⟨y101, hy101⟩ : ∃ y_ : List Int, y_ = (([] : List Int)) := ⟨_, rfl⟩
 replace H : (spec_l11Voters.l0 k l0 a1 a2 a3 a4 y101 0) = some r := by first | (rw [hy101]; with_reducible exact H) | (have H2_ := (Option.bind_some _ _).symm.trans H; rw [hy101]; with_reducible exact H2_) | (have H2_ := (Option.bind_some _ _).symm.trans H; with_reducible exact H2_) | with_reducible exact H | (rw [hy101]; exact H) | exact H
 have Ny101 := AM hy101
 clear hy101
 have H' := AM H
 clear H
 go_enter Try.func35, Try.ntmps35
 go_wp2_with (first | ((with_reducible refine gate_dst (N := 15) rfl ?_); refine Kd.R_lit (Kd.int .i64) _ 2 ?hg (N := 15) ?hd (xs := ([] : List Int)) (inner := []) (ok := fun _ => True) (okp := fun _ => True) ?hr ?hp (fun _ hk => hk) trivial (Below.refl _ _) (Nat.le_refl _) (by simp) ?_; (case hd => rfl); (case hg => rfl); (case hr => first | (go_simp; done) | (go_simp; rfl)); (case hp => exact (Reps.none _ _)); intro v102 w6 ho7 hb hg_ hnew_; clear hg_ hnew_; (first | rw [← Ny101.out] at ho7 | (simp only [Int.reduceToNat] at ho7; rw [← Ny101.out] at ho7)); have _ := AM (Kd.R_lower ho7 (bZ (bX HB.out))); have _ := AM (below_step (bX HB.out) hb); clear HB; rename_i HO103 HB; clear hb ho7))
 go_loopg [11, 12] k (fun kq v11 v12 w' => ∃ (x11_1 : List Int) (x12_1 : Int), v12 = .int .i64 x12_1 ∧ Aside0 (spec_l11Voters.l0 kq l0 a1 a2 a3 a4 x11_1 x12_1 = some r) ∧ Aside0 (kq ≤ k) ∧ Aside0 (Kd.R (Kd.int .i64) 2 w' w.heap.size (fun _ => True) v11 x11_1) ∧ Aside0 (Below w.heap.size w w'))
 case atStart => exact ⟨(y101), (0), (by first | rfl | (simp; done) | (simp [*]; done)), H', ⟨Nat.le_refl _⟩, ⟨rX HO103.out⟩, ⟨bX HB.out⟩⟩
 case round =>
  clear H'
  (try clear p2); (try clear c3)
  obtain ⟨x11_1, x12_1, rfl, HA, HK1, HO_11, HB⟩ := hrel
  cases gk with
  | zero => exact absurd HA.out (by simp [spec_l11Voters.l0])
  | succ k1 =>
   have H := HA.out
   clear HA
   simp only [spec_l11Voters.l0] at H
   by_cases c8 : x12_1 < 4
   ·
    rw [if_pos c8] at H
    have c8b0 : decide (x12_1 < 4) = true := decide_eq_true c8
    clear c8
    have H' := AM H
    clear H
    go_wp2
    go_loopg [11, 13] k1 (fun kq v11 v13 w' => ∃ (x11_2 : List Int) (x13_2 : Int), v13 = .int .i64 x13_2 ∧ Aside0 (spec_l11Voters.l1 kq l0 a1 a2 a3 a4 x11_2 x12_1 x13_2 = some r) ∧ Aside0 (kq ≤ k1) ∧ Aside0 (Kd.R (Kd.int .i64) 2 w' w.heap.size (fun _ => True) v11 x11_2) ∧ Aside0 (Below w.heap.size w w'))
    case atStart => exact ⟨(x11_1), (0), (by first | rfl | (simp; done) | (simp [*]; done)), H', ⟨Nat.le_refl _⟩, ⟨rX HO_11.out⟩, ⟨bX HB.out⟩⟩
    case round =>
     clear H'
     (try clear p2); (try clear c3); (try clear c8); (try clear c8b0)
     obtain ⟨x11_2, x13_2, rfl, HA, HK2, HO_11, HB⟩ := hrel
     cases gk with
     | zero => exact absurd HA.out (by simp [spec_l11Voters.l1])
     | succ k2 =>
      have H := HA.out
      clear HA
      simp only [spec_l11Voters.l1] at H
      by_cases c9 : x13_2 < (l0.length : Int)
      ·
       rw [if_pos c9] at H
       have c9b0 : decide (x13_2 < (l0.length : Int)) = true := decide_eq_true c9
       clear c9
       by_cases c10 : 0 ≤ x13_2
       ·
        rw [if_pos c10] at H
        have c10b0 : decide (0 ≤ x13_2) = true := decide_eq_true c10
        clear c10
        by_cases c11 : ((rd_T45 l0 x13_2).f4) = x12_1
        ·
         rw [if_pos c11] at H
         have c11b0 : (((rd_T45 l0 x13_2).f4) == x12_1) = true := beq_iff_eq.mpr c11
         have c11b1 : (((rd_T45 l0 x13_2).f4) != x12_1) = false := bne_eq_false_iff_eq.mpr c11
         clear c11
         by_cases c12 : ((rd_T45 l0 x13_2).f0) = a1
         ·
          rw [if_pos c12] at H
          have c12b0 : (((rd_T45 l0 x13_2).f0) == a1) = true := beq_iff_eq.mpr c12
          have c12b1 : (((rd_T45 l0 x13_2).f0) != a1) = false := bne_eq_false_iff_eq.mpr c12
          clear c12
          by_cases c13 : ((rd_T45 l0 x13_2).f1) = a2
          ·
           rw [if_pos c13] at H
           have c13b0 : (((rd_T45 l0 x13_2).f1) == a2) = true := beq_iff_eq.mpr c13
           have c13b1 : (((rd_T45 l0 x13_2).f1) != a2) = false := bne_eq_false_iff_eq.mpr c13
           clear c13
           by_cases c14 : ((rd_T45 l0 x13_2).f2) = a3
           ·
            rw [if_pos c14] at H
            have c14b0 : (((rd_T45 l0 x13_2).f2) == a3) = true := beq_iff_eq.mpr c14
            have c14b1 : (((rd_T45 l0 x13_2).f2) != a3) = false := bne_eq_false_iff_eq.mpr c14
            clear c14
            by_cases c15 : ((rd_T45 l0 x13_2).f3).toList = a4.toList
            ·
             rw [if_pos c15] at H
             have c15b0 : (((rd_T45 l0 x13_2).f3).toList == a4.toList) = true := beq_iff_eq.mpr c15
             have c15b1 : (((rd_T45 l0 x13_2).f3).toList != a4.toList) = false := bne_eq_false_iff_eq.mpr c15
             clear c15
             by_cases c16 : x11_2.length < 17592186044416
             ·
              rw [if_pos c16] at H
              have LMc16 := AM c16
              clear c16
              obtain ⟨y106, hy106⟩ : ∃ y_ : List Int, y_ = (x11_2 ++ [x12_1]) := ⟨_, rfl⟩
              replace H : (spec_l11Voters.l1 k2 l0 a1 a2 a3 a4 y106 x12_1 (wrap64 (x13_2 + 1))) = some r := by first | (rw [hy106]; with_reducible exact H) | (have H2_ := (Option.bind_some _ _).symm.trans H; rw [hy106]; with_reducible exact H2_) | (have H2_ := (Option.bind_some _ _).symm.trans H; with_reducible exact H2_) | with_reducible exact H | (rw [hy106]; exact H) | exact H
              have Ny106 := AM hy106
              clear hy106
              have H' := AM H
              clear H
              have p104 : 0 ≤ (x13_2 : Int) := of_decide_eq_true (by assumption)
              have q104 : x13_2 < (l0.length : Int) := of_decide_eq_true (by assumption)
              obtain ⟨ad104, e104, hx104_0, hx104_1, hx104_2, hx104_3, hx104_4⟩ := at_T45 HR0.out x13_2 p104 q104
              cases e104
              replace hx104_0 := pw_cell_below HB.out hx104_0
              replace hx104_1 := pw_cell_below HB.out hx104_1
              replace hx104_2 := pw_cell_below HB.out hx104_2
              replace hx104_3 := pw_cell_below HB.out hx104_3
              replace hx104_4 := pw_cell_below HB.out hx104_4
              replace p104 := eq_true p104
              replace q104 := eq_true q104
              go_wp2_with (first | ((with_reducible refine gate_dst (N := 14) rfl ?_); refine box_event (by rfl) (N := 14) (by rfl) (cs := #[.int .i64 0, .int .i64 0, .int .i64 0, .string (⟨#[]⟩ : ByteArray), .int .i64 0]) (t := 45) (by first | (go_simp; done) | (go_simp; rfl)) ?_; intro gb105 hg w17 hbox hb; have _ := AM (Kd.R_below (rX HO_11.out) hb); have _ := AM (below_step (bX HB.out) hb); have _ := AM (hbox); have n3_ := AM ((by rw [hg]; exact (bZ (bX HB.out)) : w.heap.size ≤ gb105)); clear HO_11 HB; rename_i HO_11 HB BK105; have GW105 := n3_; have GE105 := n3_; clear n3_; clear hb hbox hg; have hcz18 := q5 BK105.out; have hfz18 := fZ BK105.out) | ((with_reducible refine gate_builtin (b := .append) (xs := #[.tmp 58, .tmp 60]) rfl ?_); at_builtin; refine Kd.R_append (Kd.int .i64) (w0 := w) w.heap.size rfl (.tmp 58) (.tmp 60) 26 2 (.int .i64 0) 8 rfl Try.underlying26 info2 rfl (by decide) (by omega) u11 x11_2 x12_1 [.int .i64 x12_1] (fun _ => True) (fun _ => False) rfl (by first | (go_simp; done) | (go_simp; rfl)) ?aP (fun _ hk => hk.elim) ?aF ?aO ?aB ?aS ?aL ?_; (case aP => exact rfl); (case aB => exact (bX HB.out)); (case aF => exact (fun _ _ => trivial)); (case aO => exact (by (with_reducible repeat (first | apply rA | apply rN | apply rD)); exact Kd.R_mono (Kd.R_far (p := ⟨gb105, 4, none⟩) (Kd.R_far (p := ⟨gb105, 3, none⟩) (Kd.R_far (p := ⟨gb105, 2, none⟩) (Kd.R_far (p := ⟨gb105, 1, none⟩) (Kd.R_far (p := ⟨gb105, 0, none⟩) (Kd.R_types HO_11.out BK105.out (by decide)) (fun _ hk => hk.2) (.int .i64 ((rd_T45 l0 x13_2).f0))) (fun _ hk => hk.2) (.int .i64 ((rd_T45 l0 x13_2).f1))) (fun _ hk => hk.2) (.int .i64 ((rd_T45 l0 x13_2).f2))) (fun _ hk => hk.2) (.string ((rd_T45 l0 x13_2).f3))) (fun _ hk => hk.2) (.int .i64 ((rd_T45 l0 x13_2).f4))) (fun _ hk => trivial))); (case aS => exact (bZ (bX HB.out))); (case aL => have := LMc16.out; omega); intro v107 w19 ho hb hg hat; rw [← Ny106.out] at ho; have _ := AM (blk_grown (g := gb105) (o := .cells #[.int .i64 ((rd_T45 l0 x13_2).f0), .int .i64 ((rd_T45 l0 x13_2).f1), .int .i64 ((rd_T45 l0 x13_2).f2), .string ((rd_T45 l0 x13_2).f3), .int .i64 ((rd_T45 l0 x13_2).f4)] 45 (0, 0)) (by refine kP (cs := #[.int .i64 ((rd_T45 l0 x13_2).f0), .int .i64 ((rd_T45 l0 x13_2).f1), .int .i64 ((rd_T45 l0 x13_2).f2), .string ((rd_T45 l0 x13_2).f3), .int .i64 0]) 4 ?_; refine kP (cs := #[.int .i64 ((rd_T45 l0 x13_2).f0), .int .i64 ((rd_T45 l0 x13_2).f1), .int .i64 ((rd_T45 l0 x13_2).f2), .string (⟨#[]⟩ : ByteArray), .int .i64 0]) 3 ?_; refine kP (cs := #[.int .i64 ((rd_T45 l0 x13_2).f0), .int .i64 ((rd_T45 l0 x13_2).f1), .int .i64 0, .string (⟨#[]⟩ : ByteArray), .int .i64 0]) 2 ?_; refine kP (cs := #[.int .i64 ((rd_T45 l0 x13_2).f0), .int .i64 0, .int .i64 0, .string (⟨#[]⟩ : ByteArray), .int .i64 0]) 1 ?_; refine kP (cs := #[.int .i64 0, .int .i64 0, .int .i64 0, .string (⟨#[]⟩ : ByteArray), .int .i64 0]) 0 ?_; (with_reducible repeat (first | apply kN | apply kD | apply kA)); exact BK105.out) hg (Kd.R_ne HO_11.out BK105.out (by decide))); have _ := AM (hb); have _ := AM (ho); clear BK105 HB HO_11; rename_i BK105 HB HO108; clear ho hb hg hat))
              go_roundg k2
              case measure => have := HK1.out; have := HK2.out; omega
              case rel => exact ⟨(y106), (wrap64 (x13_2 + 1)), (by first | rfl | (simp; done) | (simp [*]; done)), H', ⟨by have := HK1.out; have := HK2.out; omega⟩, ⟨rX HO108.out⟩, ⟨bX HB.out⟩⟩
             rw [if_neg c16] at H
             exact absurd H (by simp)
            rw [if_neg c15] at H
            have c15b0 : (((rd_T45 l0 x13_2).f3).toList == a4.toList) = false := beq_eq_false_iff_ne.mpr c15
            have c15b1 : (((rd_T45 l0 x13_2).f3).toList != a4.toList) = true := bne_iff_ne.mpr c15
            have H' := AM H
            clear H
            have p104 : 0 ≤ (x13_2 : Int) := of_decide_eq_true (by assumption)
            have q104 : x13_2 < (l0.length : Int) := of_decide_eq_true (by assumption)
            obtain ⟨ad104, e104, hx104_0, hx104_1, hx104_2, hx104_3, hx104_4⟩ := at_T45 HR0.out x13_2 p104 q104
            cases e104
            replace hx104_0 := pw_cell_below HB.out hx104_0
            replace hx104_1 := pw_cell_below HB.out hx104_1
            replace hx104_2 := pw_cell_below HB.out hx104_2
            replace hx104_3 := pw_cell_below HB.out hx104_3
            replace hx104_4 := pw_cell_below HB.out hx104_4
            replace p104 := eq_true p104
            replace q104 := eq_true q104
            go_wp2_with (first | ((with_reducible refine gate_dst (N := 14) rfl ?_); refine box_event (by rfl) (N := 14) (by rfl) (cs := #[.int .i64 0, .int .i64 0, .int .i64 0, .string (⟨#[]⟩ : ByteArray), .int .i64 0]) (t := 45) (by first | (go_simp; done) | (go_simp; rfl)) ?_; intro gb105 hg w20 hbox hb; have _ := AM (Kd.R_below (rX HO_11.out) hb); have _ := AM (below_step (bX HB.out) hb); have _ := AM (hbox); have n3_ := AM ((by rw [hg]; exact (bZ (bX HB.out)) : w.heap.size ≤ gb105)); clear HO_11 HB; rename_i HO_11 HB BK105; have GW105 := n3_; have GE105 := n3_; clear n3_; clear hb hbox hg; have hcz21 := q5 BK105.out; have hfz21 := fZ BK105.out))
            go_roundg k2
            case measure => have := HK1.out; have := HK2.out; omega
            case rel => exact ⟨(x11_2), (wrap64 (x13_2 + 1)), (by first | rfl | (simp; done) | (simp [*]; done)), H', ⟨by have := HK1.out; have := HK2.out; omega⟩, ⟨by (with_reducible repeat (first | apply rA | apply rN | apply rD)); exact Kd.R_mono (Kd.R_far (p := ⟨gb105, 4, none⟩) (Kd.R_far (p := ⟨gb105, 3, none⟩) (Kd.R_far (p := ⟨gb105, 2, none⟩) (Kd.R_far (p := ⟨gb105, 1, none⟩) (Kd.R_far (p := ⟨gb105, 0, none⟩) (Kd.R_types HO_11.out BK105.out (by decide)) (fun _ hk => hk.2) (.int .i64 ((rd_T45 l0 x13_2).f0))) (fun _ hk => hk.2) (.int .i64 ((rd_T45 l0 x13_2).f1))) (fun _ hk => hk.2) (.int .i64 ((rd_T45 l0 x13_2).f2))) (fun _ hk => hk.2) (.string ((rd_T45 l0 x13_2).f3))) (fun _ hk => hk.2) (.int .i64 ((rd_T45 l0 x13_2).f4))) (fun _ hk => trivial)⟩, ⟨bX HB.out⟩⟩
           rw [if_neg c14] at H
           have c14b0 : (((rd_T45 l0 x13_2).f2) == a3) = false := beq_eq_false_iff_ne.mpr c14
           have c14b1 : (((rd_T45 l0 x13_2).f2) != a3) = true := bne_iff_ne.mpr c14
           have H' := AM H
           clear H
           have p104 : 0 ≤ (x13_2 : Int) := of_decide_eq_true (by assumption)
           have q104 : x13_2 < (l0.length : Int) := of_decide_eq_true (by assumption)
           obtain ⟨ad104, e104, hx104_0, hx104_1, hx104_2, hx104_3, hx104_4⟩ := at_T45 HR0.out x13_2 p104 q104
           cases e104
           replace hx104_0 := pw_cell_below HB.out hx104_0
           replace hx104_1 := pw_cell_below HB.out hx104_1
           replace hx104_2 := pw_cell_below HB.out hx104_2
           replace hx104_3 := pw_cell_below HB.out hx104_3
           replace hx104_4 := pw_cell_below HB.out hx104_4
           replace p104 := eq_true p104
           replace q104 := eq_true q104
           go_wp2_with (first | ((with_reducible refine gate_dst (N := 14) rfl ?_); refine box_event (by rfl) (N := 14) (by rfl) (cs := #[.int .i64 0, .int .i64 0, .int .i64 0, .string (⟨#[]⟩ : ByteArray), .int .i64 0]) (t := 45) (by first | (go_simp; done) | (go_simp; rfl)) ?_; intro gb105 hg w22 hbox hb; have _ := AM (Kd.R_below (rX HO_11.out) hb); have _ := AM (below_step (bX HB.out) hb); have _ := AM (hbox); have n3_ := AM ((by rw [hg]; exact (bZ (bX HB.out)) : w.heap.size ≤ gb105)); clear HO_11 HB; rename_i HO_11 HB BK105; have GW105 := n3_; have GE105 := n3_; clear n3_; clear hb hbox hg; have hcz23 := q5 BK105.out; have hfz23 := fZ BK105.out))
           go_roundg k2
           case measure => have := HK1.out; have := HK2.out; omega
           case rel => exact ⟨(x11_2), (wrap64 (x13_2 + 1)), (by first | rfl | (simp; done) | (simp [*]; done)), H', ⟨by have := HK1.out; have := HK2.out; omega⟩, ⟨by (with_reducible repeat (first | apply rA | apply rN | apply rD)); exact Kd.R_mono (Kd.R_far (p := ⟨gb105, 4, none⟩) (Kd.R_far (p := ⟨gb105, 3, none⟩) (Kd.R_far (p := ⟨gb105, 2, none⟩) (Kd.R_far (p := ⟨gb105, 1, none⟩) (Kd.R_far (p := ⟨gb105, 0, none⟩) (Kd.R_types HO_11.out BK105.out (by decide)) (fun _ hk => hk.2) (.int .i64 ((rd_T45 l0 x13_2).f0))) (fun _ hk => hk.2) (.int .i64 ((rd_T45 l0 x13_2).f1))) (fun _ hk => hk.2) (.int .i64 ((rd_T45 l0 x13_2).f2))) (fun _ hk => hk.2) (.string ((rd_T45 l0 x13_2).f3))) (fun _ hk => hk.2) (.int .i64 ((rd_T45 l0 x13_2).f4))) (fun _ hk => trivial)⟩, ⟨bX HB.out⟩⟩
          rw [if_neg c13] at H
          have c13b0 : (((rd_T45 l0 x13_2).f1) == a2) = false := beq_eq_false_iff_ne.mpr c13
          have c13b1 : (((rd_T45 l0 x13_2).f1) != a2) = true := bne_iff_ne.mpr c13
          have H' := AM H
          clear H
          have p104 : 0 ≤ (x13_2 : Int) := of_decide_eq_true (by assumption)
          have q104 : x13_2 < (l0.length : Int) := of_decide_eq_true (by assumption)
          obtain ⟨ad104, e104, hx104_0, hx104_1, hx104_2, hx104_3, hx104_4⟩ := at_T45 HR0.out x13_2 p104 q104
          cases e104
          replace hx104_0 := pw_cell_below HB.out hx104_0
          replace hx104_1 := pw_cell_below HB.out hx104_1
          replace hx104_2 := pw_cell_below HB.out hx104_2
          replace hx104_3 := pw_cell_below HB.out hx104_3
          replace hx104_4 := pw_cell_below HB.out hx104_4
          replace p104 := eq_true p104
          replace q104 := eq_true q104
          go_wp2_with (first | ((with_reducible refine gate_dst (N := 14) rfl ?_); refine box_event (by rfl) (N := 14) (by rfl) (cs := #[.int .i64 0, .int .i64 0, .int .i64 0, .string (⟨#[]⟩ : ByteArray), .int .i64 0]) (t := 45) (by first | (go_simp; done) | (go_simp; rfl)) ?_; intro gb105 hg w24 hbox hb; have _ := AM (Kd.R_below (rX HO_11.out) hb); have _ := AM (below_step (bX HB.out) hb); have _ := AM (hbox); have n3_ := AM ((by rw [hg]; exact (bZ (bX HB.out)) : w.heap.size ≤ gb105)); clear HO_11 HB; rename_i HO_11 HB BK105; have GW105 := n3_; have GE105 := n3_; clear n3_; clear hb hbox hg; have hcz25 := q5 BK105.out; have hfz25 := fZ BK105.out))
          go_roundg k2
          case measure => have := HK1.out; have := HK2.out; omega
          case rel => exact ⟨(x11_2), (wrap64 (x13_2 + 1)), (by first | rfl | (simp; done) | (simp [*]; done)), H', ⟨by have := HK1.out; have := HK2.out; omega⟩, ⟨by (with_reducible repeat (first | apply rA | apply rN | apply rD)); exact Kd.R_mono (Kd.R_far (p := ⟨gb105, 4, none⟩) (Kd.R_far (p := ⟨gb105, 3, none⟩) (Kd.R_far (p := ⟨gb105, 2, none⟩) (Kd.R_far (p := ⟨gb105, 1, none⟩) (Kd.R_far (p := ⟨gb105, 0, none⟩) (Kd.R_types HO_11.out BK105.out (by decide)) (fun _ hk => hk.2) (.int .i64 ((rd_T45 l0 x13_2).f0))) (fun _ hk => hk.2) (.int .i64 ((rd_T45 l0 x13_2).f1))) (fun _ hk => hk.2) (.int .i64 ((rd_T45 l0 x13_2).f2))) (fun _ hk => hk.2) (.string ((rd_T45 l0 x13_2).f3))) (fun _ hk => hk.2) (.int .i64 ((rd_T45 l0 x13_2).f4))) (fun _ hk => trivial)⟩, ⟨bX HB.out⟩⟩
         rw [if_neg c12] at H
         have c12b0 : (((rd_T45 l0 x13_2).f0) == a1) = false := beq_eq_false_iff_ne.mpr c12
         have c12b1 : (((rd_T45 l0 x13_2).f0) != a1) = true := bne_iff_ne.mpr c12
         have H' := AM H
         clear H
         have p104 : 0 ≤ (x13_2 : Int) := of_decide_eq_true (by assumption)
         have q104 : x13_2 < (l0.length : Int) := of_decide_eq_true (by assumption)
         obtain ⟨ad104, e104, hx104_0, hx104_1, hx104_2, hx104_3, hx104_4⟩ := at_T45 HR0.out x13_2 p104 q104
         cases e104
         replace hx104_0 := pw_cell_below HB.out hx104_0
         replace hx104_1 := pw_cell_below HB.out hx104_1
         replace hx104_2 := pw_cell_below HB.out hx104_2
         replace hx104_3 := pw_cell_below HB.out hx104_3
         replace hx104_4 := pw_cell_below HB.out hx104_4
         replace p104 := eq_true p104
         replace q104 := eq_true q104
         go_wp2_with (first | ((with_reducible refine gate_dst (N := 14) rfl ?_); refine box_event (by rfl) (N := 14) (by rfl) (cs := #[.int .i64 0, .int .i64 0, .int .i64 0, .string (⟨#[]⟩ : ByteArray), .int .i64 0]) (t := 45) (by first | (go_simp; done) | (go_simp; rfl)) ?_; intro gb105 hg w26 hbox hb; have _ := AM (Kd.R_below (rX HO_11.out) hb); have _ := AM (below_step (bX HB.out) hb); have _ := AM (hbox); have n3_ := AM ((by rw [hg]; exact (bZ (bX HB.out)) : w.heap.size ≤ gb105)); clear HO_11 HB; rename_i HO_11 HB BK105; have GW105 := n3_; have GE105 := n3_; clear n3_; clear hb hbox hg; have hcz27 := q5 BK105.out; have hfz27 := fZ BK105.out))
         go_roundg k2
         case measure => have := HK1.out; have := HK2.out; omega
         case rel => exact ⟨(x11_2), (wrap64 (x13_2 + 1)), (by first | rfl | (simp; done) | (simp [*]; done)), H', ⟨by have := HK1.out; have := HK2.out; omega⟩, ⟨by (with_reducible repeat (first | apply rA | apply rN | apply rD)); exact Kd.R_mono (Kd.R_far (p := ⟨gb105, 4, none⟩) (Kd.R_far (p := ⟨gb105, 3, none⟩) (Kd.R_far (p := ⟨gb105, 2, none⟩) (Kd.R_far (p := ⟨gb105, 1, none⟩) (Kd.R_far (p := ⟨gb105, 0, none⟩) (Kd.R_types HO_11.out BK105.out (by decide)) (fun _ hk => hk.2) (.int .i64 ((rd_T45 l0 x13_2).f0))) (fun _ hk => hk.2) (.int .i64 ((rd_T45 l0 x13_2).f1))) (fun _ hk => hk.2) (.int .i64 ((rd_T45 l0 x13_2).f2))) (fun _ hk => hk.2) (.string ((rd_T45 l0 x13_2).f3))) (fun _ hk => hk.2) (.int .i64 ((rd_T45 l0 x13_2).f4))) (fun _ hk => trivial)⟩, ⟨bX HB.out⟩⟩
        rw [if_neg c11] at H
        have c11b0 : (((rd_T45 l0 x13_2).f4) == x12_1) = false := beq_eq_false_iff_ne.mpr c11
        have c11b1 : (((rd_T45 l0 x13_2).f4) != x12_1) = true := bne_iff_ne.mpr c11
        have H' := AM H
        clear H
        have p104 : 0 ≤ (x13_2 : Int) := of_decide_eq_true (by assumption)
        have q104 : x13_2 < (l0.length : Int) := of_decide_eq_true (by assumption)
        obtain ⟨ad104, e104, hx104_0, hx104_1, hx104_2, hx104_3, hx104_4⟩ := at_T45 HR0.out x13_2 p104 q104
        cases e104
        replace hx104_0 := pw_cell_below HB.out hx104_0
        replace hx104_1 := pw_cell_below HB.out hx104_1
        replace hx104_2 := pw_cell_below HB.out hx104_2
        replace hx104_3 := pw_cell_below HB.out hx104_3
        replace hx104_4 := pw_cell_below HB.out hx104_4
        replace p104 := eq_true p104
        replace q104 := eq_true q104
        go_wp2_with (first | ((with_reducible refine gate_dst (N := 14) rfl ?_); refine box_event (by rfl) (N := 14) (by rfl) (cs := #[.int .i64 0, .int .i64 0, .int .i64 0, .string (⟨#[]⟩ : ByteArray), .int .i64 0]) (t := 45) (by first | (go_simp; done) | (go_simp; rfl)) ?_; intro gb105 hg w28 hbox hb; have _ := AM (Kd.R_below (rX HO_11.out) hb); have _ := AM (below_step (bX HB.out) hb); have _ := AM (hbox); have n3_ := AM ((by rw [hg]; exact (bZ (bX HB.out)) : w.heap.size ≤ gb105)); clear HO_11 HB; rename_i HO_11 HB BK105; have GW105 := n3_; have GE105 := n3_; clear n3_; clear hb hbox hg; have hcz29 := q5 BK105.out; have hfz29 := fZ BK105.out))
        go_roundg k2
        case measure => have := HK1.out; have := HK2.out; omega
        case rel => exact ⟨(x11_2), (wrap64 (x13_2 + 1)), (by first | rfl | (simp; done) | (simp [*]; done)), H', ⟨by have := HK1.out; have := HK2.out; omega⟩, ⟨by (with_reducible repeat (first | apply rA | apply rN | apply rD)); exact Kd.R_mono (Kd.R_far (p := ⟨gb105, 4, none⟩) (Kd.R_far (p := ⟨gb105, 3, none⟩) (Kd.R_far (p := ⟨gb105, 2, none⟩) (Kd.R_far (p := ⟨gb105, 1, none⟩) (Kd.R_far (p := ⟨gb105, 0, none⟩) (Kd.R_types HO_11.out BK105.out (by decide)) (fun _ hk => hk.2) (.int .i64 ((rd_T45 l0 x13_2).f0))) (fun _ hk => hk.2) (.int .i64 ((rd_T45 l0 x13_2).f1))) (fun _ hk => hk.2) (.int .i64 ((rd_T45 l0 x13_2).f2))) (fun _ hk => hk.2) (.string ((rd_T45 l0 x13_2).f3))) (fun _ hk => hk.2) (.int .i64 ((rd_T45 l0 x13_2).f4))) (fun _ hk => trivial)⟩, ⟨bX HB.out⟩⟩
       rw [if_neg c10] at H
       exact absurd H (by simp)
      rw [if_neg c9] at H
      have c9b0 : decide (x13_2 < (l0.length : Int)) = false := decide_eq_false c9
      clear c9
      have H' := AM H
      clear H
      go_wp2
      go_roundg k2
      case measure => have := HK1.out; have := HK2.out; omega
      case rel => exact ⟨(x11_2), (wrap64 (x12_1 + 1)), (by first | rfl | (simp; done) | (simp [*]; done)), H', ⟨by have := HK1.out; have := HK2.out; omega⟩, ⟨rX HO_11.out⟩, ⟨bX HB.out⟩⟩
   rw [if_neg c8] at H
   have c8b0 : decide (x12_1 < 4) = false := decide_eq_false c8
   clear c8
   obtain rfl := Option.some.inj H
   go_wp2
   go_ret
   exact ⟨_, by first | rfl | (simp [*, errW_none, errW_some] <;> rfl), rX HO_11.out, bX HB.out⟩

/-! ### spec_Voters: function 17 -/

def spec_Voters.f (k : Nat) (l0 : List (S45)) (a1 : Int) (a2 : Int) (a3 : Int) (a4 : ByteArray) : Option (List Int) := if (l0.length : Int) > 400 then (some (([] : List Int))) else (if (a4.size : Int) > 20000 then (some (([] : List Int))) else ((spec_VotesRight.f k l0).bind fun t107 => (if t107 = true then ((spec_l11Voters.f k l0 a1 a2 a3 a4).bind fun t108 => (some t108)) else (some (([] : List Int))))))
theorem spec_Voters.mono : ∀ a0 a1 a2 a3 a4 k, LeO (spec_Voters.f k a0 a1 a2 a3 a4) (spec_Voters.f (k + 1) a0 a1 a2 a3 a4) := by
  intro a0 a1 a2 a3 a4 k
  unfold spec_Voters.f
  repeat' first
      | (with_reducible exact spec_VotesRight.mono _ _)
      | (with_reducible exact spec_l11Voters.mono _ _ _ _ _ _)
      | (with_reducible exact LeO.refl _)
      | (with_reducible exact LeO.none _)
      | (with_reducible refine LeO.ite ?_ ?_)
      | (with_reducible refine LeO.bind ?_ (fun _ => ?_))
      | exact spec_VotesRight.mono _ _
      | exact spec_l11Voters.mono _ _ _ _ _ _
      | exact LeO.none _
      | refine LeO.ite ?_ ?_
      | refine LeO.bind ?_ (fun _ => ?_)
set_option maxHeartbeats 60000000 in
set_option maxRecDepth 100000 in
theorem spec_Voters.calls (k : Nat) (A0 : Option Addr) (c0 : Nat) (l0 : List (S45)) (a1 : Int) (a2 : Int) (a3 : Int) (a4 : ByteArray) (r : List Int) (w : World) (hr0 : Kd.C k45 w A0 l0.length l0) (hc0 : l0.length ≤ c0) (h : spec_Voters.f k l0 a1 a2 a3 a4 = some r) :
    Calls Try.prog 17 #[.slice A0 l0.length c0, .int .i64 a1, .int .i64 a2, .int .i64 a3, .string a4] w fun e w' => ∃ v0_ : Value, e = .returned (v0_) ∧ Kd.R (Kd.int .i64) 2 w' w.heap.size (fun _ => True) v0_ r ∧ Below w.heap.size w w' := by
 have HR0 := AM hr0
 have HC0 := AM hc0
 clear hr0 hc0
 have HB := AM (Below.refl w.heap.size w)
 have H : (if (l0.length : Int) > 400 then (some (([] : List Int))) else (if (a4.size : Int) > 20000 then (some (([] : List Int))) else ((spec_VotesRight.f k l0).bind fun t107 => (if t107 = true then ((spec_l11Voters.f k l0 a1 a2 a3 a4).bind fun t108 => (some t108)) else (some (([] : List Int))))))) = some r := h
 clear h
 by_cases c6 : (l0.length : Int) > 400
 ·
  rw [if_pos c6] at H
  have c6b0 : decide (400 < (l0.length : Int)) = true := decide_eq_true c6
  have c6b1 : decide (400 < l0.length) = true := decide_eq_true (by omega)
  clear c6
  obtain ⟨y101, hy101⟩ : ∃ y_ : List Int, y_ = (([] : List Int)) := ⟨_, rfl⟩
  replace H : (some y101) = some r := by first | (rw [hy101]; with_reducible exact H) | (have H2_ := (Option.bind_some _ _).symm.trans H; rw [hy101]; with_reducible exact H2_) | (have H2_ := (Option.bind_some _ _).symm.trans H; with_reducible exact H2_) | with_reducible exact H | (rw [hy101]; exact H) | exact H
  have Ny101 := AM hy101
  clear hy101
  obtain rfl := Option.some.inj H
  go_enter Try.func17, Try.ntmps17
  go_wp2_with (first | ((with_reducible refine gate_dst (N := 24) rfl ?_); (try (refine gate_guard (by rfl) ?_; dsimp only)); refine Kd.R_lit (Kd.int .i64) _ 2 ?hg (N := 24) ?hd (xs := ([] : List Int)) (inner := []) (ok := fun _ => True) (okp := fun _ => True) ?hr ?hp (fun _ hk => hk) trivial (Below.refl _ _) (Nat.le_refl _) (by simp) ?_; (case hd => rfl); (case hg => rfl); (case hr => first | (go_simp; done) | (go_simp; rfl)); (case hp => exact (Reps.none _ _)); intro v102 w7 ho8 hb hg_ hnew_; clear hg_ hnew_; (first | rw [← Ny101.out] at ho8 | (simp only [Int.reduceToNat] at ho8; rw [← Ny101.out] at ho8)); have _ := AM (Kd.R_lower ho8 (bZ (bX HB.out))); have _ := AM (below_step (bX HB.out) hb); clear HB; rename_i HO103 HB; clear hb ho8))
  go_ret
  exact ⟨_, by first | rfl | (simp [*, errW_none, errW_some] <;> rfl), rX HO103.out, bX HB.out⟩
 rw [if_neg c6] at H
 have c6b0 : decide (400 < (l0.length : Int)) = false := decide_eq_false c6
 have c6b1 : decide (400 < l0.length) = false := decide_eq_false (by omega)
 clear c6
 by_cases c9 : (a4.size : Int) > 20000
 ·
  rw [if_pos c9] at H
  have c9b0 : decide (20000 < (a4.size : Int)) = true := decide_eq_true c9
  have c9b1 : decide (20000 < a4.size) = true := decide_eq_true (by omega)
  clear c9
  obtain ⟨y104, hy104⟩ : ∃ y_ : List Int, y_ = (([] : List Int)) := ⟨_, rfl⟩
  replace H : (some y104) = some r := by first | (rw [hy104]; with_reducible exact H) | (have H2_ := (Option.bind_some _ _).symm.trans H; rw [hy104]; with_reducible exact H2_) | (have H2_ := (Option.bind_some _ _).symm.trans H; with_reducible exact H2_) | with_reducible exact H | (rw [hy104]; exact H) | exact H
  have Ny104 := AM hy104
  clear hy104
  obtain rfl := Option.some.inj H
  go_enter Try.func17, Try.ntmps17
  go_wp2_with (first | ((with_reducible refine gate_dst (N := 24) rfl ?_); (try (refine gate_guard (by rfl) ?_; dsimp only)); refine Kd.R_lit (Kd.int .i64) _ 2 ?hg (N := 24) ?hd (xs := ([] : List Int)) (inner := []) (ok := fun _ => True) (okp := fun _ => True) ?hr ?hp (fun _ hk => hk) trivial (Below.refl _ _) (Nat.le_refl _) (by simp) ?_; (case hd => rfl); (case hg => rfl); (case hr => first | (go_simp; done) | (go_simp; rfl)); (case hp => exact (Reps.none _ _)); intro v105 w10 ho11 hb hg_ hnew_; clear hg_ hnew_; (first | rw [← Ny104.out] at ho11 | (simp only [Int.reduceToNat] at ho11; rw [← Ny104.out] at ho11)); have _ := AM (Kd.R_lower ho11 (bZ (bX HB.out))); have _ := AM (below_step (bX HB.out) hb); clear HB; rename_i HO106 HB; clear hb ho11))
  go_ret
  exact ⟨_, by first | rfl | (simp [*, errW_none, errW_some] <;> rfl), rX HO106.out, bX HB.out⟩
 rw [if_neg c9] at H
 have c9b0 : decide (20000 < (a4.size : Int)) = false := decide_eq_false c9
 have c9b1 : decide (20000 < a4.size) = false := decide_eq_false (by omega)
 clear c9
 replace H := Option.bind_eq_some_iff.mp H
 obtain ⟨t107, A120, H⟩ := H
 replace H : (if t107 = true then ((spec_l11Voters.f k l0 a1 a2 a3 a4).bind fun t108 => (some t108)) else (some (([] : List Int)))) = some r := H
 have A12 := AM A120
 clear A120
 by_cases c13 : t107 = true
 ·
  subst c13
  have H1 : ((spec_l11Voters.f k l0 a1 a2 a3 a4).bind fun t108 => (some t108)) = some r := by rw [if_pos rfl] at H; exact H
  clear H
  have H := H1
  clear H1
  replace H := Option.bind_eq_some_iff.mp H
  obtain ⟨t108, A140, H⟩ := H
  replace H : (some t108) = some r := H
  have A14 := AM A140
  clear A140
  obtain rfl := Option.some.inj H
  go_enter Try.func17, Try.ntmps17
  go_wp2_with (first | (go_at_call 27; (with_reducible refine (spec_VotesRight.calls k _ _ l0 true _ ?side1 ?side2 A12.out).mono ?_); (case side1 => repeat (first | exact HR0.out | (with_reducible first | apply cA | apply cN | apply cD))); (case side2 => exact HC0.out); rintro e w15 ⟨rfl, hb⟩; have _ := AM (below_step (bX HB.out) hb); clear HB; rename_i HB; (try clear hb); (try clear hk)) | ((with_reducible refine gate_callee (f := 35) rfl ?_); refine goesL_ (some 30) rfl rfl Try.func35 (by kernel_rfl) rfl #[.slice A0 l0.length c0, .int .i64 a1, .int .i64 a2, .int .i64 a3, .string a4] rfl (by (try simp only [mA, mB, mC]); first | done | rfl | (simp only [mD, mE]; rfl)) ?_; (with_reducible refine (spec_l11Voters.calls k _ _ l0 a1 a2 a3 a4 t108 _ ?side1 ?side2 A14.out).mono ?_); (case side1 => repeat (first | exact (cB HR0.out HB.out) | (with_reducible first | apply cA | apply cN | apply cD))); (case side2 => exact HC0.out); rintro e w16 ⟨v109, rfl, ho0, hb⟩; refine ⟨_, rfl, ?_⟩; have _ := AM (Kd.R_lower ho0 (bZ (bX HB.out))); have _ := AM (below_step (bX HB.out) hb); clear HB; rename_i HO110 HB; (try clear hb); (try clear hk); (try clear ho0)))
  go_ret
  exact ⟨_, by first | rfl | (simp [*, errW_none, errW_some] <;> rfl), rX HO110.out, bX HB.out⟩
 replace c13 := Bool.eq_false_iff.mpr c13
 subst c13
 have H1 : (some (([] : List Int))) = some r := by rw [if_neg (show ¬ (false = true) by decide)] at H; exact H
 clear H
 have H := H1
 clear H1
 obtain ⟨y111, hy111⟩ : ∃ y_ : List Int, y_ = (([] : List Int)) := ⟨_, rfl⟩
 replace H : (some y111) = some r := by first | (rw [hy111]; with_reducible exact H) | (have H2_ := (Option.bind_some _ _).symm.trans H; rw [hy111]; with_reducible exact H2_) | (have H2_ := (Option.bind_some _ _).symm.trans H; with_reducible exact H2_) | with_reducible exact H | (rw [hy111]; exact H) | exact H
 have Ny111 := AM hy111
 clear hy111
 obtain rfl := Option.some.inj H
 go_enter Try.func17, Try.ntmps17
 go_wp2_with (first | (go_at_call 27; (with_reducible refine (spec_VotesRight.calls k _ _ l0 false _ ?side1 ?side2 A12.out).mono ?_); (case side1 => repeat (first | exact HR0.out | (with_reducible first | apply cA | apply cN | apply cD))); (case side2 => exact HC0.out); rintro e w17 ⟨rfl, hb⟩; have _ := AM (below_step (bX HB.out) hb); clear HB; rename_i HB; (try clear hb); (try clear hk)) | ((with_reducible refine gate_dst (N := 24) rfl ?_); (try (refine gate_guard (by rfl) ?_; dsimp only)); refine Kd.R_lit (Kd.int .i64) _ 2 ?hg (N := 24) ?hd (xs := ([] : List Int)) (inner := []) (ok := fun _ => True) (okp := fun _ => True) ?hr ?hp (fun _ hk => hk) trivial (Below.refl _ _) (Nat.le_refl _) (by simp) ?_; (case hd => rfl); (case hg => rfl); (case hr => first | (go_simp; done) | (go_simp; rfl)); (case hp => exact (Reps.none _ _)); intro v112 w18 ho19 hb hg_ hnew_; clear hg_ hnew_; (first | rw [← Ny111.out] at ho19 | (simp only [Int.reduceToNat] at ho19; rw [← Ny111.out] at ho19)); have _ := AM (Kd.R_lower ho19 (bZ (bX HB.out))); have _ := AM (below_step (bX HB.out) hb); clear HB; rename_i HO113 HB; clear hb ho19))
 go_ret
 exact ⟨_, by first | rfl | (simp [*, errW_none, errW_some] <;> rfl), rX HO113.out, bX HB.out⟩

/-! ### spec_ProofOf: function 8 -/

def spec_ProofOf.f (k : Nat) (l0 : List (S45)) (a1 : Int) (a2 : Int) (a3 : ByteArray) : Option (Int × Int × ByteArray × List Int) := (spec_Voters.f k l0 2 a1 a2 a3).bind fun t102 => (if (t102.length : Int) < 3 then (some (0, 0, (⟨#[]⟩ : ByteArray), ([] : List Int))) else (some (a1, a2, a3, t102)))
theorem spec_ProofOf.mono : ∀ a0 a1 a2 a3 k, LeO (spec_ProofOf.f k a0 a1 a2 a3) (spec_ProofOf.f (k + 1) a0 a1 a2 a3) := by
  intro a0 a1 a2 a3 k
  unfold spec_ProofOf.f
  repeat' first
      | (with_reducible exact spec_Voters.mono _ _ _ _ _ _)
      | (with_reducible exact LeO.refl _)
      | (with_reducible exact LeO.none _)
      | (with_reducible refine LeO.ite ?_ ?_)
      | (with_reducible refine LeO.bind ?_ (fun _ => ?_))
      | exact spec_Voters.mono _ _ _ _ _ _
      | exact LeO.none _
      | refine LeO.ite ?_ ?_
      | refine LeO.bind ?_ (fun _ => ?_)
set_option maxHeartbeats 60000000 in
set_option maxRecDepth 100000 in
theorem spec_ProofOf.calls (k : Nat) (A0 : Option Addr) (c0 : Nat) (l0 : List (S45)) (a1 : Int) (a2 : Int) (a3 : ByteArray) (r1 : Int) (r2 : Int) (r3 : ByteArray) (r4 : List Int) (w : World) (hr0 : Kd.C k45 w A0 l0.length l0) (hc0 : l0.length ≤ c0) (h : spec_ProofOf.f k l0 a1 a2 a3 = some (r1, r2, r3, r4)) :
    Calls Try.prog 8 #[.slice A0 l0.length c0, .int .i64 a1, .int .i64 a2, .string a3] w fun e w' => ∃ v3_ : Value, e = .returned (.agg #[.int .i64 r1, .int .i64 r2, .string r3, v3_]) ∧ Kd.R (Kd.int .i64) 2 w' w.heap.size (fun _ => True) v3_ r4 ∧ Below w.heap.size w w' := by
 have hu28 := Try.underlying28
 have HR0 := AM hr0
 have HC0 := AM hc0
 clear hr0 hc0
 have HB := AM (Below.refl w.heap.size w)
 have H : ((spec_Voters.f k l0 2 a1 a2 a3).bind fun t102 => (if (t102.length : Int) < 3 then (some (0, 0, (⟨#[]⟩ : ByteArray), ([] : List Int))) else (some (a1, a2, a3, t102)))) = some (r1, r2, r3, r4) := h
 clear h
 replace H := Option.bind_eq_some_iff.mp H
 obtain ⟨t102, A50, H⟩ := H
 replace H : (if (t102.length : Int) < 3 then (some (0, 0, (⟨#[]⟩ : ByteArray), ([] : List Int))) else (some (a1, a2, a3, t102))) = some (r1, r2, r3, r4) := H
 have A5 := AM A50
 clear A50
 by_cases c6 : (t102.length : Int) < 3
 ·
  rw [if_pos c6] at H
  have c6b0 : decide ((t102.length : Int) < 3) = true := decide_eq_true c6
  have c6b1 : decide (t102.length < 3) = true := decide_eq_true (by omega)
  clear c6
  simp only [Option.some.injEq, Prod.mk.injEq] at H
  obtain ⟨rfl, rfl, rfl, rfl⟩ := H
  go_enter Try.func8, Try.ntmps8
  go_wp2_with (first | ((with_reducible refine gate_dst (N := 8) rfl ?_); refine box_event (by rfl) (N := 8) (by rfl) (cs := #[.int .i64 0, .int .i64 0, .string (⟨#[]⟩ : ByteArray), .slice none 0 0]) (t := 28) (by first | (go_simp; done) | (go_simp; rfl)) ?_; intro gb101 hg w7 hbox hb; have _ := AM (below_step (bX HB.out) hb); have _ := AM (hbox); have n2_ := AM ((by rw [hg]; exact (bZ (bX HB.out)) : w.heap.size ≤ gb101)); clear HB; rename_i HB BK101; have GW101 := n2_; have GE101 := n2_; clear n2_; clear hb hbox hg) | ((with_reducible refine gate_callee (f := 17) rfl ?_); refine goesL_ (some 14) rfl rfl Try.func17 (by kernel_rfl) rfl #[.slice A0 l0.length c0, .int .i64 2, .int .i64 a1, .int .i64 a2, .string a3] rfl (by (try simp only [mA, mB, mC]); first | done | rfl | (simp only [mD, mE]; rfl)) ?_; (with_reducible refine (spec_Voters.calls k _ _ l0 2 a1 a2 a3 t102 _ ?side1 ?side2 A5.out).mono ?_); (case side1 => repeat (first | exact (cB HR0.out HB.out) | (with_reducible first | apply cA | apply cN | apply cD))); (case side2 => exact HC0.out); rintro e w8 ⟨v103, rfl, ho0, hb⟩; refine ⟨_, rfl, ?_⟩; have _ := AM (Kd.R_lower ho0 (bZ (bX HB.out))); have _ := AM (nB BK101.out hb); have _ := AM (below_step (bX HB.out) hb); clear BK101 HB; rename_i HO104 BK101 HB; (try clear hb); (try clear hk); (try clear ho0); obtain ⟨Ao9, co9, eo9⟩ := Kd.R_slice HO104.out; subst eo9; have hcz10 := q4 BK101.out; have hfz10 := fZ BK101.out))
  refine bodyPost_ret (results_cell_row rfl _ _ gb101 28 #[.int .i64 0, .int .i64 0, .string (⟨#[]⟩ : ByteArray), .slice none 0 0] (0, 0) _ rfl (by refine kP (cs := #[.int .i64 0, .int .i64 0, .string (⟨#[]⟩ : ByteArray), .slice none 0 0]) 3 ?_; refine kP (cs := #[.int .i64 0, .int .i64 0, .string (⟨#[]⟩ : ByteArray), .slice none 0 0]) 2 ?_; refine kP (cs := #[.int .i64 0, .int .i64 0, .string (⟨#[]⟩ : ByteArray), .slice none 0 0]) 1 ?_; refine kP (cs := #[.int .i64 0, .int .i64 0, .string (⟨#[]⟩ : ByteArray), .slice none 0 0]) 0 ?_; (with_reducible repeat (first | apply kN | apply kD | apply kA)); exact BK101.out) Try.underlying28 rfl (by kernel_rfl)) rfl ?_
  exact ⟨_, by first | rfl | (simp [*, errW_none, errW_some] <;> rfl), by first | exact Kd.R_nil _ _ _ _ _ | exact Kd.N_nil _ _ _ _ _ | exact Kd.V_nil _ _ _ _ _ | exact Kd.Q_nil _ _ _ _ _ | exact Kd.S_nil _ _ _ _ _, bX HB.out⟩
 rw [if_neg c6] at H
 have c6b0 : decide ((t102.length : Int) < 3) = false := decide_eq_false c6
 have c6b1 : decide (t102.length < 3) = false := decide_eq_false (by omega)
 clear c6
 simp only [Option.some.injEq, Prod.mk.injEq] at H
 obtain ⟨rfl, rfl, rfl, rfl⟩ := H
 go_enter Try.func8, Try.ntmps8
 go_wp2_with (first | ((with_reducible refine gate_dst (N := 8) rfl ?_); refine box_event (by rfl) (N := 8) (by rfl) (cs := #[.int .i64 0, .int .i64 0, .string (⟨#[]⟩ : ByteArray), .slice none 0 0]) (t := 28) (by first | (go_simp; done) | (go_simp; rfl)) ?_; intro gb101 hg w11 hbox hb; have _ := AM (below_step (bX HB.out) hb); have _ := AM (hbox); have n2_ := AM ((by rw [hg]; exact (bZ (bX HB.out)) : w.heap.size ≤ gb101)); clear HB; rename_i HB BK101; have GW101 := n2_; have GE101 := n2_; clear n2_; clear hb hbox hg) | ((with_reducible refine gate_callee (f := 17) rfl ?_); refine goesL_ (some 14) rfl rfl Try.func17 (by kernel_rfl) rfl #[.slice A0 l0.length c0, .int .i64 2, .int .i64 a1, .int .i64 a2, .string a3] rfl (by (try simp only [mA, mB, mC]); first | done | rfl | (simp only [mD, mE]; rfl)) ?_; (with_reducible refine (spec_Voters.calls k _ _ l0 2 a1 a2 a3 t102 _ ?side1 ?side2 A5.out).mono ?_); (case side1 => repeat (first | exact (cB HR0.out HB.out) | (with_reducible first | apply cA | apply cN | apply cD))); (case side2 => exact HC0.out); rintro e w12 ⟨v103, rfl, ho0, hb⟩; refine ⟨_, rfl, ?_⟩; have _ := AM (Kd.R_lower ho0 (bZ (bX HB.out))); have _ := AM (nB BK101.out hb); have _ := AM (below_step (bX HB.out) hb); clear BK101 HB; rename_i HO104 BK101 HB; (try clear hb); (try clear hk); (try clear ho0); obtain ⟨Ao13, co13, eo13⟩ := Kd.R_slice HO104.out; subst eo13; have hcz14 := q4 BK101.out; have hfz14 := fZ BK101.out))
 refine bodyPost_ret (results_cell_row rfl _ _ gb101 28 #[.int .i64 a1, .int .i64 a2, .string a3, .slice Ao13 t102.length co13] (0, 0) _ rfl (by refine kP (cs := #[.int .i64 a1, .int .i64 a2, .string a3, .slice none 0 0]) 3 ?_; refine kP (cs := #[.int .i64 a1, .int .i64 a2, .string (⟨#[]⟩ : ByteArray), .slice none 0 0]) 2 ?_; refine kP (cs := #[.int .i64 a1, .int .i64 0, .string (⟨#[]⟩ : ByteArray), .slice none 0 0]) 1 ?_; refine kP (cs := #[.int .i64 0, .int .i64 0, .string (⟨#[]⟩ : ByteArray), .slice none 0 0]) 0 ?_; (with_reducible repeat (first | apply kN | apply kD | apply kA)); exact BK101.out) Try.underlying28 rfl (by kernel_rfl)) rfl ?_
 exact ⟨_, by first | rfl | (simp [*, errW_none, errW_some] <;> rfl), by (with_reducible repeat (first | apply rA | apply rN | apply rD)); exact Rf4 HO104.out BK101.out (by decide) (fun _ hk => trivial), bX HB.out⟩

/-! ### slices_Sort_string_string: function 58 (by hand) -/
def slices_Sort_string_string.f (l0 : List ByteArray) : Option (List ByteArray) := if l0.length < 4611686018427387904 then some (sortS l0) else none
theorem slices_Sort_string_string.calls (P0_ : Nat → Prop) (u9000_ : Value) (l0 : List ByteArray) (r : List ByteArray) (w0 w : World) (hB : Below w0.heap.size w0 w) (ho0 : Kd.R Kd.string 9 w w0.heap.size P0_ u9000_ l0) (h : slices_Sort_string_string.f l0 = some r) :
    Calls Try.prog 58 #[u9000_] w fun e w' => e = .returned (.tuple #[]) ∧ Kd.R Kd.string 9 w' w0.heap.size (fun k_ => (P0_ k_ ∨ w.heap.size ≤ k_)) u9000_ r ∧ Below w0.heap.size w0 w' ∧ Kept w w' (fun k_ => P0_ k_) := by
  unfold slices_Sort_string_string.f at h
  split at h
  · rename_i hlen
    obtain rfl := Option.some.inj h
    have hbase : w0.heap.size ≤ w.heap.size := hB.size
    have ho := Kd.own_of_R ho0
    rcases ho.2 with ⟨rfl, hn⟩ | ⟨g, cap, cur, rfl, hg, hh, hn, hm, hs, ht⟩
    · obtain rfl : l0 = [] := List.eq_nil_of_length_eq_zero hn
      refine (Try.slices_Sort_string_none none 0 w).mono ?_
      rintro e w' ⟨rfl, rfl⟩
      exact ⟨rfl, by simpa [sortS] using Kd.R_nil _ _ _ _ _, hB, Kept.refl _ _⟩
    · obtain ⟨c1, c2, c3, c4, c5⟩ := strs_cells ho0
      have hH := Lib.holds_of_strs c4 (fun j _ => c5 j)
      rw [strs_of] at hH
      have hl : (l0.map (·.data.toList)).length = l0.length := by simp
      have hc := Try.slices_Sort_string g 0 cap (l0.map (·.data.toList)) w hH c3 (by simpa using hlen)
      rw [hl] at hc
      refine hc.mono ?_
      rintro e w' ⟨rfl, q, os, rfl⟩
      obtain ⟨k1, k2, k3⟩ := strs_written (q := q) (os := os) (r := sortS l0) (ys := sortS l0) ho0 (sortS_len l0) (by simp) (by rw [sortS_len]; exact Nat.le_refl _)
      have e2 : Sort.putRow encStr (Sort.ahead w q) g 0 ((l0.map (·.data.toList)).mergeSort fun x y => decide (x ≤ y)).toArray = (w.drewN q).setCells g 0 ((sortS l0).map Value.string) := by
        rw [Lib.putRow_eq_setCells _ w g 0 _ _ q hH (by simp [List.length_mergeSort])]
        congr 1
        simp [sortS, Function.comp_def]
      rw [e2]
      rw [sortS_len] at k1
      refine ⟨rfl, Kd.R_mono k1 (fun _ hk => .inl hk), hB.grown k2 hbase (fun k hk => (Option.some.inj hk : g = k) ▸ k3), Kept.of_grown k2 (Kept.refl _ _) (fun k hk => .inl (ho0.1 k (by simpa [Value.ownBlock] using hk)))⟩
  · exact absurd h (by simp)


/-! ### slices_Compact_string_string: function 59 (by hand) -/
def slices_Compact_string_string.f (l0 : List ByteArray) : Option (List ByteArray) := some (compactS l0)
theorem slices_Compact_string_string.calls (P0_ : Nat → Prop) (u9000_ : Value) (l0 : List ByteArray) (r : List ByteArray) (w0 w : World) (hB : Below w0.heap.size w0 w) (ho0 : Kd.R Kd.string 9 w w0.heap.size P0_ u9000_ l0) (h : slices_Compact_string_string.f l0 = some r) :
    Calls Try.prog 59 #[u9000_] w fun e w' => ∃ v0_ : Value, e = .returned (v0_) ∧ Kd.R Kd.string 9 w' w0.heap.size (fun k_ => (P0_ k_ ∨ w.heap.size ≤ k_)) v0_ r ∧ Below w0.heap.size w0 w' ∧ Kept w w' (fun k_ => P0_ k_) := by
  obtain rfl := Option.some.inj h
  have hbase : w0.heap.size ≤ w.heap.size := hB.size
  have ho := Kd.own_of_R ho0
  rcases ho.2 with ⟨rfl, hn⟩ | ⟨g, cap, cur, rfl, hg, hh, hn, hm, hs, ht⟩
  · obtain rfl : l0 = [] := List.eq_nil_of_length_eq_zero hn
    refine (Try.slices_Compact_string_empty none 0 w).mono ?_
    rintro e w' ⟨rfl, rfl⟩
    exact ⟨_, rfl, Kd.R_nil _ _ _ _ _, hB, Kept.refl _ _⟩
  · obtain ⟨c1, c2, c3, c4, c5⟩ := strs_cells ho0
    refine (Try.slices_Compact_string_cells g 0 l0.length cap (fun i => l0.getD i ⟨#[]⟩) w (by unfold maxLen at c2; omega) c1 c4 (fun j _ => c5 j)).mono ?_
    rintro e w' ⟨rfl, q, rfl⟩
    have hle := compactS_len l0
    have e1 : (Lib.compact (Lib.strsOf (fun i => l0.getD i ⟨#[]⟩) l0.length)).length = (compactS l0).length := by rw [strs_of]; simp [compactS]
    obtain ⟨k1, k2, k3⟩ := strs_written (q := q) (os := #[]) (r := compactS l0) (ys := compactS l0 ++ List.replicate (l0.length - (compactS l0).length) (⟨#[]⟩ : ByteArray)) ho0 (by simp; omega) (by simp) hle
    have e2 : (w.drewN q).setCells g 0 ((Lib.compact (Lib.strsOf (fun i => l0.getD i ⟨#[]⟩) l0.length) ++ List.replicate (l0.length - (Lib.compact (Lib.strsOf (fun i => l0.getD i ⟨#[]⟩) l0.length)).length) []).map encStr) = Sort.grow ((w.drewN q).setCells g 0 ((compactS l0 ++ List.replicate (l0.length - (compactS l0).length) (⟨#[]⟩ : ByteArray)).map Value.string)) #[] := by
      rw [Sort.grow_empty, e1, strs_of]
      congr 1
      simp [compactS, List.map_replicate, Function.comp_def]
    rw [e2, e1]
    refine ⟨_, rfl, Kd.R_mono k1 (fun _ hk => .inl hk), hB.grown k2 hbase (fun k hk => (Option.some.inj hk : g = k) ▸ k3), Kept.of_grown k2 (Kept.refl _ _) (fun k hk => .inl (ho0.1 k (by simpa [Value.ownBlock] using hk)))⟩


end Go.Proofs.Ytbaacdlocoajeaa.Q
