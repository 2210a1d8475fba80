/- Printed by a program of this session (wip/mp.py over the kit's print.py): functions of the translation as plain Lean functions, and that the machine's calls do what these say. -/
import Derived.Test.YtgpgamapopnfcaaDoorQx0
import Derived.Test.YtgpgamapopnfcaaDoorQx2
import Derived.Test.YtgpgamapopnfcaaDoorQx4
import Derived.Test.YtgpgamapopnfcaaDoorQx14
import Derived.Test.YtgpgamapopnfcaaDoorQx19
namespace Go.Proofs.YtgpgamapopnfcaaDoor.Q
open Go.RowKit Go.Proofs.YtgpgamapopnfcaaDoor.HB Go.Proofs.YtgpgamapopnfcaaDoorW.PrintWords Go.Proofs.YtgpgamapopnfcaaDoorW.PrintLast Go.Proofs.YtgpgamapopnfcaaDoorW.PrintMore
attribute [local go_sem] max2_int min2_int max_two min_two max_three min_three max_four min_four   -- for this text's walks alone
set_option linter.unusedVariables false
set_option linter.unusedSimpArgs false

/-! ### laws_FnExactVectorGood: function 5 -/

def laws_FnExactVectorGood.f (k : Nat) (a0 : ByteArray) (a1 : Int) (a2 : Int) (a3 : ByteArray) (l4 : List ByteArray) : Option (Bool) := if (a0.size : Int) > 1048576 then (some true) else (if (a3.size : Int) > 1048576 then (some true) else ((laws_szStringS.f k l4 1048576).bind fun t101 => (if t101 < 0 then (some true) else ((laws_toStringS.f k l4).bind fun t102 => ((spec_VectorGood.f k a0 a1 a2 a3 t102).bind fun t105 => ((laws_toStringS.f k l4).bind fun t106 => ((impl_VectorGood.f k a0 a1 a2 a3 t106).bind fun t109 => (if (t109 != t105) = true then (none) else ((laws_toStringS.f k l4).bind fun t110 => ((laws_eqStringS.f k t106 t110).bind fun t113 => (if t113 = true then (some true) else (none))))))))))))
theorem laws_FnExactVectorGood.mono : ∀ a0 a1 a2 a3 a4 k, LeO (laws_FnExactVectorGood.f k a0 a1 a2 a3 a4) (laws_FnExactVectorGood.f (k + 1) a0 a1 a2 a3 a4) := by
  intro a0 a1 a2 a3 a4 k
  unfold laws_FnExactVectorGood.f
  repeat' first
      | (with_reducible exact impl_VectorGood.mono _ _ _ _ _ _)
      | (with_reducible exact laws_eqStringS.mono _ _ _)
      | (with_reducible exact laws_szStringS.mono _ _ _)
      | (with_reducible exact laws_toStringS.mono _ _)
      | (with_reducible exact spec_VectorGood.mono _ _ _ _ _ _)
      | (with_reducible exact LeO.refl _)
      | (with_reducible exact LeO.none _)
      | (with_reducible refine LeO.ite ?_ ?_)
      | (with_reducible refine LeO.bind ?_ (fun _ => ?_))
      | exact impl_VectorGood.mono _ _ _ _ _ _
      | exact laws_eqStringS.mono _ _ _
      | exact laws_szStringS.mono _ _ _
      | exact laws_toStringS.mono _ _
      | exact spec_VectorGood.mono _ _ _ _ _ _
      | exact LeO.none _
      | refine LeO.ite ?_ ?_
      | refine LeO.bind ?_ (fun _ => ?_)
set_option maxHeartbeats 60000000 in
set_option maxRecDepth 100000 in
theorem laws_FnExactVectorGood.calls (k : Nat) (a0 : ByteArray) (a1 : Int) (a2 : Int) (a3 : ByteArray) (A4 : Option Addr) (c4 : Nat) (l4 : List ByteArray) (r : Bool) (w : World) (hr4 : Kd.C Kd.string w A4 l4.length l4) (hc4 : l4.length ≤ c4) (hT : Tab w) (h : laws_FnExactVectorGood.f k a0 a1 a2 a3 l4 = some r) :
    Calls Tryd.prog 5 #[.string a0, .int .i64 a1, .int .i64 a2, .string a3, .slice A4 l4.length c4] w fun e w' => e = .returned (.bool r) ∧ Below w.heap.size w w' := by
 have TAB := AM hT
 clear hT
 have HR4 := AM hr4
 have HC4 := AM hc4
 clear hr4 hc4
 have HB := AM (Below.refl w.heap.size w)
 have H : (if (a0.size : Int) > 1048576 then (some true) else (if (a3.size : Int) > 1048576 then (some true) else ((laws_szStringS.f k l4 1048576).bind fun t101 => (if t101 < 0 then (some true) else ((laws_toStringS.f k l4).bind fun t102 => ((spec_VectorGood.f k a0 a1 a2 a3 t102).bind fun t105 => ((laws_toStringS.f k l4).bind fun t106 => ((impl_VectorGood.f k a0 a1 a2 a3 t106).bind fun t109 => (if (t109 != t105) = true then (none) else ((laws_toStringS.f k l4).bind fun t110 => ((laws_eqStringS.f k t106 t110).bind fun t113 => (if t113 = true then (some true) else (none))))))))))))) = some r := h
 clear h
 by_cases c6 : (a0.size : Int) > 1048576
 ·
  rw [if_pos c6] at H
  have c6b0 : decide (1048576 < (a0.size : Int)) = true := decide_eq_true c6
  have c6b1 : decide (1048576 < a0.size) = true := decide_eq_true (by omega)
  clear c6
  obtain rfl := Option.some.inj H
  go_enter Tryd.func5, Tryd.ntmps5
  go_wp2
  go_ret
  exact ⟨by first | rfl | (simp [*, errW_none, errW_some] <;> rfl), bX HB.out⟩
 rw [if_neg c6] at H
 have c6b0 : decide (1048576 < (a0.size : Int)) = false := decide_eq_false c6
 have c6b1 : decide (1048576 < a0.size) = false := decide_eq_false (by omega)
 clear c6
 by_cases c7 : (a3.size : Int) > 1048576
 ·
  rw [if_pos c7] at H
  have c7b0 : decide (1048576 < (a3.size : Int)) = true := decide_eq_true c7
  have c7b1 : decide (1048576 < a3.size) = true := decide_eq_true (by omega)
  clear c7
  obtain rfl := Option.some.inj H
  go_enter Tryd.func5, Tryd.ntmps5
  go_wp2
  go_ret
  exact ⟨by first | rfl | (simp [*, errW_none, errW_some] <;> rfl), bX HB.out⟩
 rw [if_neg c7] at H
 have c7b0 : decide (1048576 < (a3.size : Int)) = false := decide_eq_false c7
 have c7b1 : decide (1048576 < a3.size) = false := decide_eq_false (by omega)
 clear c7
 replace H := Option.bind_eq_some_iff.mp H
 obtain ⟨t101, A80, H⟩ := H
 replace H : (if t101 < 0 then (some true) else ((laws_toStringS.f k l4).bind fun t102 => ((spec_VectorGood.f k a0 a1 a2 a3 t102).bind fun t105 => ((laws_toStringS.f k l4).bind fun t106 => ((impl_VectorGood.f k a0 a1 a2 a3 t106).bind fun t109 => (if (t109 != t105) = true then (none) else ((laws_toStringS.f k l4).bind fun t110 => ((laws_eqStringS.f k t106 t110).bind fun t113 => (if t113 = true then (some true) else (none)))))))))) = some r := H
 have A8 := AM A80
 clear A80
 by_cases c9 : t101 < 0
 ·
  rw [if_pos c9] at H
  have c9b0 : decide (t101 < 0) = true := decide_eq_true c9
  clear c9
  obtain rfl := Option.some.inj H
  go_enter Tryd.func5, Tryd.ntmps5
  go_wp2_with (first | ((with_reducible refine gate_callee (f := 14) rfl ?_); refine goesL_ (some 23) rfl rfl Tryd.func14 (by kernel_rfl) rfl #[.slice A4 l4.length c4, .int .i64 1048576] rfl (by (try simp only [mA, mB, mC]); first | done | rfl | (simp only [mD, mE]; rfl)) ?_; (with_reducible refine (laws_szStringS.calls k _ _ l4 1048576 t101 _ ?side1 ?side2 A8.out).mono ?_); (case side1 => repeat (first | exact HR4.out | (with_reducible first | apply cA | apply cN | apply cD))); (case side2 => exact HC4.out); rintro e w' ⟨rfl, ⟨nd, rfl⟩⟩; refine ⟨_, rfl, ?_⟩))
  go_ret
  exact ⟨by first | rfl | (simp [*, errW_none, errW_some] <;> rfl), bX HB.out⟩
 rw [if_neg c9] at H
 have c9b0 : decide (t101 < 0) = false := decide_eq_false c9
 clear c9
 replace H := Option.bind_eq_some_iff.mp H
 obtain ⟨t102, A100, H⟩ := H
 replace H : ((spec_VectorGood.f k a0 a1 a2 a3 t102).bind fun t105 => ((laws_toStringS.f k l4).bind fun t106 => ((impl_VectorGood.f k a0 a1 a2 a3 t106).bind fun t109 => (if (t109 != t105) = true then (none) else ((laws_toStringS.f k l4).bind fun t110 => ((laws_eqStringS.f k t106 t110).bind fun t113 => (if t113 = true then (some true) else (none)))))))) = some r := H
 have A10 := AM A100
 clear A100
 replace H := Option.bind_eq_some_iff.mp H
 obtain ⟨t105, A110, H⟩ := H
 replace H : ((laws_toStringS.f k l4).bind fun t106 => ((impl_VectorGood.f k a0 a1 a2 a3 t106).bind fun t109 => (if (t109 != t105) = true then (none) else ((laws_toStringS.f k l4).bind fun t110 => ((laws_eqStringS.f k t106 t110).bind fun t113 => (if t113 = true then (some true) else (none))))))) = some r := H
 have A11 := AM A110
 clear A110
 replace H := Option.bind_eq_some_iff.mp H
 obtain ⟨t106, A120, H⟩ := H
 replace H : ((impl_VectorGood.f k a0 a1 a2 a3 t106).bind fun t109 => (if (t109 != t105) = true then (none) else ((laws_toStringS.f k l4).bind fun t110 => ((laws_eqStringS.f k t106 t110).bind fun t113 => (if t113 = true then (some true) else (none)))))) = some r := H
 have A12 := AM A120
 clear A120
 replace H := Option.bind_eq_some_iff.mp H
 obtain ⟨t109, A130, H⟩ := H
 replace H : (if (t109 != t105) = true then (none) else ((laws_toStringS.f k l4).bind fun t110 => ((laws_eqStringS.f k t106 t110).bind fun t113 => (if t113 = true then (some true) else (none))))) = some r := H
 have A13 := AM A130
 clear A130
 by_cases c14 : (t109 != t105) = true
 ·
  rw [if_pos c14] at H
  exact absurd H (by simp)
 rw [if_neg c14] at H
 have c14b0 : (t109 != t105) = false := by simpa using c14
 (try (have c14b1 : decide (t109 = t105) = true := by simpa using c14))
 (try (have c14b2 : (t109 == t105) = true := by simpa using c14))
 clear c14
 replace H := Option.bind_eq_some_iff.mp H
 obtain ⟨t110, A150, H⟩ := H
 replace H : ((laws_eqStringS.f k t106 t110).bind fun t113 => (if t113 = true then (some true) else (none))) = some r := H
 have A15 := AM A150
 clear A150
 replace H := Option.bind_eq_some_iff.mp H
 obtain ⟨t113, A160, H⟩ := H
 replace H : (if t113 = true then (some true) else (none)) = some r := H
 have A16 := AM A160
 clear A160
 by_cases c17 : t113 = true
 ·
  subst c17
  have H1 : (some true) = some r := by rw [if_pos rfl] at H; exact H
  clear H
  have H := H1
  clear H1
  obtain rfl := Option.some.inj H
  go_enter Tryd.func5, Tryd.ntmps5
  go_wp2_with (first | ((with_reducible refine gate_callee (f := 14) rfl ?_); refine goesL_ (some 23) rfl rfl Tryd.func14 (by kernel_rfl) rfl #[.slice A4 l4.length c4, .int .i64 1048576] rfl (by (try simp only [mA, mB, mC]); first | done | rfl | (simp only [mD, mE]; rfl)) ?_; (with_reducible refine (laws_szStringS.calls k _ _ l4 1048576 t101 _ ?side1 ?side2 A8.out).mono ?_); (case side1 => repeat (first | exact HR4.out | (with_reducible first | apply cA | apply cN | apply cD))); (case side2 => exact HC4.out); rintro e w' ⟨rfl, ⟨nd, rfl⟩⟩; refine ⟨_, rfl, ?_⟩) | ((with_reducible refine gate_callee (f := 16) rfl ?_); refine goesL_ (some 31) rfl rfl Tryd.func16 (by kernel_rfl) rfl #[.slice A4 l4.length c4] rfl (by (try simp only [mA, mB, mC]); first | done | rfl | (simp only [mD, mE]; rfl)) ?_; (with_reducible refine (laws_toStringS.calls k _ _ l4 t102 _ ?side1 ?side2 A10.out).mono ?_); (case side1 => repeat (first | exact HR4.out | (with_reducible first | apply cA | apply cN | apply cD))); (case side2 => exact HC4.out); rintro e w18 ⟨v103, rfl, ho0, hb⟩; refine ⟨_, rfl, ?_⟩; have _ := AM (Kd.R_lower ho0 (bZ (bX HB.out))); have _ := AM (below_step (bX HB.out) hb); clear HB; rename_i HO104 HB; (try clear hb); (try clear hk); (try clear ho0); obtain ⟨Ao19, co19, eo19⟩ := Kd.R_slice HO104.out; subst eo19) | ((with_reducible refine gate_callee (f := 15) rfl ?_); refine goesL_ (some 32) rfl rfl Tryd.func15 (by kernel_rfl) rfl #[.string a0, .int .i64 a1, .int .i64 a2, .string a3, .slice Ao19 t102.length co19] rfl (by (try simp only [mA, mB, mC]); first | done | rfl | (simp only [mD, mE]; rfl)) ?_; (with_reducible refine (spec_VectorGood.calls k a0 a1 a2 a3 _ _ t102 t105 _ ?side1 ?side2 A11.out).mono ?_); (case side1 => repeat (first | exact (Kd.R_reads' HO104.out).2.2 | (with_reducible first | apply cA | apply cN | apply cD))); (case side2 => exact (Kd.R_reads' HO104.out).2.1); rintro e w20 ⟨rfl, hb⟩; refine ⟨_, rfl, ?_⟩; have _ := AM (Kd.R_below (rX HO104.out) hb); have _ := AM (below_step (bX HB.out) hb); clear HO104 HB; rename_i HO104 HB; (try clear hb); (try clear hk)) | ((with_reducible refine gate_callee (f := 16) rfl ?_); refine goesL_ (some 34) rfl rfl Tryd.func16 (by kernel_rfl) rfl #[.slice A4 l4.length c4] rfl (by (try simp only [mA, mB, mC]); first | done | rfl | (simp only [mD, mE]; rfl)) ?_; (with_reducible refine (laws_toStringS.calls k _ _ l4 t106 _ ?side1 ?side2 A12.out).mono ?_); (case side1 => repeat (first | exact (cB HR4.out HB.out) | (with_reducible first | apply cA | apply cN | apply cD))); (case side2 => exact HC4.out); rintro e w21 ⟨v107, rfl, ho0, hb⟩; refine ⟨_, rfl, ?_⟩; have _ := AM (Kd.R_elder' (rX HO104.out) (Kd.R_base ho0) hb); have _ := AM (Kd.R_lower (Kd.R_new' ho0 (Kd.R_lt (rX HO104.out))) (bZ (bX HB.out))); have _ := AM (below_step (bX HB.out) hb); clear HO104 HB; rename_i HO104 HO108 HB; (try clear hb); (try clear hk); (try clear ho0); obtain ⟨Ao22, co22, eo22⟩ := Kd.R_slice HO108.out; subst eo22) | ((with_reducible refine gate_callee (f := 17) rfl ?_); refine goesL_ (some 40) rfl rfl Tryd.func17 (by kernel_rfl) rfl #[.string a0, .int .i64 a1, .int .i64 a2, .string a3, .slice Ao22 t106.length co22] rfl (by (try simp only [mA, mB, mC]); first | done | rfl | (simp only [mD, mE]; rfl)) ?_; (with_reducible refine (impl_VectorGood.calls k a0 a1 a2 a3 _ _ t106 t109 _ ?side1 ?side2 ?sideT A13.out).mono ?_); (case sideT => exact tabB TAB.out (bX HB.out)); (case side1 => repeat (first | exact (Kd.R_reads' HO108.out).2.2 | (with_reducible first | apply cA | apply cN | apply cD))); (case side2 => exact (Kd.R_reads' HO108.out).2.1); rintro e w23 ⟨rfl, hb⟩; refine ⟨_, rfl, ?_⟩; have _ := AM (Kd.R_below (rX HO104.out) hb); have _ := AM (Kd.R_below (rX HO108.out) hb); have _ := AM (below_step (bX HB.out) hb); clear HO104 HO108 HB; rename_i HO104 HO108 HB; (try clear hb); (try clear hk)) | ((with_reducible refine gate_callee (f := 16) rfl ?_); refine goesL_ (some 46) rfl rfl Tryd.func16 (by kernel_rfl) rfl #[.slice A4 l4.length c4] rfl (by (try simp only [mA, mB, mC]); first | done | rfl | (simp only [mD, mE]; rfl)) ?_; (with_reducible refine (laws_toStringS.calls k _ _ l4 t110 _ ?side1 ?side2 A15.out).mono ?_); (case side1 => repeat (first | exact (cB HR4.out HB.out) | (with_reducible first | apply cA | apply cN | apply cD))); (case side2 => exact HC4.out); rintro e w24 ⟨v111, rfl, ho0, hb⟩; refine ⟨_, rfl, ?_⟩; have _ := AM (Kd.R_elder' (rX HO104.out) (Kd.R_base ho0) hb); have _ := AM (Kd.R_elder' (rX HO108.out) (Kd.R_base ho0) hb); have _ := AM (Kd.R_lower (Kd.R_new' (Kd.R_new' ho0 (Kd.R_lt (rX HO104.out))) (Kd.R_lt (rX HO108.out))) (bZ (bX HB.out))); have _ := AM (below_step (bX HB.out) hb); clear HO104 HO108 HB; rename_i HO104 HO108 HO112 HB; (try clear hb); (try clear hk); (try clear ho0); obtain ⟨Ao25, co25, eo25⟩ := Kd.R_slice HO112.out; subst eo25) | ((with_reducible refine gate_callee (f := 11) rfl ?_); refine goesL_ (some 47) rfl rfl Tryd.func11 (by kernel_rfl) rfl #[.slice Ao22 t106.length co22, .slice Ao25 t110.length co25] rfl (by (try simp only [mA, mB, mC]); first | done | rfl | (simp only [mD, mE]; rfl)) ?_; (with_reducible refine (laws_eqStringS.calls k _ _ t106 _ _ t110 true _ ?side1 ?side2 ?side3 ?side4 A16.out).mono ?_); (case side1 => repeat (first | exact (Kd.R_reads' HO108.out).2.2 | (with_reducible first | apply cA | apply cN | apply cD))); (case side2 => exact (Kd.R_reads' HO108.out).2.1); (case side3 => repeat (first | exact (Kd.R_reads' HO112.out).2.2 | (with_reducible first | apply cA | apply cN | apply cD))); (case side4 => exact (Kd.R_reads' HO112.out).2.1); rintro e w' ⟨rfl, ⟨nd, rfl⟩⟩; refine ⟨_, rfl, ?_⟩))
  go_ret
  exact ⟨by first | rfl | (simp [*, errW_none, errW_some] <;> rfl), bX HB.out⟩
 replace c17 := Bool.eq_false_iff.mpr c17
 subst c17
 have H1 : (none) = some r := by rw [if_neg (show ¬ (false = true) by decide)] at H; exact H
 clear H
 have H := H1
 clear H1
 exact absurd H (by simp)

end Go.Proofs.YtgpgamapopnfcaaDoor.Q
