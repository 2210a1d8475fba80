/- Printed by a program of this session (wip/mp.py over the kit's print.py): functions of the translation as plain Lean functions, and that the machine's calls do what these say. -/
import Derived.Test.YtgpgamapopnfcaaDoorQx0
import Derived.Test.YtgpgamapopnfcaaDoorQx2
import Derived.Test.YtgpgamapopnfcaaDoorQx3
import Derived.Test.YtgpgamapopnfcaaDoorQx13
import Derived.Test.YtgpgamapopnfcaaDoorQx17
namespace Go.Proofs.YtgpgamapopnfcaaDoor.Q
open Go.RowKit Go.Proofs.YtgpgamapopnfcaaDoor.HB Go.Proofs.YtgpgamapopnfcaaDoorW.PrintWords Go.Proofs.YtgpgamapopnfcaaDoorW.PrintLast Go.Proofs.YtgpgamapopnfcaaDoorW.PrintMore
attribute [local go_sem] max2_int min2_int max_two min_two max_three min_three max_four min_four   -- for this text's walks alone
set_option linter.unusedVariables false
set_option linter.unusedSimpArgs false

/-! ### laws_FnExactVector: function 4 -/

def laws_FnExactVector.f (k : Nat) (a0 : ByteArray) (a1 : Int) (a2 : ByteArray) : Option (Bool) := if (a0.size : Int) > 1048576 then (some true) else (if (a2.size : Int) > 1048576 then (some true) else ((spec_Vector.f k a0 a1 a2).bind fun t101 => ((impl_Vector.f k a0 a1 a2).bind fun t104 => ((laws_eqStringS.f k t104 t101).bind fun t107 => (if t107 = true then ((laws_markStringS.f k t104 1).bind fun bt108 => ((laws_heldStringS.f k bt108.2 1).bind fun t110 => (if t110 < 0 then (none) else (if t110 = bt108.1 then ((impl_Vector.f k a0 a1 a2).bind fun t111 => ((laws_eqStringS.f k t111 t101).bind fun t114 => (if t114 = true then ((laws_heldStringS.f k bt108.2 1).bind fun t115 => (if t115 < 0 then (none) else (if t115 = bt108.1 then (some true) else (none)))) else (none)))) else (none))))) else (none))))))
theorem laws_FnExactVector.mono : ∀ a0 a1 a2 k, LeO (laws_FnExactVector.f k a0 a1 a2) (laws_FnExactVector.f (k + 1) a0 a1 a2) := by
  intro a0 a1 a2 k
  unfold laws_FnExactVector.f
  repeat' first
      | (with_reducible exact impl_Vector.mono _ _ _ _)
      | (with_reducible exact laws_eqStringS.mono _ _ _)
      | (with_reducible exact laws_heldStringS.mono _ _ _)
      | (with_reducible exact laws_markStringS.mono _ _ _)
      | (with_reducible exact spec_Vector.mono _ _ _ _)
      | (with_reducible exact LeO.refl _)
      | (with_reducible exact LeO.none _)
      | (with_reducible refine LeO.ite ?_ ?_)
      | (with_reducible refine LeO.bind ?_ (fun _ => ?_))
      | exact impl_Vector.mono _ _ _ _
      | exact laws_eqStringS.mono _ _ _
      | exact laws_heldStringS.mono _ _ _
      | exact laws_markStringS.mono _ _ _
      | exact spec_Vector.mono _ _ _ _
      | exact LeO.none _
      | refine LeO.ite ?_ ?_
      | refine LeO.bind ?_ (fun _ => ?_)
set_option maxHeartbeats 60000000 in
set_option maxRecDepth 100000 in
theorem laws_FnExactVector.calls (k : Nat) (a0 : ByteArray) (a1 : Int) (a2 : ByteArray) (r : Bool) (w : World) (hT : Tab w) (h : laws_FnExactVector.f k a0 a1 a2 = some r) :
    Calls Tryd.prog 4 #[.string a0, .int .i64 a1, .string a2] w fun e w' => e = .returned (.bool r) ∧ Below w.heap.size w w' := by
 have TAB := AM hT
 clear hT
 have HB := AM (Below.refl w.heap.size w)
 have H : (if (a0.size : Int) > 1048576 then (some true) else (if (a2.size : Int) > 1048576 then (some true) else ((spec_Vector.f k a0 a1 a2).bind fun t101 => ((impl_Vector.f k a0 a1 a2).bind fun t104 => ((laws_eqStringS.f k t104 t101).bind fun t107 => (if t107 = true then ((laws_markStringS.f k t104 1).bind fun bt108 => ((laws_heldStringS.f k bt108.2 1).bind fun t110 => (if t110 < 0 then (none) else (if t110 = bt108.1 then ((impl_Vector.f k a0 a1 a2).bind fun t111 => ((laws_eqStringS.f k t111 t101).bind fun t114 => (if t114 = true then ((laws_heldStringS.f k bt108.2 1).bind fun t115 => (if t115 < 0 then (none) else (if t115 = bt108.1 then (some true) else (none)))) else (none)))) else (none))))) else (none))))))) = some r := h
 clear h
 by_cases c4 : (a0.size : Int) > 1048576
 ·
  rw [if_pos c4] at H
  have c4b0 : decide (1048576 < (a0.size : Int)) = true := decide_eq_true c4
  have c4b1 : decide (1048576 < a0.size) = true := decide_eq_true (by omega)
  clear c4
  obtain rfl := Option.some.inj H
  go_enter Tryd.func4, Tryd.ntmps4
  go_wp2
  go_ret
  exact ⟨by first | rfl | (simp [*, errW_none, errW_some] <;> rfl), bX HB.out⟩
 rw [if_neg c4] at H
 have c4b0 : decide (1048576 < (a0.size : Int)) = false := decide_eq_false c4
 have c4b1 : decide (1048576 < a0.size) = false := decide_eq_false (by omega)
 clear c4
 by_cases c5 : (a2.size : Int) > 1048576
 ·
  rw [if_pos c5] at H
  have c5b0 : decide (1048576 < (a2.size : Int)) = true := decide_eq_true c5
  have c5b1 : decide (1048576 < a2.size) = true := decide_eq_true (by omega)
  clear c5
  obtain rfl := Option.some.inj H
  go_enter Tryd.func4, Tryd.ntmps4
  go_wp2
  go_ret
  exact ⟨by first | rfl | (simp [*, errW_none, errW_some] <;> rfl), bX HB.out⟩
 rw [if_neg c5] at H
 have c5b0 : decide (1048576 < (a2.size : Int)) = false := decide_eq_false c5
 have c5b1 : decide (1048576 < a2.size) = false := decide_eq_false (by omega)
 clear c5
 replace H := Option.bind_eq_some_iff.mp H
 obtain ⟨t101, A60, H⟩ := H
 replace H : ((impl_Vector.f k a0 a1 a2).bind fun t104 => ((laws_eqStringS.f k t104 t101).bind fun t107 => (if t107 = true then ((laws_markStringS.f k t104 1).bind fun bt108 => ((laws_heldStringS.f k bt108.2 1).bind fun t110 => (if t110 < 0 then (none) else (if t110 = bt108.1 then ((impl_Vector.f k a0 a1 a2).bind fun t111 => ((laws_eqStringS.f k t111 t101).bind fun t114 => (if t114 = true then ((laws_heldStringS.f k bt108.2 1).bind fun t115 => (if t115 < 0 then (none) else (if t115 = bt108.1 then (some true) else (none)))) else (none)))) else (none))))) else (none)))) = some r := H
 have A6 := AM A60
 clear A60
 replace H := Option.bind_eq_some_iff.mp H
 obtain ⟨t104, A70, H⟩ := H
 replace H : ((laws_eqStringS.f k t104 t101).bind fun t107 => (if t107 = true then ((laws_markStringS.f k t104 1).bind fun bt108 => ((laws_heldStringS.f k bt108.2 1).bind fun t110 => (if t110 < 0 then (none) else (if t110 = bt108.1 then ((impl_Vector.f k a0 a1 a2).bind fun t111 => ((laws_eqStringS.f k t111 t101).bind fun t114 => (if t114 = true then ((laws_heldStringS.f k bt108.2 1).bind fun t115 => (if t115 < 0 then (none) else (if t115 = bt108.1 then (some true) else (none)))) else (none)))) else (none))))) else (none))) = some r := H
 have A7 := AM A70
 clear A70
 replace H := Option.bind_eq_some_iff.mp H
 obtain ⟨t107, A80, H⟩ := H
 replace H : (if t107 = true then ((laws_markStringS.f k t104 1).bind fun bt108 => ((laws_heldStringS.f k bt108.2 1).bind fun t110 => (if t110 < 0 then (none) else (if t110 = bt108.1 then ((impl_Vector.f k a0 a1 a2).bind fun t111 => ((laws_eqStringS.f k t111 t101).bind fun t114 => (if t114 = true then ((laws_heldStringS.f k bt108.2 1).bind fun t115 => (if t115 < 0 then (none) else (if t115 = bt108.1 then (some true) else (none)))) else (none)))) else (none))))) else (none)) = some r := H
 have A8 := AM A80
 clear A80
 by_cases c9 : t107 = true
 ·
  subst c9
  have H1 : ((laws_markStringS.f k t104 1).bind fun bt108 => ((laws_heldStringS.f k bt108.2 1).bind fun t110 => (if t110 < 0 then (none) else (if t110 = bt108.1 then ((impl_Vector.f k a0 a1 a2).bind fun t111 => ((laws_eqStringS.f k t111 t101).bind fun t114 => (if t114 = true then ((laws_heldStringS.f k bt108.2 1).bind fun t115 => (if t115 < 0 then (none) else (if t115 = bt108.1 then (some true) else (none)))) else (none)))) else (none))))) = some r := by rw [if_pos rfl] at H; exact H
  clear H
  have H := H1
  clear H1
  replace H := Option.bind_eq_some_iff.mp H
  obtain ⟨⟨t108, t109⟩, A100, H⟩ := H
  try dsimp only at H
  have A10 := AM A100
  clear A100
  replace H := Option.bind_eq_some_iff.mp H
  obtain ⟨t110, A110, H⟩ := H
  replace H : (if t110 < 0 then (none) else (if t110 = t108 then ((impl_Vector.f k a0 a1 a2).bind fun t111 => ((laws_eqStringS.f k t111 t101).bind fun t114 => (if t114 = true then ((laws_heldStringS.f k t109 1).bind fun t115 => (if t115 < 0 then (none) else (if t115 = t108 then (some true) else (none)))) else (none)))) else (none))) = some r := H
  have A11 := AM A110
  clear A110
  by_cases c12 : t110 < 0
  ·
   rw [if_pos c12] at H
   exact absurd H (by simp)
  rw [if_neg c12] at H
  have c12b0 : decide (t110 < 0) = false := decide_eq_false c12
  clear c12
  by_cases c13 : t110 = t108
  ·
   rw [if_pos c13] at H
   have c13b0 : (t110 == t108) = true := beq_iff_eq.mpr c13
   have c13b1 : (t110 != t108) = false := bne_eq_false_iff_eq.mpr c13
   clear c13
   replace H := Option.bind_eq_some_iff.mp H
   obtain ⟨t111, A140, H⟩ := H
   replace H : ((laws_eqStringS.f k t111 t101).bind fun t114 => (if t114 = true then ((laws_heldStringS.f k t109 1).bind fun t115 => (if t115 < 0 then (none) else (if t115 = t108 then (some true) else (none)))) else (none))) = some r := H
   have A14 := AM A140
   clear A140
   replace H := Option.bind_eq_some_iff.mp H
   obtain ⟨t114, A150, H⟩ := H
   replace H : (if t114 = true then ((laws_heldStringS.f k t109 1).bind fun t115 => (if t115 < 0 then (none) else (if t115 = t108 then (some true) else (none)))) else (none)) = some r := H
   have A15 := AM A150
   clear A150
   by_cases c16 : t114 = true
   ·
    subst c16
    have H1 : ((laws_heldStringS.f k t109 1).bind fun t115 => (if t115 < 0 then (none) else (if t115 = t108 then (some true) else (none)))) = some r := by rw [if_pos rfl] at H; exact H
    clear H
    have H := H1
    clear H1
    replace H := Option.bind_eq_some_iff.mp H
    obtain ⟨t115, A170, H⟩ := H
    replace H : (if t115 < 0 then (none) else (if t115 = t108 then (some true) else (none))) = some r := H
    have A17 := AM A170
    clear A170
    by_cases c18 : t115 < 0
    ·
     rw [if_pos c18] at H
     exact absurd H (by simp)
    rw [if_neg c18] at H
    have c18b0 : decide (t115 < 0) = false := decide_eq_false c18
    clear c18
    by_cases c19 : t115 = t108
    ·
     rw [if_pos c19] at H
     have c19b0 : (t115 == t108) = true := beq_iff_eq.mpr c19
     have c19b1 : (t115 != t108) = false := bne_eq_false_iff_eq.mpr c19
     clear c19
     obtain rfl := Option.some.inj H
     go_enter Tryd.func4, Tryd.ntmps4
     go_wp2_with (first | ((with_reducible refine gate_callee (f := 9) rfl ?_); refine goesL_ (some 21) rfl rfl Tryd.func9 (by kernel_rfl) rfl #[.string a0, .int .i64 a1, .string a2] rfl (by (try simp only [mA, mB, mC]); first | done | rfl | (simp only [mD, mE]; rfl)) ?_; (with_reducible refine (spec_Vector.calls k a0 a1 a2 t101 _ A6.out).mono ?_); rintro e w20 ⟨v102, rfl, ho0, hb⟩; refine ⟨_, rfl, ?_⟩; have _ := AM (Kd.R_lower ho0 (bZ (bX HB.out))); have _ := AM (below_step (bX HB.out) hb); clear HB; rename_i HO103 HB; (try clear hb); (try clear hk); (try clear ho0)) | ((with_reducible refine gate_callee (f := 10) rfl ?_); refine goesL_ (some 25) rfl rfl Tryd.func10 (by kernel_rfl) rfl #[.string a0, .int .i64 a1, .string a2] rfl (by (try simp only [mA, mB, mC]); first | done | rfl | (simp only [mD, mE]; rfl)) ?_; (with_reducible refine (impl_Vector.calls k a0 a1 a2 t104 _ ?sideT A7.out).mono ?_); (case sideT => exact tabB TAB.out (bX HB.out)); rintro e w21 ⟨v105, rfl, ho0, hb⟩; refine ⟨_, rfl, ?_⟩; have _ := AM (Kd.R_elder' (rX HO103.out) (Kd.R_base ho0) hb); have _ := AM (Kd.R_lower (Kd.R_new' ho0 (Kd.R_lt (rX HO103.out))) (bZ (bX HB.out))); have _ := AM (below_step (bX HB.out) hb); clear HO103 HB; rename_i HO103 HO106 HB; (try clear hb); (try clear hk); (try clear ho0); obtain ⟨Ao22, co22, eo22⟩ := Kd.R_slice HO106.out; subst eo22; obtain ⟨Ao23, co23, eo23⟩ := Kd.R_slice HO103.out; subst eo23) | ((with_reducible refine gate_callee (f := 11) rfl ?_); refine goesL_ (some 28) rfl rfl Tryd.func11 (by kernel_rfl) rfl #[.slice Ao22 t104.length co22, .slice Ao23 t101.length co23] rfl (by (try simp only [mA, mB, mC]); first | done | rfl | (simp only [mD, mE]; rfl)) ?_; (with_reducible refine (laws_eqStringS.calls k _ _ t104 _ _ t101 true _ ?side1 ?side2 ?side3 ?side4 A8.out).mono ?_); (case side1 => repeat (first | exact (Kd.R_reads' HO106.out).2.2 | (with_reducible first | apply cA | apply cN | apply cD))); (case side2 => exact (Kd.R_reads' HO106.out).2.1); (case side3 => repeat (first | exact (Kd.R_reads' HO103.out).2.2 | (with_reducible first | apply cA | apply cN | apply cD))); (case side4 => exact (Kd.R_reads' HO103.out).2.1); rintro e w' ⟨rfl, ⟨nd, rfl⟩⟩; refine ⟨_, rfl, ?_⟩) | ((with_reducible refine gate_callee (f := 12) rfl ?_); refine goesL_ (some 32) rfl rfl Tryd.func12 (by kernel_rfl) rfl #[.slice Ao22 t104.length co22, .int .i64 1] rfl (by (try simp only [mA, mB, mC]); first | done | rfl | (simp only [mD, mE]; rfl)) ?_; (with_reducible refine (laws_markStringS.calls k (fun k_ => some k_ = (.slice Ao22 t104.length co22 : Value).ownBlock) (.slice Ao22 t104.length co22) t104 1 t108 t109 w _ ?side1 ?side2 A10.out).mono ?_); (case side1 => exact (bX HB.out)); (case side2 => exact Kd.R_tight rfl HO106.out); rintro e w24 ⟨rfl, hy0, hb, hkp⟩; refine ⟨_, rfl, ?_⟩; have _ := AM (Kd.R_mono (ok' := fun k_ => some k_ ≠ (.slice Ao22 t104.length co22 : Value).ownBlock) (Kd.R_keptB (HO103.out) hkp (fun k_ hk_ hs_ => (hk_.2) hs_)) (fun k_ hk_ => hk_.1.2)); have _ := AM (Kd.R_reok rfl hy0 (fun k_ e_ => HO106.out.1 k_ e_)); have _ := AM (hb); clear HO103 HO106 HB; rename_i HO103 HO106 HB; (try clear hb); (try clear hkp); (try clear hy0)) | ((with_reducible refine gate_callee (f := 13) rfl ?_); refine goesL_ (some 35) rfl rfl Tryd.func13 (by kernel_rfl) rfl #[.slice Ao22 t109.length co22, .int .i64 1] rfl (by (try simp only [mA, mB, mC]); first | done | (rw [show t109.length = t104.length from (Kd.R_reads' HO106.out).1.symm] <;> rfl) | rfl | (simp only [mD, mE]; rfl)) ?_; (with_reducible refine (laws_heldStringS.calls k _ _ t109 1 t110 _ ?side1 ?side2 A11.out).mono ?_); (case side1 => repeat (first | exact (Kd.R_reads' HO106.out).2.2 | (with_reducible first | apply cA | apply cN | apply cD))); (case side2 => rw [show t109.length = t104.length from (Kd.R_reads' HO106.out).1.symm]; exact (Kd.R_reads' HO106.out).2.1); rintro e w25 ⟨rfl, hb⟩; refine ⟨_, rfl, ?_⟩; have _ := AM (Kd.R_below (rX HO103.out) hb); have _ := AM (Kd.R_below (rX HO106.out) hb); have _ := AM (below_step (bX HB.out) hb); clear HO103 HO106 HB; rename_i HO103 HO106 HB; (try clear hb); (try clear hk)) | ((with_reducible refine gate_callee (f := 10) rfl ?_); refine goesL_ (some 44) rfl rfl Tryd.func10 (by kernel_rfl) rfl #[.string a0, .int .i64 a1, .string a2] rfl (by (try simp only [mA, mB, mC]); first | done | rfl | (simp only [mD, mE]; rfl)) ?_; (with_reducible refine (impl_Vector.calls k a0 a1 a2 t111 _ ?sideT A14.out).mono ?_); (case sideT => exact tabB TAB.out (bX HB.out)); rintro e w26 ⟨v112, rfl, ho0, hb⟩; refine ⟨_, rfl, ?_⟩; have _ := AM (Kd.R_elder' (rX HO103.out) (Kd.R_base ho0) hb); have _ := AM (Kd.R_elder' (rX HO106.out) (Kd.R_base ho0) hb); have _ := AM (Kd.R_lower (Kd.R_new' (Kd.R_new' ho0 (Kd.R_lt (rX HO103.out))) (Kd.R_lt (rX HO106.out))) (bZ (bX HB.out))); have _ := AM (below_step (bX HB.out) hb); clear HO103 HO106 HB; rename_i HO103 HO106 HO113 HB; (try clear hb); (try clear hk); (try clear ho0); obtain ⟨Ao27, co27, eo27⟩ := Kd.R_slice HO113.out; subst eo27) | ((with_reducible refine gate_callee (f := 11) rfl ?_); refine goesL_ (some 47) rfl rfl Tryd.func11 (by kernel_rfl) rfl #[.slice Ao27 t111.length co27, .slice Ao23 t101.length co23] rfl (by (try simp only [mA, mB, mC]); first | done | rfl | (simp only [mD, mE]; rfl)) ?_; (with_reducible refine (laws_eqStringS.calls k _ _ t111 _ _ t101 true _ ?side1 ?side2 ?side3 ?side4 A15.out).mono ?_); (case side1 => repeat (first | exact (Kd.R_reads' HO113.out).2.2 | (with_reducible first | apply cA | apply cN | apply cD))); (case side2 => exact (Kd.R_reads' HO113.out).2.1); (case side3 => repeat (first | exact (Kd.R_reads' HO103.out).2.2 | (with_reducible first | apply cA | apply cN | apply cD))); (case side4 => exact (Kd.R_reads' HO103.out).2.1); rintro e w' ⟨rfl, ⟨nd, rfl⟩⟩; refine ⟨_, rfl, ?_⟩) | ((with_reducible refine gate_callee (f := 13) rfl ?_); refine goesL_ (some 51) rfl rfl Tryd.func13 (by kernel_rfl) rfl #[.slice Ao22 t109.length co22, .int .i64 1] rfl (by (try simp only [mA, mB, mC]); first | done | (rw [show t109.length = t104.length from (Kd.R_reads' HO106.out).1.symm] <;> rfl) | rfl | (simp only [mD, mE]; rfl)) ?_; (with_reducible refine (laws_heldStringS.calls k _ _ t109 1 t115 _ ?side1 ?side2 A17.out).mono ?_); (case side1 => repeat (first | exact (Kd.R_reads' HO106.out).2.2 | (with_reducible first | apply cA | apply cN | apply cD))); (case side2 => rw [show t109.length = t104.length from (Kd.R_reads' HO106.out).1.symm]; exact (Kd.R_reads' HO106.out).2.1); rintro e w28 ⟨rfl, hb⟩; refine ⟨_, rfl, ?_⟩; have _ := AM (Kd.R_below (rX HO103.out) hb); have _ := AM (Kd.R_below (rX HO106.out) hb); have _ := AM (Kd.R_below (rX HO113.out) hb); have _ := AM (below_step (bX HB.out) hb); clear HO103 HO106 HO113 HB; rename_i HO103 HO106 HO113 HB; (try clear hb); (try clear hk)))
     go_ret
     exact ⟨by first | rfl | (simp [*, errW_none, errW_some] <;> rfl), bX HB.out⟩
    rw [if_neg c19] at H
    exact absurd H (by simp)
   replace c16 := Bool.eq_false_iff.mpr c16
   subst c16
   have H1 : (none) = some r := by rw [if_neg (show ¬ (false = true) by decide)] at H; exact H
   clear H
   have H := H1
   clear H1
   exact absurd H (by simp)
  rw [if_neg c13] at H
  exact absurd H (by simp)
 replace c9 := Bool.eq_false_iff.mpr c9
 subst c9
 have H1 : (none) = some r := by rw [if_neg (show ¬ (false = true) by decide)] at H; exact H
 clear H
 have H := H1
 clear H1
 exact absurd H (by simp)

end Go.Proofs.YtgpgamapopnfcaaDoor.Q
