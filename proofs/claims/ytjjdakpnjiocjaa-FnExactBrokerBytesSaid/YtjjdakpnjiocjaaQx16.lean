/- Printed by a program of this session (wip/mp.py over the kit's print.py): functions of the translation as plain Lean functions, and that the machine's calls do what these say. -/
import Derived.Test.YtjjdakpnjiocjaaQx0
import Derived.Test.YtjjdakpnjiocjaaQx1
import Derived.Test.YtjjdakpnjiocjaaQx4
import Derived.Test.YtjjdakpnjiocjaaQx10
import Derived.Test.YtjjdakpnjiocjaaQx14
import Derived.Test.YtjjdakpnjiocjaaQx15
namespace Go.Proofs.Ytjjdakpnjiocjaa.Q
open Go.RowKit Go.Proofs.Ytjjdakpnjiocjaa.HB Go.Proofs.YtjjdakpnjiocjaaW.PrintWords Go.Proofs.YtjjdakpnjiocjaaW.PrintLast Go.Proofs.YtjjdakpnjiocjaaW.PrintMore
attribute [local go_sem] max2_int min2_int max_two min_two max_three min_three max_four min_four   -- for this text's walks alone
set_option linter.unusedVariables false
set_option linter.unusedSimpArgs false

/-! ### laws_FnExactBrokerBytes: function 5 -/

def laws_FnExactBrokerBytes.f (k : Nat) (l0_0 : List (S73)) (l0_1 : List (S75)) : Option (Bool) := (laws_szBroker.f k l0_0 l0_1 1048576).bind fun t102 => (if t102 < 0 then (some true) else ((laws_toBroker.f k l0_0 l0_1).bind fun bt103 => ((spec_BrokerBytes.f k bt103.1 bt103.2).bind fun t109 => ((laws_toBroker.f k l0_0 l0_1).bind fun bt110 => ((impl_BrokerBytes.f k bt110.1 bt110.2).bind fun t117 => (if t117.toList = t109.toList then ((laws_toBroker.f k l0_0 l0_1).bind fun bt118 => ((laws_eqBroker.f k bt110.1 bt110.2 bt118.1 bt118.2).bind fun t124 => (if t124 = true then (some true) else (none)))) else (none)))))))
theorem laws_FnExactBrokerBytes.mono : ∀ a0 a1 k, LeO (laws_FnExactBrokerBytes.f k a0 a1) (laws_FnExactBrokerBytes.f (k + 1) a0 a1) := by
  intro a0 a1 k
  unfold laws_FnExactBrokerBytes.f
  repeat' first
      | (with_reducible exact impl_BrokerBytes.mono _ _ _)
      | (with_reducible exact laws_eqBroker.mono _ _ _ _ _)
      | (with_reducible exact laws_szBroker.mono _ _ _ _)
      | (with_reducible exact laws_toBroker.mono _ _ _)
      | (with_reducible exact spec_BrokerBytes.mono _ _ _)
      | (with_reducible exact LeO.refl _)
      | (with_reducible exact LeO.none _)
      | (with_reducible refine LeO.ite ?_ ?_)
      | (with_reducible refine LeO.bind ?_ (fun _ => ?_))
      | exact impl_BrokerBytes.mono _ _ _
      | exact laws_eqBroker.mono _ _ _ _ _
      | exact laws_szBroker.mono _ _ _ _
      | exact laws_toBroker.mono _ _ _
      | exact spec_BrokerBytes.mono _ _ _
      | exact LeO.none _
      | refine LeO.ite ?_ ?_
      | refine LeO.bind ?_ (fun _ => ?_)
set_option maxHeartbeats 60000000 in
set_option maxRecDepth 100000 in
theorem laws_FnExactBrokerBytes.calls (k : Nat) (A0_0 : Option Addr) (c0_0 : Nat) (l0_0 : List (S73)) (A0_1 : Option Addr) (c0_1 : Nat) (l0_1 : List (S75)) (r : Bool) (w : World) (hr0_0 : Kd.C k73 w A0_0 l0_0.length l0_0) (hc0_0 : l0_0.length ≤ c0_0) (hr0_1 : Kd.C k75 w A0_1 l0_1.length l0_1) (hc0_1 : l0_1.length ≤ c0_1) (h : laws_FnExactBrokerBytes.f k l0_0 l0_1 = some r) :
    Calls Try.prog 5 #[.agg #[.slice A0_0 l0_0.length c0_0, .slice A0_1 l0_1.length c0_1]] w fun e w' => e = .returned (.bool r) ∧ Below w.heap.size w w' := by
 have hu25 := Try.underlying25
 have hu31 := Try.underlying31
 have HR0_0 := AM hr0_0
 have HC0_0 := AM hc0_0
 clear hr0_0 hc0_0
 have HR0_1 := AM hr0_1
 have HC0_1 := AM hc0_1
 clear hr0_1 hc0_1
 have HB := AM (Below.refl w.heap.size w)
 have H : ((laws_szBroker.f k l0_0 l0_1 1048576).bind fun t102 => (if t102 < 0 then (some true) else ((laws_toBroker.f k l0_0 l0_1).bind fun bt103 => ((spec_BrokerBytes.f k bt103.1 bt103.2).bind fun t109 => ((laws_toBroker.f k l0_0 l0_1).bind fun bt110 => ((impl_BrokerBytes.f k bt110.1 bt110.2).bind fun t117 => (if t117.toList = t109.toList then ((laws_toBroker.f k l0_0 l0_1).bind fun bt118 => ((laws_eqBroker.f k bt110.1 bt110.2 bt118.1 bt118.2).bind fun t124 => (if t124 = true then (some true) else (none)))) else (none)))))))) = some r := h
 clear h
 replace H := Option.bind_eq_some_iff.mp H
 obtain ⟨t102, A20, H⟩ := H
 replace H : (if t102 < 0 then (some true) else ((laws_toBroker.f k l0_0 l0_1).bind fun bt103 => ((spec_BrokerBytes.f k bt103.1 bt103.2).bind fun t109 => ((laws_toBroker.f k l0_0 l0_1).bind fun bt110 => ((impl_BrokerBytes.f k bt110.1 bt110.2).bind fun t117 => (if t117.toList = t109.toList then ((laws_toBroker.f k l0_0 l0_1).bind fun bt118 => ((laws_eqBroker.f k bt110.1 bt110.2 bt118.1 bt118.2).bind fun t124 => (if t124 = true then (some true) else (none)))) else (none))))))) = some r := H
 have A2 := AM A20
 clear A20
 by_cases c3 : t102 < 0
 ·
  rw [if_pos c3] at H
  have c3b0 : decide (t102 < 0) = true := decide_eq_true c3
  clear c3
  obtain rfl := Option.some.inj H
  go_enter Try.func5, Try.ntmps5
  go_wp2_with (first | ((with_reducible refine gate_dst (N := 1) rfl ?_); refine box_event (by rfl) (N := 1) (by rfl) (cs := #[.slice A0_0 l0_0.length c0_0, .slice A0_1 l0_1.length c0_1]) (t := 25) (by first | (go_simp; done) | (go_simp; rfl)) ?_; intro gb101 hg w4 hbox hb; have n0_ := AM (below_step (by repeat (first | (with_reducible first | exact HB.out | apply bA | apply bN | apply bD) | exact HB.out)) hb); have n1_ := AM (hbox); have n2_ := AM ((by rw [hg]; exact (bZ (by repeat (first | (with_reducible first | exact HB.out | apply bA | apply bN | apply bD) | exact HB.out))) : w.heap.size ≤ gb101)); have n3_ := n2_; clear HB; have HB := n0_; have BK101 := n1_; have GW101 := n2_; have GE101 := n3_; clear n0_ n1_ n2_ n3_; clear hb hbox hg; have hcz5_0 : w4.cell? ⟨gb101, 0, none⟩ = some (.slice A0_0 l0_0.length c0_0) := (kC BK101.out 0).trans rfl; have hcz5_1 : w4.cell? ⟨gb101, 1, none⟩ = some (.slice A0_1 l0_1.length c0_1) := (kC BK101.out 1).trans rfl; have hfz5_0 := fZ BK101.out 0; have hfz5_1 := fZ BK101.out 1) | ((with_reducible refine gate_callee (f := 7) rfl ?_); refine goesL_ (some 9) rfl rfl Try.func7 (by kernel_rfl) rfl #[.agg #[.slice A0_0 l0_0.length c0_0, .slice A0_1 l0_1.length c0_1], .int .i64 1048576] rfl (by (try simp only [mA, mB, mC]); first | done | rfl | (simp only [mD, mE]; rfl)) ?_; (with_reducible refine (laws_szBroker.calls k _ _ l0_0 _ _ l0_1 1048576 t102 _ ?side1 ?side2 ?side3 ?side4 A2.out).mono ?_); (case side1 => repeat (first | exact (cB HR0_0.out HB.out) | (with_reducible first | apply cA | apply cN | apply cD))); (case side2 => exact HC0_0.out); (case side3 => repeat (first | exact (cB HR0_1.out HB.out) | (with_reducible first | apply cA | apply cN | apply cD))); (case side4 => exact HC0_1.out); rintro e w6 ⟨rfl, hb⟩; refine ⟨_, rfl, ?_⟩; have n0_ := AM (blk_below (g := gb101) (o := .cells #[.slice A0_0 l0_0.length c0_0, .slice A0_1 l0_1.length c0_1] 25 (0, 0)) (by (with_reducible repeat (first | apply kN | apply kD | apply kA)); exact BK101.out) hb); have n1_ := AM (below_step (by repeat (first | (with_reducible first | exact HB.out | apply bA | apply bN | apply bD | refine bS ?_ GE101.out) | exact HB.out)) hb); clear BK101; clear HB; have BK101 := n0_; have HB := n1_; clear n0_ n1_; (try clear hb); (try clear hk)))
  go_ret
  exact ⟨by first | rfl | (simp [*, errW_none, errW_some] <;> rfl), by repeat (first | (with_reducible first | exact HB.out | apply bA | apply bN | apply bD | refine bS ?_ GE101.out) | exact HB.out)⟩
 ·
  rw [if_neg c3] at H
  have c3b0 : decide (t102 < 0) = false := decide_eq_false c3
  clear c3
  replace H := Option.bind_eq_some_iff.mp H
  obtain ⟨⟨t103, t106⟩, A70, H⟩ := H
  replace H : ((spec_BrokerBytes.f k t103 t106).bind fun t109 => ((laws_toBroker.f k l0_0 l0_1).bind fun bt110 => ((impl_BrokerBytes.f k bt110.1 bt110.2).bind fun t117 => (if t117.toList = t109.toList then ((laws_toBroker.f k l0_0 l0_1).bind fun bt118 => ((laws_eqBroker.f k bt110.1 bt110.2 bt118.1 bt118.2).bind fun t124 => (if t124 = true then (some true) else (none)))) else (none))))) = some r := H
  have A7 := AM A70
  clear A70
  replace H := Option.bind_eq_some_iff.mp H
  obtain ⟨t109, A80, H⟩ := H
  replace H : ((laws_toBroker.f k l0_0 l0_1).bind fun bt110 => ((impl_BrokerBytes.f k bt110.1 bt110.2).bind fun t117 => (if t117.toList = t109.toList then ((laws_toBroker.f k l0_0 l0_1).bind fun bt118 => ((laws_eqBroker.f k bt110.1 bt110.2 bt118.1 bt118.2).bind fun t124 => (if t124 = true then (some true) else (none)))) else (none)))) = some r := H
  have A8 := AM A80
  clear A80
  replace H := Option.bind_eq_some_iff.mp H
  obtain ⟨⟨t110, t113⟩, A90, H⟩ := H
  replace H : ((impl_BrokerBytes.f k t110 t113).bind fun t117 => (if t117.toList = t109.toList then ((laws_toBroker.f k l0_0 l0_1).bind fun bt118 => ((laws_eqBroker.f k t110 t113 bt118.1 bt118.2).bind fun t124 => (if t124 = true then (some true) else (none)))) else (none))) = some r := H
  have A9 := AM A90
  clear A90
  replace H := Option.bind_eq_some_iff.mp H
  obtain ⟨t117, A100, H⟩ := H
  replace H : (if t117.toList = t109.toList then ((laws_toBroker.f k l0_0 l0_1).bind fun bt118 => ((laws_eqBroker.f k t110 t113 bt118.1 bt118.2).bind fun t124 => (if t124 = true then (some true) else (none)))) else (none)) = some r := H
  have A10 := AM A100
  clear A100
  by_cases c11 : t117.toList = t109.toList
  ·
   rw [if_pos c11] at H
   have c11b0 : (t117.toList == t109.toList) = true := beq_iff_eq.mpr c11
   have c11b1 : (t117.toList != t109.toList) = false := bne_eq_false_iff_eq.mpr c11
   clear c11
   replace H := Option.bind_eq_some_iff.mp H
   obtain ⟨⟨t118, t121⟩, A120, H⟩ := H
   replace H : ((laws_eqBroker.f k t110 t113 t118 t121).bind fun t124 => (if t124 = true then (some true) else (none))) = some r := H
   have A12 := AM A120
   clear A120
   replace H := Option.bind_eq_some_iff.mp H
   obtain ⟨t124, A130, H⟩ := H
   replace H : (if t124 = true then (some true) else (none)) = some r := H
   have A13 := AM A130
   clear A130
   by_cases c14 : t124 = true
   ·
    subst c14
    have H1 : (some true) = some r := by rw [if_pos rfl] at H; exact H
    clear H
    have H := H1
    clear H1
    obtain rfl := Option.some.inj H
    go_enter Try.func5, Try.ntmps5
    try go_wp2_with (first | ((with_reducible refine gate_dst (N := 1) rfl ?_); refine box_event (by rfl) (N := 1) (by rfl) (cs := #[.slice A0_0 l0_0.length c0_0, .slice A0_1 l0_1.length c0_1]) (t := 25) (by first | (go_simp; done) | (go_simp; rfl)) ?_; intro gb101 hg w15 hbox hb; have n0_ := AM (below_step (by repeat (first | (with_reducible first | exact HB.out | apply bA | apply bN | apply bD) | exact HB.out)) hb); have n1_ := AM (hbox); have n2_ := AM ((by rw [hg]; exact (bZ (by repeat (first | (with_reducible first | exact HB.out | apply bA | apply bN | apply bD) | exact HB.out))) : w.heap.size ≤ gb101)); have n3_ := n2_; clear HB; have HB := n0_; have BK101 := n1_; have GW101 := n2_; have GE101 := n3_; clear n0_ n1_ n2_ n3_; clear hb hbox hg; have hcz16_0 : w15.cell? ⟨gb101, 0, none⟩ = some (.slice A0_0 l0_0.length c0_0) := (kC BK101.out 0).trans rfl; have hcz16_1 : w15.cell? ⟨gb101, 1, none⟩ = some (.slice A0_1 l0_1.length c0_1) := (kC BK101.out 1).trans rfl; have hfz16_0 := fZ BK101.out 0; have hfz16_1 := fZ BK101.out 1) | ((with_reducible refine gate_callee (f := 7) rfl ?_); refine goesL_ (some 9) rfl rfl Try.func7 (by kernel_rfl) rfl #[.agg #[.slice A0_0 l0_0.length c0_0, .slice A0_1 l0_1.length c0_1], .int .i64 1048576] rfl (by (try simp only [mA, mB, mC]); first | done | rfl | (simp only [mD, mE]; rfl)) ?_; (with_reducible refine (laws_szBroker.calls k _ _ l0_0 _ _ l0_1 1048576 t102 _ ?side1 ?side2 ?side3 ?side4 A2.out).mono ?_); (case side1 => repeat (first | exact (cB HR0_0.out HB.out) | (with_reducible first | apply cA | apply cN | apply cD))); (case side2 => exact HC0_0.out); (case side3 => repeat (first | exact (cB HR0_1.out HB.out) | (with_reducible first | apply cA | apply cN | apply cD))); (case side4 => exact HC0_1.out); rintro e w17 ⟨rfl, hb⟩; refine ⟨_, rfl, ?_⟩; have n0_ := AM (blk_below (g := gb101) (o := .cells #[.slice A0_0 l0_0.length c0_0, .slice A0_1 l0_1.length c0_1] 25 (0, 0)) (by (with_reducible repeat (first | apply kN | apply kD | apply kA)); exact BK101.out) hb); have n1_ := AM (below_step (by repeat (first | (with_reducible first | exact HB.out | apply bA | apply bN | apply bD | refine bS ?_ GE101.out) | exact HB.out)) hb); clear BK101; clear HB; have BK101 := n0_; have HB := n1_; clear n0_ n1_; (try clear hb); (try clear hk); have hcz18_0 : w17.cell? ⟨gb101, 0, none⟩ = some (.slice A0_0 l0_0.length c0_0) := (kC BK101.out 0).trans rfl; have hcz18_1 : w17.cell? ⟨gb101, 1, none⟩ = some (.slice A0_1 l0_1.length c0_1) := (kC BK101.out 1).trans rfl; have hfz18_0 := fZ BK101.out 0; have hfz18_1 := fZ BK101.out 1) | ((with_reducible refine gate_callee (f := 9) rfl ?_); refine goesL_ (some 13) rfl rfl Try.func9 (by kernel_rfl) rfl #[.agg #[.slice A0_0 l0_0.length c0_0, .slice A0_1 l0_1.length c0_1]] rfl (by (try simp only [mA, mB, mC]); first | done | rfl | (simp only [mD, mE]; rfl)) ?_; (with_reducible refine (laws_toBroker.calls k _ _ l0_0 _ _ l0_1 t103 t106 _ ?side1 ?side2 ?side3 ?side4 A7.out).mono ?_); (case side1 => repeat (first | exact (cB HR0_0.out HB.out) | (with_reducible first | apply cA | apply cN | apply cD))); (case side2 => exact HC0_0.out); (case side3 => repeat (first | exact (cB HR0_1.out HB.out) | (with_reducible first | apply cA | apply cN | apply cD))); (case side4 => exact HC0_1.out); rintro e w19 ⟨v104, v107, rfl, ho0, ho1, hb⟩; refine ⟨_, rfl, ?_⟩; have n0_ := AM (Kd.S_lower ho0 (bZ (by repeat (first | (with_reducible first | exact HB.out | apply bA | apply bN | apply bD | refine bS ?_ GE101.out) | exact HB.out)))); have n1_ := AM (Kd.R_lower ho1 (bZ (by repeat (first | (with_reducible first | exact HB.out | apply bA | apply bN | apply bD | refine bS ?_ GE101.out) | exact HB.out)))); have n2_ := AM (blk_below (g := gb101) (o := .cells #[.slice A0_0 l0_0.length c0_0, .slice A0_1 l0_1.length c0_1] 25 (0, 0)) (by (with_reducible repeat (first | apply kN | apply kD | apply kA)); exact BK101.out) hb); have n3_ := AM (below_step (by repeat (first | (with_reducible first | exact HB.out | apply bA | apply bN | apply bD | refine bS ?_ GE101.out) | exact HB.out)) hb); clear BK101; clear HB; have HO105 := n0_; have HO108 := n1_; have BK101 := n2_; have HB := n3_; clear n0_ n1_ n2_ n3_; (try clear hb); (try clear hk); (try clear ho0); (try clear ho1); obtain ⟨Ao20, co20, eo20⟩ := Kd.S_slice HO105.out; subst eo20; obtain ⟨Ao21, co21, eo21⟩ := Kd.R_slice HO108.out; subst eo21) | ((with_reducible refine gate_callee (f := 15) rfl ?_); refine goesL_ (some 14) rfl rfl Try.func15 (by kernel_rfl) rfl #[.agg #[.slice Ao20 t103.length co20, .slice Ao21 t106.length co21]] rfl (by (try simp only [mA, mB, mC]); first | done | rfl | (simp only [mD, mE]; rfl)) ?_; (with_reducible refine (spec_BrokerBytes.calls k _ _ t103 _ _ t106 t109 _ ?side1 ?side2 ?side3 ?side4 A8.out).mono ?_); (case side1 => repeat (first | exact (Kd.S_reads' HO105.out).2.2 | (with_reducible first | apply cA | apply cN | apply cD))); (case side2 => exact (Kd.S_reads' HO105.out).2.1); (case side3 => repeat (first | exact (Kd.R_reads' HO108.out).2.2 | (with_reducible first | apply cA | apply cN | apply cD))); (case side4 => exact (Kd.R_reads' HO108.out).2.1); rintro e w22 ⟨rfl, hb⟩; refine ⟨_, rfl, ?_⟩; have n0_ := AM (Kd.S_below (by (with_reducible repeat (first | apply Kd.S_alloc | apply Kd.S_drewN | apply Kd.S_drew)); exact HO105.out) hb); have n1_ := AM (Kd.R_below (by (with_reducible repeat (first | apply rA | apply rN | apply rD)); exact HO108.out) hb); have n2_ := AM (blk_below (g := gb101) (o := .cells #[.slice A0_0 l0_0.length c0_0, .slice A0_1 l0_1.length c0_1] 25 (0, 0)) (by (with_reducible repeat (first | apply kN | apply kD | apply kA)); exact BK101.out) hb); have n3_ := AM (below_step (by repeat (first | (with_reducible first | exact HB.out | apply bA | apply bN | apply bD | refine bS ?_ GE101.out) | exact HB.out)) hb); clear HO105; clear HO108; clear BK101; clear HB; have HO105 := n0_; have HO108 := n1_; have BK101 := n2_; have HB := n3_; clear n0_ n1_ n2_ n3_; (try clear hb); (try clear hk); have hcz23_0 : w22.cell? ⟨gb101, 0, none⟩ = some (.slice A0_0 l0_0.length c0_0) := (kC BK101.out 0).trans rfl; have hcz23_1 : w22.cell? ⟨gb101, 1, none⟩ = some (.slice A0_1 l0_1.length c0_1) := (kC BK101.out 1).trans rfl; have hfz23_0 := fZ BK101.out 0; have hfz23_1 := fZ BK101.out 1) | ((with_reducible refine gate_callee (f := 9) rfl ?_); refine goesL_ (some 16) rfl rfl Try.func9 (by kernel_rfl) rfl #[.agg #[.slice A0_0 l0_0.length c0_0, .slice A0_1 l0_1.length c0_1]] rfl (by (try simp only [mA, mB, mC]); first | done | rfl | (simp only [mD, mE]; rfl)) ?_; (with_reducible refine (laws_toBroker.calls k _ _ l0_0 _ _ l0_1 t110 t113 _ ?side1 ?side2 ?side3 ?side4 A9.out).mono ?_); (case side1 => repeat (first | exact (cB HR0_0.out HB.out) | (with_reducible first | apply cA | apply cN | apply cD))); (case side2 => exact HC0_0.out); (case side3 => repeat (first | exact (cB HR0_1.out HB.out) | (with_reducible first | apply cA | apply cN | apply cD))); (case side4 => exact HC0_1.out); rintro e w24 ⟨v111, v114, rfl, ho0, ho1, hb⟩; refine ⟨_, rfl, ?_⟩; have n0_ := AM (Kd.S_elder' (by (with_reducible repeat (first | apply Kd.S_alloc | apply Kd.S_drewN | apply Kd.S_drew)); exact HO105.out) (Kd.S_base ho0) hb); have n1_ := AM (Kd.R_elder' (by (with_reducible repeat (first | apply rA | apply rN | apply rD)); exact HO108.out) (Kd.R_base ho1) hb); have n2_ := AM (Kd.S_lower (Kd.S_new' ho0 (Kd.S_lt (by (with_reducible repeat (first | apply Kd.S_alloc | apply Kd.S_drewN | apply Kd.S_drew)); exact HO105.out))) (bZ (by repeat (first | (with_reducible first | exact HB.out | apply bA | apply bN | apply bD | refine bS ?_ GE101.out) | exact HB.out)))); have n3_ := AM (Kd.R_lower (Kd.R_new' ho1 (Kd.R_lt (by (with_reducible repeat (first | apply rA | apply rN | apply rD)); exact HO108.out))) (bZ (by repeat (first | (with_reducible first | exact HB.out | apply bA | apply bN | apply bD | refine bS ?_ GE101.out) | exact HB.out)))); have n4_ := AM (blk_below (g := gb101) (o := .cells #[.slice A0_0 l0_0.length c0_0, .slice A0_1 l0_1.length c0_1] 25 (0, 0)) (by (with_reducible repeat (first | apply kN | apply kD | apply kA)); exact BK101.out) hb); have n5_ := AM (below_step (by repeat (first | (with_reducible first | exact HB.out | apply bA | apply bN | apply bD | refine bS ?_ GE101.out) | exact HB.out)) hb); clear HO105; clear HO108; clear BK101; clear HB; have HO105 := n0_; have HO108 := n1_; have HO112 := n2_; have HO115 := n3_; have BK101 := n4_; have HB := n5_; clear n0_ n1_ n2_ n3_ n4_ n5_; (try clear hb); (try clear hk); (try clear ho0); (try clear ho1)) | ((with_reducible refine gate_dst (N := 5) rfl ?_); refine box_event (by rfl) (N := 5) (by rfl) (cs := #[.slice none 0 0, .slice none 0 0]) (t := 31) (by first | (go_simp; done) | (go_simp; rfl)) ?_; intro gb116 hg w25 hbox hb; have n0_ := AM (Kd.S_below (by (with_reducible repeat (first | apply Kd.S_alloc | apply Kd.S_drewN | apply Kd.S_drew)); exact HO105.out) hb); have n1_ := AM (Kd.R_below (by (with_reducible repeat (first | apply rA | apply rN | apply rD)); exact HO108.out) hb); have n2_ := AM (Kd.S_below (by (with_reducible repeat (first | apply Kd.S_alloc | apply Kd.S_drewN | apply Kd.S_drew)); exact HO112.out) hb); have n3_ := AM (Kd.R_below (by (with_reducible repeat (first | apply rA | apply rN | apply rD)); exact HO115.out) hb); have n4_ := AM (blk_below (g := gb101) (o := .cells #[.slice A0_0 l0_0.length c0_0, .slice A0_1 l0_1.length c0_1] 25 (0, 0)) (by (with_reducible repeat (first | apply kN | apply kD | apply kA)); exact BK101.out) hb); have n5_ := AM (below_step (by repeat (first | (with_reducible first | exact HB.out | apply bA | apply bN | apply bD | refine bS ?_ GE101.out) | exact HB.out)) hb); have n6_ := AM (hbox); have n7_ := AM ((by rw [hg]; exact (bZ (by repeat (first | (with_reducible first | exact HB.out | apply bA | apply bN | apply bD | refine bS ?_ GE101.out) | exact HB.out))) : w.heap.size ≤ gb116)); have n8_ := n7_; have n9_ := AM ((by rw [hg]; exact Nat.ne_of_lt (blk_lt (g := gb101) (o := .cells #[.slice A0_0 l0_0.length c0_0, .slice A0_1 l0_1.length c0_1] 25 (0, 0)) (by (with_reducible repeat (first | apply kN | apply kD | apply kA)); exact BK101.out)) : gb101 ≠ gb116)); have n10_ := AM ((by rw [hg]; exact Nat.ne_of_gt (blk_lt (g := gb101) (o := .cells #[.slice A0_0 l0_0.length c0_0, .slice A0_1 l0_1.length c0_1] 25 (0, 0)) (by (with_reducible repeat (first | apply kN | apply kD | apply kA)); exact BK101.out)) : gb116 ≠ gb101)); clear HO105; clear HO108; clear HO112; clear HO115; clear BK101; clear HB; have HO105 := n0_; have HO108 := n1_; have HO112 := n2_; have HO115 := n3_; have BK101 := n4_; have HB := n5_; have BK116 := n6_; have GW116 := n7_; have GE116 := n8_; have NB101_116 := n9_; have NB116_101 := n10_; clear n0_ n1_ n2_ n3_ n4_ n5_ n6_ n7_ n8_ n9_ n10_; clear hb hbox hg; obtain ⟨Ao26, co26, eo26⟩ := Kd.S_slice HO112.out; subst eo26; have hnb27 := NB116_101.out; have hnc27 := NB101_116.out; have hcz28_0 : w25.cell? ⟨gb116, 0, none⟩ = some (.slice none 0 0) := (kC BK116.out 0).trans rfl; have hcz28_1 : w25.cell? ⟨gb116, 1, none⟩ = some (.slice none 0 0) := (kC BK116.out 1).trans rfl; have hfz28_0 := fZ BK116.out 0; have hfz28_1 := fZ BK116.out 1; obtain ⟨Ao29, co29, eo29⟩ := Kd.R_slice HO115.out; subst eo29) | ((with_reducible refine gate_callee (f := 16) rfl ?_); refine goesL_ (some 18) rfl rfl Try.func16 (by kernel_rfl) rfl #[.agg #[.slice Ao26 t110.length co26, .slice Ao29 t113.length co29]] rfl (by (try simp only [mA, mB, mC]); first | done | rfl | (simp only [mD, mE]; rfl)) ?_; (with_reducible refine (impl_BrokerBytes.calls k _ _ t110 _ _ t113 t117 _ ?side1 ?side2 ?side3 ?side4 A10.out).mono ?_); (case side1 => refine (Kd.S_reads' (e := 44) (base := w.heap.size) (ok := fun k_ => (True ∧ some k_ ≠ (.slice Ao20 t103.length co20 : Value).ownBlock)) (n := t110.length) (c := co26) ?_).2.2; exact (by (with_reducible repeat (first | apply Kd.S_alloc | apply Kd.S_drewN | apply Kd.S_drew)); exact (Kd.S_mono (Kd.S_far (p := ⟨gb116, 1, none⟩) (Kd.S_far (p := ⟨gb116, 0, none⟩) (Kd.S_types HO112.out BK116.out (by decide)) (fun _ hk => hk.2) (.slice Ao26 t110.length co26)) (fun _ hk => hk.2) (.slice Ao29 t113.length co29)) (fun _ h_ => h_.1)))); (case side2 => exact (Kd.S_reads' HO112.out).2.1); (case side3 => refine (Kd.R_reads' (e := 36) (base := w.heap.size) (ok := fun k_ => (True ∧ some k_ ≠ (.slice Ao21 t106.length co21 : Value).ownBlock)) (n := t113.length) (c := co29) ?_).2.2; exact (by (with_reducible repeat (first | apply rA | apply rN | apply rD)); exact (Kd.R_mono (Kd.R_far (p := ⟨gb116, 1, none⟩) (Kd.R_far (p := ⟨gb116, 0, none⟩) (Kd.R_types HO115.out BK116.out (by decide)) (fun _ hk => hk.2) (.slice Ao26 t110.length co26)) (fun _ hk => hk.2) (.slice Ao29 t113.length co29)) (fun _ h_ => h_.1)))); (case side4 => exact (Kd.R_reads' HO115.out).2.1); rintro e w30 ⟨rfl, hb⟩; refine ⟨_, rfl, ?_⟩; have n0_ := AM (Kd.S_below (by (with_reducible repeat (first | apply Kd.S_alloc | apply Kd.S_drewN | apply Kd.S_drew)); exact (Kd.S_mono (Kd.S_far (p := ⟨gb116, 1, none⟩) (Kd.S_far (p := ⟨gb116, 0, none⟩) (Kd.S_types HO105.out BK116.out (by decide)) (fun _ hk => hk.2) (.slice Ao26 t110.length co26)) (fun _ hk => hk.2) (.slice Ao29 t113.length co29)) (fun _ h_ => h_.1))) hb); have n1_ := AM (Kd.R_below (by (with_reducible repeat (first | apply rA | apply rN | apply rD)); exact (Kd.R_mono (Kd.R_far (p := ⟨gb116, 1, none⟩) (Kd.R_far (p := ⟨gb116, 0, none⟩) (Kd.R_types HO108.out BK116.out (by decide)) (fun _ hk => hk.2) (.slice Ao26 t110.length co26)) (fun _ hk => hk.2) (.slice Ao29 t113.length co29)) (fun _ h_ => h_.1))) hb); have n2_ := AM (Kd.S_below (by (with_reducible repeat (first | apply Kd.S_alloc | apply Kd.S_drewN | apply Kd.S_drew)); exact (Kd.S_mono (Kd.S_far (p := ⟨gb116, 1, none⟩) (Kd.S_far (p := ⟨gb116, 0, none⟩) (Kd.S_types HO112.out BK116.out (by decide)) (fun _ hk => hk.2) (.slice Ao26 t110.length co26)) (fun _ hk => hk.2) (.slice Ao29 t113.length co29)) (fun _ h_ => h_.1))) hb); have n3_ := AM (Kd.R_below (by (with_reducible repeat (first | apply rA | apply rN | apply rD)); exact (Kd.R_mono (Kd.R_far (p := ⟨gb116, 1, none⟩) (Kd.R_far (p := ⟨gb116, 0, none⟩) (Kd.R_types HO115.out BK116.out (by decide)) (fun _ hk => hk.2) (.slice Ao26 t110.length co26)) (fun _ hk => hk.2) (.slice Ao29 t113.length co29)) (fun _ h_ => h_.1))) hb); have n4_ := AM (blk_below (g := gb101) (o := .cells #[.slice A0_0 l0_0.length c0_0, .slice A0_1 l0_1.length c0_1] 25 (0, 0)) (by (with_reducible repeat (first | apply kN | apply kD | apply kA)); refine blk_far ?_ NB101_116.out _; (with_reducible repeat (first | apply kN | apply kD | apply kA)); refine blk_far ?_ NB101_116.out _; (with_reducible repeat (first | apply kN | apply kD | apply kA)); exact BK101.out) hb); have n5_ := AM (blk_below (g := gb116) (o := .cells #[.slice Ao26 t110.length co26, .slice Ao29 t113.length co29] 31 (0, 0)) (by (with_reducible repeat (first | apply kN | apply kD | apply kA)); refine blk_put (cs := #[.slice Ao26 t110.length co26, .slice none 0 0]) ?_ 1 _ rfl; (with_reducible repeat (first | apply kN | apply kD | apply kA)); refine blk_put (cs := #[.slice none 0 0, .slice none 0 0]) ?_ 0 _ rfl; (with_reducible repeat (first | apply kN | apply kD | apply kA)); exact BK116.out) hb); have n6_ := AM (below_step (by repeat (first | (with_reducible first | exact HB.out | apply bA | apply bN | apply bD | refine bS ?_ GE101.out | refine bS ?_ GE116.out) | exact HB.out)) hb); clear HO105; clear HO108; clear HO112; clear HO115; clear BK101; clear BK116; clear HB; have HO105 := n0_; have HO108 := n1_; have HO112 := n2_; have HO115 := n3_; have BK101 := n4_; have BK116 := n5_; have HB := n6_; clear n0_ n1_ n2_ n3_ n4_ n5_ n6_; (try clear hb); (try clear hk)))
    have n0_ := AM (Kd.S_drew HO105.out)
    have n1_ := AM (rD HO108.out)
    have n2_ := AM (Kd.S_drew HO112.out)
    have n3_ := AM (rD HO115.out)
    have n4_ := AM (kD BK101.out)
    have n5_ := AM (kD BK116.out)
    have n6_ := AM (bD HB.out)
    clear HO105
    clear HO108
    clear HO112
    clear HO115
    clear BK101
    clear BK116
    clear HB
    have HO105 := n0_
    have HO108 := n1_
    have HO112 := n2_
    have HO115 := n3_
    have BK101 := n4_
    have BK116 := n5_
    have HB := n6_
    clear n0_ n1_ n2_ n3_ n4_ n5_ n6_
    refine start_ (n := 5) (S := fun w' => w'.cell? ⟨gb116, 0, none⟩ = some (.slice Ao26 t110.length co26) ∧ w'.cell? ⟨gb116, 1, none⟩ = some (.slice Ao29 t113.length co29) ∧ w'.cell? ⟨gb101, 0, none⟩ = some (.slice A0_0 l0_0.length c0_0) ∧ w'.cell? ⟨gb101, 1, none⟩ = some (.slice A0_1 l0_1.length c0_1)) (ds := []) #[false, false, false, false, false] (by kernel_rfl) rfl rfl ⟨(kC BK116.out 0).trans rfl, (kC BK116.out 1).trans rfl, (kC BK101.out 0).trans rfl, (kC BK101.out 1).trans rfl⟩ (fun hHeld => ?_)
    generalize w30.drew = w31 at HO105 HO108 HO112 HO115 BK101 BK116 HB hHeld ⊢
    refine take_ (i := 0) (N := some 22) (v := ?_) (a' := ?_) #[true, false, false, false, false] rfl rfl (by kernel_rfl) (fun _ _ _ h => h) (Or.inl ⟨by rfl, ?_⟩) hHeld ?_ ?_
    rotate_left; (focus (rintro w' ⟨s0, s1, s2, s3⟩; go_simp; with_reducible rfl))
    rotate_left; (focus (simp only [Act.put, sA, sB, sC, i64_w, i32_w]; rfl))
    refine take_ (i := 1) (N := some 23) (v := ?_) (a' := ?_) #[true, true, false, false, false] rfl rfl (by kernel_rfl) (fun _ _ _ h => h) (Or.inl ⟨by rfl, ?_⟩) hHeld ?_ ?_
    rotate_left; (focus (rintro w' ⟨s0, s1, s2, s3⟩; go_simp; with_reducible rfl))
    rotate_left; (focus (simp only [Act.put, sA, sB, sC, i64_w, i32_w]; rfl))
    refine one_ (i := 2) (N := some 24) #[true, true, true, false, false] rfl rfl (by kernel_rfl) (by decide) (fun K hK => ?_)
    refine goes_ Try.func9 (by kernel_rfl) rfl #[.agg #[.slice A0_0 l0_0.length c0_0, .slice A0_1 l0_1.length c0_1]] (by rfl) rfl rfl (by (try simp only [mA, mB, mC]); first | done | rfl | (simp only [mD, mE]; rfl)) ?_
    with_reducible refine (laws_toBroker.calls k _ _ l0_0 _ _ l0_1 t118 t121 _ ?side1 ?side2 ?side3 ?side4 A12.out).mono ?_
    (case side1 => repeat (first | exact (cB HR0_0.out HB.out) | (with_reducible first | apply cA | apply cN | apply cD)))
    (case side2 => exact HC0_0.out)
    (case side3 => repeat (first | exact (cB HR0_1.out HB.out) | (with_reducible first | apply cA | apply cN | apply cD)))
    (case side4 => exact HC0_1.out)
    rintro e w32 ⟨v119, v122, rfl, ho0, ho1, hb⟩
    refine ⟨_, rfl, ?_⟩
    have n0_ := AM (Kd.S_elder' (by (with_reducible repeat (first | apply Kd.S_alloc | apply Kd.S_drewN | apply Kd.S_drew)); exact HO105.out) (Kd.S_base ho0) hb)
    have n1_ := AM (Kd.R_elder' (by (with_reducible repeat (first | apply rA | apply rN | apply rD)); exact HO108.out) (Kd.R_base ho1) hb)
    have n2_ := AM (Kd.S_elder' (by (with_reducible repeat (first | apply Kd.S_alloc | apply Kd.S_drewN | apply Kd.S_drew)); exact HO112.out) (Kd.S_base ho0) hb)
    have n3_ := AM (Kd.R_elder' (by (with_reducible repeat (first | apply rA | apply rN | apply rD)); exact HO115.out) (Kd.R_base ho1) hb)
    have n4_ := AM (Kd.S_lower (Kd.S_new' (Kd.S_new' ho0 (Kd.S_lt (by (with_reducible repeat (first | apply Kd.S_alloc | apply Kd.S_drewN | apply Kd.S_drew)); exact HO105.out))) (Kd.S_lt (by (with_reducible repeat (first | apply Kd.S_alloc | apply Kd.S_drewN | apply Kd.S_drew)); exact HO112.out))) (bZ (by repeat (first | (with_reducible first | exact HB.out | apply bA | apply bN | apply bD | refine bS ?_ GE101.out | refine bS ?_ GE116.out) | exact HB.out))))
    have n5_ := AM (Kd.R_lower (Kd.R_new' (Kd.R_new' ho1 (Kd.R_lt (by (with_reducible repeat (first | apply rA | apply rN | apply rD)); exact HO108.out))) (Kd.R_lt (by (with_reducible repeat (first | apply rA | apply rN | apply rD)); exact HO115.out))) (bZ (by repeat (first | (with_reducible first | exact HB.out | apply bA | apply bN | apply bD | refine bS ?_ GE101.out | refine bS ?_ GE116.out) | exact HB.out))))
    have n6_ := AM (blk_below (g := gb101) (o := .cells #[.slice A0_0 l0_0.length c0_0, .slice A0_1 l0_1.length c0_1] 25 (0, 0)) (by (with_reducible repeat (first | apply kN | apply kD | apply kA)); exact BK101.out) hb)
    have n7_ := AM (blk_below (g := gb116) (o := .cells #[.slice Ao26 t110.length co26, .slice Ao29 t113.length co29] 31 (0, 0)) (by (with_reducible repeat (first | apply kN | apply kD | apply kA)); exact BK116.out) hb)
    have n8_ := AM (below_step (by repeat (first | (with_reducible first | exact HB.out | apply bA | apply bN | apply bD | refine bS ?_ GE101.out | refine bS ?_ GE116.out) | exact HB.out)) hb)
    clear HO105
    clear HO108
    clear HO112
    clear HO115
    clear BK101
    clear BK116
    clear HB
    have HO105 := n0_
    have HO108 := n1_
    have HO112 := n2_
    have HO115 := n3_
    have HO120 := n4_
    have HO123 := n5_
    have BK101 := n6_
    have BK116 := n7_
    have HB := n8_
    clear n0_ n1_ n2_ n3_ n4_ n5_ n6_ n7_ n8_
    (try clear hb)
    (try clear hk)
    (try clear ho0)
    (try clear ho1)
    obtain ⟨Ao33, co33, eo33⟩ := Kd.S_slice HO120.out
    (first | subst eo33 | (injection eo33 with f1_ f2_ f3_; have f4_ := f1_.symm; have f5_ := f3_.symm; clear f1_ f2_ f3_; subst f4_; subst f5_))
    obtain ⟨Ao34, co34, eo34⟩ := Kd.R_slice HO123.out
    (first | subst eo34 | (injection eo34 with f1_ f2_ f3_; have f4_ := f1_.symm; have f5_ := f3_.symm; clear f1_ f2_ f3_; subst f4_; subst f5_))
    refine hK.out _ _ ⟨(kC BK116.out 0).trans rfl, (kC BK116.out 1).trans rfl, (kC BK101.out 0).trans rfl, (kC BK101.out 1).trans rfl⟩ (fun hHeld => ?_)
    clear hK K
    refine norm_ (a' := ?_) ?_ ?_
    rotate_left
    ·
     show Act.put _ (some 24) _ = _
     simp only [Act.put, sA, sB, sC, i64_w, i32_w]
     rfl
    refine one_ (i := 3) (N := some 25) #[true, true, true, true, false] rfl rfl (by kernel_rfl) (by decide) (fun K hK => ?_)
    refine goes_ Try.func11 (by kernel_rfl) rfl #[.agg #[.slice Ao26 t110.length co26, .slice Ao29 t113.length co29], .agg #[.slice Ao33 t118.length co33, .slice Ao34 t121.length co34]] (by rfl) rfl rfl (by (try simp only [mA, mB, mC]); first | done | rfl | (simp only [mD, mE]; rfl)) ?_
    with_reducible refine (laws_eqBroker.calls k _ _ t110 _ _ t113 _ _ t118 _ _ t121 true _ ?side1 ?side2 ?side3 ?side4 ?side5 ?side6 ?side7 ?side8 A13.out).mono ?_
    (case side1 => repeat (first | exact (Kd.S_reads' HO112.out).2.2 | (with_reducible first | apply cA | apply cN | apply cD)))
    (case side2 => exact (Kd.S_reads' HO112.out).2.1)
    (case side3 => repeat (first | exact (Kd.R_reads' HO115.out).2.2 | (with_reducible first | apply cA | apply cN | apply cD)))
    (case side4 => exact (Kd.R_reads' HO115.out).2.1)
    (case side5 => repeat (first | exact (Kd.S_reads' HO120.out).2.2 | (with_reducible first | apply cA | apply cN | apply cD)))
    (case side6 => exact (Kd.S_reads' HO120.out).2.1)
    (case side7 => repeat (first | exact (Kd.R_reads' HO123.out).2.2 | (with_reducible first | apply cA | apply cN | apply cD)))
    (case side8 => exact (Kd.R_reads' HO123.out).2.1)
    rintro e w35 ⟨rfl, hb⟩
    refine ⟨_, rfl, ?_⟩
    have n0_ := AM (Kd.S_below (by (with_reducible repeat (first | apply Kd.S_alloc | apply Kd.S_drewN | apply Kd.S_drew)); exact HO105.out) hb)
    have n1_ := AM (Kd.R_below (by (with_reducible repeat (first | apply rA | apply rN | apply rD)); exact HO108.out) hb)
    have n2_ := AM (Kd.S_below (by (with_reducible repeat (first | apply Kd.S_alloc | apply Kd.S_drewN | apply Kd.S_drew)); exact HO112.out) hb)
    have n3_ := AM (Kd.R_below (by (with_reducible repeat (first | apply rA | apply rN | apply rD)); exact HO115.out) hb)
    have n4_ := AM (Kd.S_below (by (with_reducible repeat (first | apply Kd.S_alloc | apply Kd.S_drewN | apply Kd.S_drew)); exact HO120.out) hb)
    have n5_ := AM (Kd.R_below (by (with_reducible repeat (first | apply rA | apply rN | apply rD)); exact HO123.out) hb)
    have n6_ := AM (blk_below (g := gb101) (o := .cells #[.slice A0_0 l0_0.length c0_0, .slice A0_1 l0_1.length c0_1] 25 (0, 0)) (by (with_reducible repeat (first | apply kN | apply kD | apply kA)); exact BK101.out) hb)
    have n7_ := AM (blk_below (g := gb116) (o := .cells #[.slice Ao26 t110.length co26, .slice Ao29 t113.length co29] 31 (0, 0)) (by (with_reducible repeat (first | apply kN | apply kD | apply kA)); exact BK116.out) hb)
    have n8_ := AM (below_step (by repeat (first | (with_reducible first | exact HB.out | apply bA | apply bN | apply bD | refine bS ?_ GE101.out | refine bS ?_ GE116.out) | exact HB.out)) hb)
    clear HO105
    clear HO108
    clear HO112
    clear HO115
    clear HO120
    clear HO123
    clear BK101
    clear BK116
    clear HB
    have HO105 := n0_
    have HO108 := n1_
    have HO112 := n2_
    have HO115 := n3_
    have HO120 := n4_
    have HO123 := n5_
    have BK101 := n6_
    have BK116 := n7_
    have HB := n8_
    clear n0_ n1_ n2_ n3_ n4_ n5_ n6_ n7_ n8_
    (try clear hb)
    (try clear hk)
    refine hK.out _ _ ⟨(kC BK116.out 0).trans rfl, (kC BK116.out 1).trans rfl, (kC BK101.out 0).trans rfl, (kC BK101.out 1).trans rfl⟩ (fun hHeld => ?_)
    clear hK K
    refine norm_ (a' := ?_) ?_ ?_
    rotate_left
    ·
     show Act.put _ (some 25) _ = _
     simp only [Act.put, sA, sB, sC, i64_w, i32_w]
     rfl
    refine pure_ (i := 4) (N := some 26) (v := ?_) (a' := ?_) #[true, true, true, true, true] rfl rfl (by kernel_rfl) (fun _ _ _ h => h) (Or.inl ⟨by rfl, ?_⟩) ?_ ?_
    rotate_left
    ·
     intro w'
     go_simp
     with_reducible rfl
    rotate_left
    ·
     simp only [Act.put, sA, sB, sC, i64_w, i32_w]
     rfl
    refine done_ (by kernel_rfl) ?_
    try go_wp2
    go_ret
    exact ⟨by first | rfl | (simp [*, errW_none, errW_some] <;> rfl), by repeat (first | (with_reducible first | exact HB.out | apply bA | apply bN | apply bD | refine bS ?_ GE101.out | refine bS ?_ GE116.out) | exact HB.out)⟩
   ·
    replace c14 := Bool.eq_false_iff.mpr c14
    subst c14
    have H1 : (none) = some r := by rw [if_neg (show ¬ (false = true) by decide)] at H; exact H
    clear H
    have H := H1
    clear H1
    exact absurd H (by simp)
  ·
   rw [if_neg c11] at H
   exact absurd H (by simp)

end Go.Proofs.Ytjjdakpnjiocjaa.Q
