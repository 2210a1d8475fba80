/- Printed by a program of this session (wip/mp.py over the kit's print.py): functions of the translation as plain Lean functions, and that the machine's calls do what these say. -/
import Derived.Test.YtgpgamapopnfcaaDoorQx0
import Derived.Test.YtgpgamapopnfcaaDoorQx1
import Derived.Test.YtgpgamapopnfcaaDoorQx17
namespace Go.Proofs.YtgpgamapopnfcaaDoor.Q
open Go.RowKit Go.Proofs.YtgpgamapopnfcaaDoor.HB Go.Proofs.YtgpgamapopnfcaaDoorW.PrintWords Go.Proofs.YtgpgamapopnfcaaDoorW.PrintLast Go.Proofs.YtgpgamapopnfcaaDoorW.PrintMore
attribute [local go_sem] max2_int min2_int max_two min_two max_three min_three max_four min_four   -- for this text's walks alone
set_option linter.unusedVariables false
set_option linter.unusedSimpArgs false

/-! ### spec_VectorGood: function 15 -/

def spec_VectorGood.f (k : Nat) (a0 : ByteArray) (a1 : Int) (a2 : Int) (a3 : ByteArray) (l4 : List ByteArray) : Option (Bool) := if (a3.size : Int) > 20000 then (some false) else (if (l4.length : Int) = 4 then ((spec_l09Who.f a1).bind fun t101 => (if t101 = true then ((spec_l09Who.f a2).bind fun t102 => (if t102 = true then (if a1 = a2 then (some false) else ((spec_Vector.f k a0 a1 a3).bind fun t103 => (if (t103.length : Int) > 0 then (if 0 ≤ a2 then (if a2 < (t103.length : Int) then (if a2 < (l4.length : Int) then (some ((rdOf ByteArray.empty t103 a2).toList == (rdOf ByteArray.empty l4 a2).toList)) else (none)) else (none)) else (none)) else (some false)))) else (some false))) else (some false))) else (some false))
theorem spec_VectorGood.mono : ∀ a0 a1 a2 a3 a4 k, LeO (spec_VectorGood.f k a0 a1 a2 a3 a4) (spec_VectorGood.f (k + 1) a0 a1 a2 a3 a4) := by
  intro a0 a1 a2 a3 a4 k
  unfold spec_VectorGood.f
  repeat' first
      | (with_reducible exact spec_Vector.mono _ _ _ _)
      | (with_reducible exact LeO.refl _)
      | (with_reducible exact LeO.none _)
      | (with_reducible refine LeO.ite ?_ ?_)
      | (with_reducible refine LeO.bind ?_ (fun _ => ?_))
      | exact spec_Vector.mono _ _ _ _
      | exact LeO.none _
      | refine LeO.ite ?_ ?_
      | refine LeO.bind ?_ (fun _ => ?_)
set_option maxHeartbeats 60000000 in
set_option maxRecDepth 100000 in
theorem spec_VectorGood.calls (k : Nat) (a0 : ByteArray) (a1 : Int) (a2 : Int) (a3 : ByteArray) (A4 : Option Addr) (c4 : Nat) (l4 : List ByteArray) (r : Bool) (w : World) (hr4 : Kd.C Kd.string w A4 l4.length l4) (hc4 : l4.length ≤ c4) (h : spec_VectorGood.f k a0 a1 a2 a3 l4 = some r) :
    Calls Tryd.prog 15 #[.string a0, .int .i64 a1, .int .i64 a2, .string a3, .slice A4 l4.length c4] w fun e w' => e = .returned (.bool r) ∧ Below w.heap.size w w' := by
 have HR4 := AM hr4
 have HC4 := AM hc4
 clear hr4 hc4
 have HB := AM (Below.refl w.heap.size w)
 have H : (if (a3.size : Int) > 20000 then (some false) else (if (l4.length : Int) = 4 then ((spec_l09Who.f a1).bind fun t101 => (if t101 = true then ((spec_l09Who.f a2).bind fun t102 => (if t102 = true then (if a1 = a2 then (some false) else ((spec_Vector.f k a0 a1 a3).bind fun t103 => (if (t103.length : Int) > 0 then (if 0 ≤ a2 then (if a2 < (t103.length : Int) then (if a2 < (l4.length : Int) then (some ((rdOf ByteArray.empty t103 a2).toList == (rdOf ByteArray.empty l4 a2).toList)) else (none)) else (none)) else (none)) else (some false)))) else (some false))) else (some false))) else (some false))) = some r := h
 clear h
 by_cases c6 : (a3.size : Int) > 20000
 ·
  rw [if_pos c6] at H
  have c6b0 : decide (20000 < (a3.size : Int)) = true := decide_eq_true c6
  have c6b1 : decide (20000 < a3.size) = true := decide_eq_true (by omega)
  clear c6
  obtain rfl := Option.some.inj H
  go_enter Tryd.func15, Tryd.ntmps15
  go_wp2
  repeat (go_quiet (fail); try go_wp2)
  go_ret
  exact ⟨by first | rfl | (simp [*, errW_none, errW_some] <;> rfl), bX HB.out⟩
 rw [if_neg c6] at H
 have c6b0 : decide (20000 < (a3.size : Int)) = false := decide_eq_false c6
 have c6b1 : decide (20000 < a3.size) = false := decide_eq_false (by omega)
 clear c6
 by_cases c7 : (l4.length : Int) = 4
 ·
  rw [if_pos c7] at H
  have c7b0 : ((l4.length : Int) == 4) = true := beq_iff_eq.mpr c7
  have c7b1 : ((l4.length : Int) != 4) = false := bne_eq_false_iff_eq.mpr c7
  clear c7
  replace H := Option.bind_eq_some_iff.mp H
  obtain ⟨t101, A80, H⟩ := H
  replace H : (if t101 = true then ((spec_l09Who.f a2).bind fun t102 => (if t102 = true then (if a1 = a2 then (some false) else ((spec_Vector.f k a0 a1 a3).bind fun t103 => (if (t103.length : Int) > 0 then (if 0 ≤ a2 then (if a2 < (t103.length : Int) then (if a2 < (l4.length : Int) then (some ((rdOf ByteArray.empty t103 a2).toList == (rdOf ByteArray.empty l4 a2).toList)) else (none)) else (none)) else (none)) else (some false)))) else (some false))) else (some false)) = some r := H
  have A8 := AM A80
  clear A80
  by_cases c9 : t101 = true
  ·
   subst c9
   have H1 : ((spec_l09Who.f a2).bind fun t102 => (if t102 = true then (if a1 = a2 then (some false) else ((spec_Vector.f k a0 a1 a3).bind fun t103 => (if (t103.length : Int) > 0 then (if 0 ≤ a2 then (if a2 < (t103.length : Int) then (if a2 < (l4.length : Int) then (some ((rdOf ByteArray.empty t103 a2).toList == (rdOf ByteArray.empty l4 a2).toList)) else (none)) else (none)) else (none)) else (some false)))) else (some false))) = some r := by rw [if_pos rfl] at H; exact H
   clear H
   have H := H1
   clear H1
   replace H := Option.bind_eq_some_iff.mp H
   obtain ⟨t102, A100, H⟩ := H
   replace H : (if t102 = true then (if a1 = a2 then (some false) else ((spec_Vector.f k a0 a1 a3).bind fun t103 => (if (t103.length : Int) > 0 then (if 0 ≤ a2 then (if a2 < (t103.length : Int) then (if a2 < (l4.length : Int) then (some ((rdOf ByteArray.empty t103 a2).toList == (rdOf ByteArray.empty l4 a2).toList)) else (none)) else (none)) else (none)) else (some false)))) else (some false)) = some r := H
   have A10 := AM A100
   clear A100
   by_cases c11 : t102 = true
   ·
    subst c11
    have H1 : (if a1 = a2 then (some false) else ((spec_Vector.f k a0 a1 a3).bind fun t103 => (if (t103.length : Int) > 0 then (if 0 ≤ a2 then (if a2 < (t103.length : Int) then (if a2 < (l4.length : Int) then (some ((rdOf ByteArray.empty t103 a2).toList == (rdOf ByteArray.empty l4 a2).toList)) else (none)) else (none)) else (none)) else (some false)))) = some r := by rw [if_pos rfl] at H; exact H
    clear H
    have H := H1
    clear H1
    by_cases c12 : a1 = a2
    ·
     rw [if_pos c12] at H
     have c12b0 : (a1 == a2) = true := beq_iff_eq.mpr c12
     have c12b1 : (a1 != a2) = false := bne_eq_false_iff_eq.mpr c12
     clear c12
     obtain rfl := Option.some.inj H
     go_enter Tryd.func15, Tryd.ntmps15
     go_wp2_with (first | (go_at_call 28; (with_reducible refine (spec_l09Who.calls a1 true _ A8.out).mono ?_); rintro e w' ⟨rfl, ⟨nd, rfl⟩⟩; (try first | exact ⟨rfl, _, dD⟩ | exact ⟨rfl, _, dA⟩)) | (go_at_call 28; (with_reducible refine (spec_l09Who.calls a2 true _ A10.out).mono ?_); rintro e w' ⟨rfl, ⟨nd, rfl⟩⟩; (try first | exact ⟨rfl, _, dD⟩ | exact ⟨rfl, _, dA⟩)))
     repeat (go_quiet (first | (go_at_call 28; (with_reducible refine (spec_l09Who.calls a1 true _ A8.out).mono ?_); rintro e w' ⟨rfl, ⟨nd, rfl⟩⟩; (try first | exact ⟨rfl, _, dD⟩ | exact ⟨rfl, _, dA⟩)) | (go_at_call 28; (with_reducible refine (spec_l09Who.calls a2 true _ A10.out).mono ?_); rintro e w' ⟨rfl, ⟨nd, rfl⟩⟩; (try first | exact ⟨rfl, _, dD⟩ | exact ⟨rfl, _, dA⟩))); try go_wp2_with (first | (go_at_call 28; (with_reducible refine (spec_l09Who.calls a1 true _ A8.out).mono ?_); rintro e w' ⟨rfl, ⟨nd, rfl⟩⟩; (try first | exact ⟨rfl, _, dD⟩ | exact ⟨rfl, _, dA⟩)) | (go_at_call 28; (with_reducible refine (spec_l09Who.calls a2 true _ A10.out).mono ?_); rintro e w' ⟨rfl, ⟨nd, rfl⟩⟩; (try first | exact ⟨rfl, _, dD⟩ | exact ⟨rfl, _, dA⟩))))
     go_ret
     exact ⟨by first | rfl | (simp [*, errW_none, errW_some] <;> rfl), bX HB.out⟩
    rw [if_neg c12] at H
    have c12b0 : (a1 == a2) = false := beq_eq_false_iff_ne.mpr c12
    have c12b1 : (a1 != a2) = true := bne_iff_ne.mpr c12
    replace H := Option.bind_eq_some_iff.mp H
    obtain ⟨t103, A130, H⟩ := H
    replace H : (if (t103.length : Int) > 0 then (if 0 ≤ a2 then (if a2 < (t103.length : Int) then (if a2 < (l4.length : Int) then (some ((rdOf ByteArray.empty t103 a2).toList == (rdOf ByteArray.empty l4 a2).toList)) else (none)) else (none)) else (none)) else (some false)) = some r := H
    have A13 := AM A130
    clear A130
    by_cases c14 : (t103.length : Int) > 0
    ·
     rw [if_pos c14] at H
     have c14b0 : decide (0 < (t103.length : Int)) = true := decide_eq_true c14
     have c14b1 : decide (0 < t103.length) = true := decide_eq_true (by omega)
     clear c14
     by_cases c15 : 0 ≤ a2
     ·
      rw [if_pos c15] at H
      have c15b0 : decide (0 ≤ a2) = true := decide_eq_true c15
      clear c15
      by_cases c16 : a2 < (t103.length : Int)
      ·
       rw [if_pos c16] at H
       have c16b0 : decide (a2 < (t103.length : Int)) = true := decide_eq_true c16
       clear c16
       by_cases c17 : a2 < (l4.length : Int)
       ·
        rw [if_pos c17] at H
        have c17b0 : decide (a2 < (l4.length : Int)) = true := decide_eq_true c17
        clear c17
        obtain rfl := Option.some.inj H
        go_enter Tryd.func15, Tryd.ntmps15
        go_wp2_with (first | (go_at_call 28; (with_reducible refine (spec_l09Who.calls a1 true _ A8.out).mono ?_); rintro e w' ⟨rfl, ⟨nd, rfl⟩⟩; (try first | exact ⟨rfl, _, dD⟩ | exact ⟨rfl, _, dA⟩)) | (go_at_call 28; (with_reducible refine (spec_l09Who.calls a2 true _ A10.out).mono ?_); rintro e w' ⟨rfl, ⟨nd, rfl⟩⟩; (try first | exact ⟨rfl, _, dD⟩ | exact ⟨rfl, _, dA⟩)) | (go_at_call 9; (with_reducible refine (spec_Vector.calls k a0 a1 a3 t103 _ A13.out).mono ?_); rintro e w18 ⟨v104, rfl, ho0, hb⟩; have _ := AM (Kd.R_lower ho0 (bZ (bX HB.out))); have _ := AM (below_step (bX HB.out) hb); clear HB; rename_i HO105 HB; (try clear hb); (try clear hk); (try clear ho0); obtain ⟨Ao19, co19, eo19⟩ := Kd.R_slice HO105.out; subst eo19; have p106 : 0 ≤ (a2 : Int) := of_decide_eq_true (by assumption); have q106 : a2 < (t103.length : Int) := of_decide_eq_true (by assumption); obtain ⟨ad106, e106, hx106_0⟩ := Kd.at_string (Kd.R_reads' HO105.out).2.2 a2 p106 q106; cases e106; replace p106 := eq_true p106; replace q106 := eq_true q106; have p107 : 0 ≤ (a2 : Int) := of_decide_eq_true (by assumption); have q107 : a2 < (l4.length : Int) := of_decide_eq_true (by assumption); obtain ⟨ad107, e107, hx107_0⟩ := Kd.at_string HR4.out a2 p107 q107; cases e107; replace hx107_0 := (HB.out.cell (World.block_lt_of_cell? w _ hx107_0)).trans hx107_0; replace p107 := eq_true p107; replace q107 := eq_true q107))
        repeat (go_quiet (first | (go_at_call 28; (with_reducible refine (spec_l09Who.calls a1 true _ A8.out).mono ?_); rintro e w' ⟨rfl, ⟨nd, rfl⟩⟩; (try first | exact ⟨rfl, _, dD⟩ | exact ⟨rfl, _, dA⟩)) | (go_at_call 28; (with_reducible refine (spec_l09Who.calls a2 true _ A10.out).mono ?_); rintro e w' ⟨rfl, ⟨nd, rfl⟩⟩; (try first | exact ⟨rfl, _, dD⟩ | exact ⟨rfl, _, dA⟩)) | (go_at_call 9; (with_reducible refine (spec_Vector.calls k a0 a1 a3 t103 _ A13.out).mono ?_); rintro e w18 ⟨v104, rfl, ho0, hb⟩; have _ := AM (Kd.R_lower ho0 (bZ (bX HB.out))); have _ := AM (below_step (bX HB.out) hb); clear HB; rename_i HO105 HB; (try clear hb); (try clear hk); (try clear ho0); obtain ⟨Ao19, co19, eo19⟩ := Kd.R_slice HO105.out; subst eo19; have p106 : 0 ≤ (a2 : Int) := of_decide_eq_true (by assumption); have q106 : a2 < (t103.length : Int) := of_decide_eq_true (by assumption); obtain ⟨ad106, e106, hx106_0⟩ := Kd.at_string (Kd.R_reads' HO105.out).2.2 a2 p106 q106; cases e106; replace p106 := eq_true p106; replace q106 := eq_true q106; have p107 : 0 ≤ (a2 : Int) := of_decide_eq_true (by assumption); have q107 : a2 < (l4.length : Int) := of_decide_eq_true (by assumption); obtain ⟨ad107, e107, hx107_0⟩ := Kd.at_string HR4.out a2 p107 q107; cases e107; replace hx107_0 := (HB.out.cell (World.block_lt_of_cell? w _ hx107_0)).trans hx107_0; replace p107 := eq_true p107; replace q107 := eq_true q107)); try go_wp2_with (first | (go_at_call 28; (with_reducible refine (spec_l09Who.calls a1 true _ A8.out).mono ?_); rintro e w' ⟨rfl, ⟨nd, rfl⟩⟩; (try first | exact ⟨rfl, _, dD⟩ | exact ⟨rfl, _, dA⟩)) | (go_at_call 28; (with_reducible refine (spec_l09Who.calls a2 true _ A10.out).mono ?_); rintro e w' ⟨rfl, ⟨nd, rfl⟩⟩; (try first | exact ⟨rfl, _, dD⟩ | exact ⟨rfl, _, dA⟩)) | (go_at_call 9; (with_reducible refine (spec_Vector.calls k a0 a1 a3 t103 _ A13.out).mono ?_); rintro e w18 ⟨v104, rfl, ho0, hb⟩; have _ := AM (Kd.R_lower ho0 (bZ (bX HB.out))); have _ := AM (below_step (bX HB.out) hb); clear HB; rename_i HO105 HB; (try clear hb); (try clear hk); (try clear ho0); obtain ⟨Ao19, co19, eo19⟩ := Kd.R_slice HO105.out; subst eo19; have p106 : 0 ≤ (a2 : Int) := of_decide_eq_true (by assumption); have q106 : a2 < (t103.length : Int) := of_decide_eq_true (by assumption); obtain ⟨ad106, e106, hx106_0⟩ := Kd.at_string (Kd.R_reads' HO105.out).2.2 a2 p106 q106; cases e106; replace p106 := eq_true p106; replace q106 := eq_true q106; have p107 : 0 ≤ (a2 : Int) := of_decide_eq_true (by assumption); have q107 : a2 < (l4.length : Int) := of_decide_eq_true (by assumption); obtain ⟨ad107, e107, hx107_0⟩ := Kd.at_string HR4.out a2 p107 q107; cases e107; replace hx107_0 := (HB.out.cell (World.block_lt_of_cell? w _ hx107_0)).trans hx107_0; replace p107 := eq_true p107; replace q107 := eq_true q107)))
        go_ret
        exact ⟨by first | rfl | (simp [*, errW_none, errW_some] <;> rfl), bX HB.out⟩
       rw [if_neg c17] at H
       exact absurd H (by simp)
      rw [if_neg c16] at H
      exact absurd H (by simp)
     rw [if_neg c15] at H
     exact absurd H (by simp)
    rw [if_neg c14] at H
    have c14b0 : decide (0 < (t103.length : Int)) = false := decide_eq_false c14
    have c14b1 : decide (0 < t103.length) = false := decide_eq_false (by omega)
    clear c14
    obtain rfl := Option.some.inj H
    go_enter Tryd.func15, Tryd.ntmps15
    go_wp2_with (first | (go_at_call 28; (with_reducible refine (spec_l09Who.calls a1 true _ A8.out).mono ?_); rintro e w' ⟨rfl, ⟨nd, rfl⟩⟩; (try first | exact ⟨rfl, _, dD⟩ | exact ⟨rfl, _, dA⟩)) | (go_at_call 28; (with_reducible refine (spec_l09Who.calls a2 true _ A10.out).mono ?_); rintro e w' ⟨rfl, ⟨nd, rfl⟩⟩; (try first | exact ⟨rfl, _, dD⟩ | exact ⟨rfl, _, dA⟩)) | (go_at_call 9; (with_reducible refine (spec_Vector.calls k a0 a1 a3 t103 _ A13.out).mono ?_); rintro e w20 ⟨v104, rfl, ho0, hb⟩; have _ := AM (Kd.R_lower ho0 (bZ (bX HB.out))); have _ := AM (below_step (bX HB.out) hb); clear HB; rename_i HO105 HB; (try clear hb); (try clear hk); (try clear ho0); obtain ⟨Ao21, co21, eo21⟩ := Kd.R_slice HO105.out; subst eo21))
    repeat (go_quiet (first | (go_at_call 28; (with_reducible refine (spec_l09Who.calls a1 true _ A8.out).mono ?_); rintro e w' ⟨rfl, ⟨nd, rfl⟩⟩; (try first | exact ⟨rfl, _, dD⟩ | exact ⟨rfl, _, dA⟩)) | (go_at_call 28; (with_reducible refine (spec_l09Who.calls a2 true _ A10.out).mono ?_); rintro e w' ⟨rfl, ⟨nd, rfl⟩⟩; (try first | exact ⟨rfl, _, dD⟩ | exact ⟨rfl, _, dA⟩)) | (go_at_call 9; (with_reducible refine (spec_Vector.calls k a0 a1 a3 t103 _ A13.out).mono ?_); rintro e w20 ⟨v104, rfl, ho0, hb⟩; have _ := AM (Kd.R_lower ho0 (bZ (bX HB.out))); have _ := AM (below_step (bX HB.out) hb); clear HB; rename_i HO105 HB; (try clear hb); (try clear hk); (try clear ho0); obtain ⟨Ao21, co21, eo21⟩ := Kd.R_slice HO105.out; subst eo21)); try go_wp2_with (first | (go_at_call 28; (with_reducible refine (spec_l09Who.calls a1 true _ A8.out).mono ?_); rintro e w' ⟨rfl, ⟨nd, rfl⟩⟩; (try first | exact ⟨rfl, _, dD⟩ | exact ⟨rfl, _, dA⟩)) | (go_at_call 28; (with_reducible refine (spec_l09Who.calls a2 true _ A10.out).mono ?_); rintro e w' ⟨rfl, ⟨nd, rfl⟩⟩; (try first | exact ⟨rfl, _, dD⟩ | exact ⟨rfl, _, dA⟩)) | (go_at_call 9; (with_reducible refine (spec_Vector.calls k a0 a1 a3 t103 _ A13.out).mono ?_); rintro e w20 ⟨v104, rfl, ho0, hb⟩; have _ := AM (Kd.R_lower ho0 (bZ (bX HB.out))); have _ := AM (below_step (bX HB.out) hb); clear HB; rename_i HO105 HB; (try clear hb); (try clear hk); (try clear ho0); obtain ⟨Ao21, co21, eo21⟩ := Kd.R_slice HO105.out; subst eo21)))
    go_ret
    exact ⟨by first | rfl | (simp [*, errW_none, errW_some] <;> rfl), bX HB.out⟩
   replace c11 := Bool.eq_false_iff.mpr c11
   subst c11
   have H1 : (some false) = some r := by rw [if_neg (show ¬ (false = true) by decide)] at H; exact H
   clear H
   have H := H1
   clear H1
   obtain rfl := Option.some.inj H
   go_enter Tryd.func15, Tryd.ntmps15
   go_wp2_with (first | (go_at_call 28; (with_reducible refine (spec_l09Who.calls a1 true _ A8.out).mono ?_); rintro e w' ⟨rfl, ⟨nd, rfl⟩⟩; (try first | exact ⟨rfl, _, dD⟩ | exact ⟨rfl, _, dA⟩)) | (go_at_call 28; (with_reducible refine (spec_l09Who.calls a2 false _ A10.out).mono ?_); rintro e w' ⟨rfl, ⟨nd, rfl⟩⟩; (try first | exact ⟨rfl, _, dD⟩ | exact ⟨rfl, _, dA⟩)))
   repeat (go_quiet (first | (go_at_call 28; (with_reducible refine (spec_l09Who.calls a1 true _ A8.out).mono ?_); rintro e w' ⟨rfl, ⟨nd, rfl⟩⟩; (try first | exact ⟨rfl, _, dD⟩ | exact ⟨rfl, _, dA⟩)) | (go_at_call 28; (with_reducible refine (spec_l09Who.calls a2 false _ A10.out).mono ?_); rintro e w' ⟨rfl, ⟨nd, rfl⟩⟩; (try first | exact ⟨rfl, _, dD⟩ | exact ⟨rfl, _, dA⟩))); try go_wp2_with (first | (go_at_call 28; (with_reducible refine (spec_l09Who.calls a1 true _ A8.out).mono ?_); rintro e w' ⟨rfl, ⟨nd, rfl⟩⟩; (try first | exact ⟨rfl, _, dD⟩ | exact ⟨rfl, _, dA⟩)) | (go_at_call 28; (with_reducible refine (spec_l09Who.calls a2 false _ A10.out).mono ?_); rintro e w' ⟨rfl, ⟨nd, rfl⟩⟩; (try first | exact ⟨rfl, _, dD⟩ | exact ⟨rfl, _, dA⟩))))
   go_ret
   exact ⟨by first | rfl | (simp [*, errW_none, errW_some] <;> rfl), bX HB.out⟩
  replace c9 := Bool.eq_false_iff.mpr c9
  subst c9
  have H1 : (some false) = some r := by rw [if_neg (show ¬ (false = true) by decide)] at H; exact H
  clear H
  have H := H1
  clear H1
  obtain rfl := Option.some.inj H
  go_enter Tryd.func15, Tryd.ntmps15
  go_wp2_with (first | (go_at_call 28; (with_reducible refine (spec_l09Who.calls a1 false _ A8.out).mono ?_); rintro e w' ⟨rfl, ⟨nd, rfl⟩⟩; (try first | exact ⟨rfl, _, dD⟩ | exact ⟨rfl, _, dA⟩)))
  repeat (go_quiet (first | (go_at_call 28; (with_reducible refine (spec_l09Who.calls a1 false _ A8.out).mono ?_); rintro e w' ⟨rfl, ⟨nd, rfl⟩⟩; (try first | exact ⟨rfl, _, dD⟩ | exact ⟨rfl, _, dA⟩))); try go_wp2_with (first | (go_at_call 28; (with_reducible refine (spec_l09Who.calls a1 false _ A8.out).mono ?_); rintro e w' ⟨rfl, ⟨nd, rfl⟩⟩; (try first | exact ⟨rfl, _, dD⟩ | exact ⟨rfl, _, dA⟩))))
  go_ret
  exact ⟨by first | rfl | (simp [*, errW_none, errW_some] <;> rfl), bX HB.out⟩
 rw [if_neg c7] at H
 have c7b0 : ((l4.length : Int) == 4) = false := beq_eq_false_iff_ne.mpr c7
 have c7b1 : ((l4.length : Int) != 4) = true := bne_iff_ne.mpr c7
 obtain rfl := Option.some.inj H
 go_enter Tryd.func15, Tryd.ntmps15
 go_wp2
 repeat (go_quiet (fail); try go_wp2)
 go_ret
 exact ⟨by first | rfl | (simp [*, errW_none, errW_some] <;> rfl), bX HB.out⟩

end Go.Proofs.YtgpgamapopnfcaaDoor.Q
