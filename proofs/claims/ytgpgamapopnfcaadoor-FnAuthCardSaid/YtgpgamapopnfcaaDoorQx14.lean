/- Printed by a program of this session (wip/mp.py over the kit's print.py): functions of the translation as plain Lean functions, and that the machine's calls do what these say. -/
import Derived.Test.YtgpgamapopnfcaaDoorQx0
import Derived.Test.YtgpgamapopnfcaaDoorQx1
import Derived.Test.YtgpgamapopnfcaaDoorQx12
namespace Go.Proofs.YtgpgamapopnfcaaDoor.Q
open Go.RowKit Go.Proofs.YtgpgamapopnfcaaDoor.HB Go.Proofs.YtgpgamapopnfcaaDoorW.PrintWords Go.Proofs.YtgpgamapopnfcaaDoorW.PrintLast Go.Proofs.YtgpgamapopnfcaaDoorW.PrintMore
attribute [local go_sem] max2_int min2_int max_two min_two max_three min_three max_four min_four   -- for this text's walks alone
set_option linter.unusedVariables false
set_option linter.unusedSimpArgs false

/-! ### impl_VectorGood: function 17 -/
abbrev impl_VectorGood.b0 : Array Bool := #[true, true, true, true, true, true, true, true, true, true, true, true, true, true, true, true, true, true, true, true, true, true, true, true, true, true, true, true, true, false, true, false, false, false, false, false, false, false]
abbrev impl_VectorGood.b1 : Array Bool := #[true, true, true, true, true, true, true, true, true, true, true, true, true, true, true, true, true, true, true, true, true, true, true, true, true, true, true, true, true, false, true, true, false, false, false, false, false, false]
abbrev impl_VectorGood.b2 : Array Bool := #[true, true, true, true, true, true, true, true, true, true, true, true, true, true, true, true, true, true, true, true, true, true, true, true, true, true, true, true, true, false, true, true, true, false, false, false, false, false]
abbrev impl_VectorGood.b3 : Array Bool := #[true, true, true, true, true, true, true, true, true, true, true, true, true, true, true, true, true, true, true, true, true, true, true, true, true, true, true, true, true, false, true, true, true, true, false, false, false, false]
def impl_VectorGood.f (k : Nat) (a0 : ByteArray) (a1 : Int) (a2 : Int) (a3 : ByteArray) (l4 : List ByteArray) : Option (Bool) := (impl_isSecret.f a0).bind fun t101 => (if t101 = true then ((impl_isReplica.f a1).bind fun t102 => (if t102 = true then ((impl_isReplica.f a2).bind fun t103 => (if t103 = true then (if a1 = a2 then (some false) else (if (a3.size : Int) ≤ 20000 then (if (l4.length : Int) = 4 then (if 0 ≤ a2 then (if a2 < (l4.length : Int) then ((impl_shortMac.f k a0 a1 a2 a3).bind fun t105 => (some ((rdOf ByteArray.empty l4 a2).toList == t105.toList))) else (none)) else (none)) else (some false)) else (some false))) else (some false))) else (some false))) else (some false))
theorem impl_VectorGood.mono : ∀ a0 a1 a2 a3 a4 k, LeO (impl_VectorGood.f k a0 a1 a2 a3 a4) (impl_VectorGood.f (k + 1) a0 a1 a2 a3 a4) := by
  intro a0 a1 a2 a3 a4 k
  unfold impl_VectorGood.f
  repeat' first
      | (with_reducible exact impl_shortMac.mono _ _ _ _ _)
      | (with_reducible exact LeO.refl _)
      | (with_reducible exact LeO.none _)
      | (with_reducible refine LeO.ite ?_ ?_)
      | (with_reducible refine LeO.bind ?_ (fun _ => ?_))
      | exact impl_shortMac.mono _ _ _ _ _
      | exact LeO.none _
      | refine LeO.ite ?_ ?_
      | refine LeO.bind ?_ (fun _ => ?_)
def impl_VectorGood.T1 : Bool × List (List Nat × List Nat) := (true, [([], []), ([0], [0]), ([1, 1], [1]), ([2], [2]), ([3, 2, 2], [2, 3]), ([2, 4], [2, 4]), ([5, 4], [5]), ([6], [6]), ([7, 6, 6], [6, 7]), ([6, 8], [6, 8]), ([9, 8], [9]), ([10], [10]), ([10], [10]), ([11, 12, 10], [10, 11, 12]), ([10, 13], [10, 13]), ([14, 10], [14]), ([15], [15]), ([16, 15], [15, 16]), ([17, 15], [15, 17]), ([15, 18], [15, 18]), ([19, 15], [19]), ([20], [20]), ([21, 20], [20, 21]), ([22, 20], [20, 22]), ([20, 23], [20, 23]), ([24, 20], [24]), ([25], [25]), ([25], [25]), ([26, 27, 25], [25, 26, 27]), ([28, 25], [25, 28]), ([25], [25]), ([25], [25]), ([25], [25]), ([25], [25]), ([30, 31, 32, 33, 25, 25], [25, 30, 31, 32, 33]), ([29, 34, 25], [25, 29, 34]), ([25, 35], [25, 35]), ([36, 34, 0, 1, 2, 3, 4, 5, 6, 7, 8, 9, 10, 11, 12, 13, 14, 15, 16, 17, 18, 19, 20, 21, 22, 23, 24, 25, 26, 27, 28, 29, 30, 31, 32, 33, 34, 35, 36], [36])])
def impl_VectorGood.B1 : List Nat := [0, 1, 3, 7, 15, 31, 63, 127, 255, 511, 1023, 2047, 2047, 8191, 16383, 32767, 65535, 131071, 262143, 524287, 1048575, 2097151, 4194303, 8388607, 16777215, 33554431, 67108863, 67108863, 268435455, 536870911, 67108863, 67108863, 67108863, 67108863, 16173236223, 34359738367, 68719476735, 137438953471]
theorem impl_VectorGood.tab1 : rtab .any (opsOf Tryd.f17 1) = impl_VectorGood.T1 := by kernel_rfl
theorem impl_VectorGood.bits1 : waitsOk impl_VectorGood.T1.2 impl_VectorGood.B1 = true := by kernel_rfl
set_option maxHeartbeats 60000000 in
set_option maxRecDepth 100000 in
theorem impl_VectorGood.calls (k : Nat) (a0 : ByteArray) (a1 : Int) (a2 : Int) (a3 : ByteArray) (A4 : Option Addr) (c4 : Nat) (l4 : List ByteArray) (r : Bool) (w : World) (hr4 : Kd.C Kd.string w A4 l4.length l4) (hc4 : l4.length ≤ c4) (hT : Tab w) (h : impl_VectorGood.f k a0 a1 a2 a3 l4 = some r) :
    Calls Tryd.prog 17 #[.string a0, .int .i64 a1, .int .i64 a2, .string a3, .slice A4 l4.length c4] w fun e w' => e = .returned (.bool r) ∧ Below w.heap.size w w' := by
 have TAB := AM hT
 clear hT
 have HR4 := AM hr4
 have HC4 := AM hc4
 clear hr4 hc4
 have HB := AM (Below.refl w.heap.size w)
 have H : ((impl_isSecret.f a0).bind fun t101 => (if t101 = true then ((impl_isReplica.f a1).bind fun t102 => (if t102 = true then ((impl_isReplica.f a2).bind fun t103 => (if t103 = true then (if a1 = a2 then (some false) else (if (a3.size : Int) ≤ 20000 then (if (l4.length : Int) = 4 then (if 0 ≤ a2 then (if a2 < (l4.length : Int) then ((impl_shortMac.f k a0 a1 a2 a3).bind fun t105 => (some ((rdOf ByteArray.empty l4 a2).toList == t105.toList))) else (none)) else (none)) else (some false)) else (some false))) else (some false))) else (some false))) else (some false))) = some r := h
 clear h
 replace H := Option.bind_eq_some_iff.mp H
 obtain ⟨t101, A60, H⟩ := H
 replace H : (if t101 = true then ((impl_isReplica.f a1).bind fun t102 => (if t102 = true then ((impl_isReplica.f a2).bind fun t103 => (if t103 = true then (if a1 = a2 then (some false) else (if (a3.size : Int) ≤ 20000 then (if (l4.length : Int) = 4 then (if 0 ≤ a2 then (if a2 < (l4.length : Int) then ((impl_shortMac.f k a0 a1 a2 a3).bind fun t105 => (some ((rdOf ByteArray.empty l4 a2).toList == t105.toList))) else (none)) else (none)) else (some false)) else (some false))) else (some false))) else (some false))) else (some false)) = some r := H
 have A6 := AM A60
 clear A60
 by_cases c7 : t101 = true
 ·
  subst c7
  have H1 : ((impl_isReplica.f a1).bind fun t102 => (if t102 = true then ((impl_isReplica.f a2).bind fun t103 => (if t103 = true then (if a1 = a2 then (some false) else (if (a3.size : Int) ≤ 20000 then (if (l4.length : Int) = 4 then (if 0 ≤ a2 then (if a2 < (l4.length : Int) then ((impl_shortMac.f k a0 a1 a2 a3).bind fun t105 => (some ((rdOf ByteArray.empty l4 a2).toList == t105.toList))) else (none)) else (none)) else (some false)) else (some false))) else (some false))) else (some false))) = some r := by rw [if_pos rfl] at H; exact H
  clear H
  have H := H1
  clear H1
  replace H := Option.bind_eq_some_iff.mp H
  obtain ⟨t102, A80, H⟩ := H
  replace H : (if t102 = true then ((impl_isReplica.f a2).bind fun t103 => (if t103 = true then (if a1 = a2 then (some false) else (if (a3.size : Int) ≤ 20000 then (if (l4.length : Int) = 4 then (if 0 ≤ a2 then (if a2 < (l4.length : Int) then ((impl_shortMac.f k a0 a1 a2 a3).bind fun t105 => (some ((rdOf ByteArray.empty l4 a2).toList == t105.toList))) else (none)) else (none)) else (some false)) else (some false))) else (some false))) else (some false)) = some r := H
  have A8 := AM A80
  clear A80
  by_cases c9 : t102 = true
  ·
   subst c9
   have H1 : ((impl_isReplica.f a2).bind fun t103 => (if t103 = true then (if a1 = a2 then (some false) else (if (a3.size : Int) ≤ 20000 then (if (l4.length : Int) = 4 then (if 0 ≤ a2 then (if a2 < (l4.length : Int) then ((impl_shortMac.f k a0 a1 a2 a3).bind fun t105 => (some ((rdOf ByteArray.empty l4 a2).toList == t105.toList))) else (none)) else (none)) else (some false)) else (some false))) else (some false))) = some r := by rw [if_pos rfl] at H; exact H
   clear H
   have H := H1
   clear H1
   replace H := Option.bind_eq_some_iff.mp H
   obtain ⟨t103, A100, H⟩ := H
   replace H : (if t103 = true then (if a1 = a2 then (some false) else (if (a3.size : Int) ≤ 20000 then (if (l4.length : Int) = 4 then (if 0 ≤ a2 then (if a2 < (l4.length : Int) then ((impl_shortMac.f k a0 a1 a2 a3).bind fun t105 => (some ((rdOf ByteArray.empty l4 a2).toList == t105.toList))) else (none)) else (none)) else (some false)) else (some false))) else (some false)) = some r := H
   have A10 := AM A100
   clear A100
   by_cases c11 : t103 = true
   ·
    subst c11
    have H1 : (if a1 = a2 then (some false) else (if (a3.size : Int) ≤ 20000 then (if (l4.length : Int) = 4 then (if 0 ≤ a2 then (if a2 < (l4.length : Int) then ((impl_shortMac.f k a0 a1 a2 a3).bind fun t105 => (some ((rdOf ByteArray.empty l4 a2).toList == t105.toList))) else (none)) else (none)) else (some false)) else (some false))) = some r := by rw [if_pos rfl] at H; exact H
    clear H
    have H := H1
    clear H1
    by_cases c12 : a1 = a2
    ·
     rw [if_pos c12] at H
     have c12b0 : (a1 == a2) = true := beq_iff_eq.mpr c12
     have c12b1 : (a1 != a2) = false := bne_eq_false_iff_eq.mpr c12
     clear c12
     obtain rfl := Option.some.inj H
     go_enter Tryd.func17, Tryd.ntmps17
     try go_wp2
     have _ := AM (bD HB.out)
     clear HB
     rename_i HB
     refine start_ (n := 38) (S := fun w' => True) (ds := []) (upTo 0 38) (by kernel_rfl) rfl rfl trivial (fun hHeld => ?_); refine with_tabW impl_VectorGood.tab1 impl_VectorGood.bits1 (fun HT_ HW_ => ?_)
     generalize w.drew = w13 at HB hHeld ⊢
     refine pF 0 1 38 11 ?_
     refine one_ (i := 1) (N := some 12) (upTo 2 38) rfl rfl (one_of HT_.out (by kernel_rfl)) (by decide) (fun K hK => ?_)
     refine goes_ Tryd.func33 (by kernel_rfl) rfl #[.string a0] (by rfl) rfl rfl (by (try simp only [mA, mB, mC]); first | done | rfl | (simp only [mD, mE]; rfl)) ?_
     with_reducible refine (impl_isSecret.calls a0 true _ A6.out).mono ?_
     rintro e w' ⟨rfl, ⟨nd, rfl⟩⟩
     refine ⟨_, rfl, ?_⟩
     refine hK.out _ _ trivial (fun hHeld => ?_)
     clear hK K
     refine norm_ (a' := ?_) ?_ ?_
     rotate_left
     ·
      show Act.put _ (some 12) _ = _
      simp only [Act.put, sA, sB, sC, i64_w, i32_w]
      rfl
     refine pF 2 3 38 13 ?_
     refine pF 3 4 38 14 ?_
     refine one_ (i := 4) (N := some 15) (upTo 5 38) rfl rfl (one_of HT_.out (by kernel_rfl)) (by decide) (fun K hK => ?_)
     refine goes_ Tryd.func34 (by kernel_rfl) rfl #[.int .i64 a1] (by rfl) rfl rfl (by (try simp only [mA, mB, mC]); first | done | rfl | (simp only [mD, mE]; rfl)) ?_
     with_reducible refine (impl_isReplica.calls a1 true _ A8.out).mono ?_
     rintro e w' ⟨rfl, ⟨nd, rfl⟩⟩
     refine ⟨_, rfl, ?_⟩
     refine hK.out _ _ trivial (fun hHeld => ?_)
     clear hK K
     refine norm_ (a' := ?_) ?_ ?_
     rotate_left
     ·
      show Act.put _ (some 15) _ = _
      simp only [Act.put, sA, sB, sC, i64_w, i32_w]
      rfl
     refine pF 5 6 38 16 ?_
     refine pF 6 7 38 17 ?_
     refine pF 7 8 38 18 ?_
     refine one_ (i := 8) (N := some 19) (upTo 9 38) rfl rfl (one_of HT_.out (by kernel_rfl)) (by decide) (fun K hK => ?_)
     refine goes_ Tryd.func34 (by kernel_rfl) rfl #[.int .i64 a2] (by rfl) rfl rfl (by (try simp only [mA, mB, mC]); first | done | rfl | (simp only [mD, mE]; rfl)) ?_
     with_reducible refine (impl_isReplica.calls a2 true _ A10.out).mono ?_
     rintro e w' ⟨rfl, ⟨nd, rfl⟩⟩
     refine ⟨_, rfl, ?_⟩
     refine hK.out _ _ trivial (fun hHeld => ?_)
     clear hK K
     refine norm_ (a' := ?_) ?_ ?_
     rotate_left
     ·
      show Act.put _ (some 19) _ = _
      simp only [Act.put, sA, sB, sC, i64_w, i32_w]
      rfl
     refine pF 9 10 38 20 ?_
     refine pF 10 11 38 21 ?_
     refine pF 11 12 38 22 ?_
     refine pF 12 13 38 23 ?_
     refine pF 13 14 38 24 ?_
     refine pF 14 15 38 25 ?_
     refine pF 15 16 38 26 ?_
     refine pU 16 17 38 27 ?_
     refine pU 17 18 38 28 ?_
     refine pU 18 19 38 29 ?_
     refine pF 19 20 38 30 ?_
     refine pF 20 21 38 31 ?_
     refine pU 21 22 38 32 ?_
     refine pU 22 23 38 33 ?_
     refine pU 23 24 38 34 ?_
     refine pF 24 25 38 35 ?_
     refine pF 25 26 38 36 ?_
     refine pU 26 27 38 37 ?_
     refine pU 27 28 38 38 ?_
     refine pU 28 29 38 39 ?_
     refine pU 29 30 38 40 ?_
     refine pU 30 31 38 41 ?_
     refine pU 31 32 38 42 ?_
     refine pU 32 33 38 43 ?_
     refine pU 33 34 38 44 ?_
     refine pU 34 35 38 45 ?_
     refine pU 35 36 38 46 ?_
     refine pF 36 37 38 47 ?_
     refine pF 37 38 38 10 ?_
     refine done_ (done_of HT_.out (by kernel_rfl)) ?_
     try go_wp2
     go_ret
     exact ⟨by first | rfl | (simp [*, errW_none, errW_some] <;> rfl), bX HB.out⟩
    rw [if_neg c12] at H
    have c12b0 : (a1 == a2) = false := beq_eq_false_iff_ne.mpr c12
    have c12b1 : (a1 != a2) = true := bne_iff_ne.mpr c12
    by_cases c14 : (a3.size : Int) ≤ 20000
    ·
     rw [if_pos c14] at H
     have c14b0 : decide ((a3.size : Int) ≤ 20000) = true := decide_eq_true c14
     have c14b1 : decide (a3.size ≤ 20000) = true := decide_eq_true (by omega)
     clear c14
     by_cases c15 : (l4.length : Int) = 4
     ·
      rw [if_pos c15] at H
      have c15b0 : ((l4.length : Int) == 4) = true := beq_iff_eq.mpr c15
      have c15b1 : ((l4.length : Int) != 4) = false := bne_eq_false_iff_eq.mpr c15
      clear c15
      by_cases c16 : 0 ≤ a2
      ·
       rw [if_pos c16] at H
       have c16b0 : decide (0 ≤ a2) = true := decide_eq_true c16
       clear c16
       by_cases c17 : a2 < (l4.length : Int)
       ·
        rw [if_pos c17] at H
        have c17b0 : decide (a2 < (l4.length : Int)) = true := decide_eq_true c17
        clear c17
        replace H := Option.bind_eq_some_iff.mp H
        obtain ⟨t105, A180, H⟩ := H
        replace H : (some ((rdOf ByteArray.empty l4 a2).toList == t105.toList)) = some r := H
        have A18 := AM A180
        clear A180
        obtain rfl := Option.some.inj H
        go_enter Tryd.func17, Tryd.ntmps17
        try go_wp2
        have _ := AM (bD HB.out)
        clear HB
        rename_i HB
        have p104 : 0 ≤ (a2 : Int) := of_decide_eq_true (by assumption)
        have q104 : a2 < (l4.length : Int) := of_decide_eq_true (by assumption)
        obtain ⟨ad104, e104, hx104_0⟩ := Kd.at_string HR4.out a2 p104 q104
        have hw104_0 := hx104_0
        cases e104
        replace hx104_0 := pw_cell_below HB.out hx104_0
        replace p104 := eq_true p104
        replace q104 := eq_true q104
        refine start_ (n := 38) (S := fun w' => w'.cell? (ad104.add (a2).toNat) = some (.string (rdOf ByteArray.empty l4 a2))) (ds := []) (upTo 0 38) (by kernel_rfl) rfl rfl ((pw_cell_below HB.out hw104_0)) (fun hHeld => ?_); refine with_tabW impl_VectorGood.tab1 impl_VectorGood.bits1 (fun HT_ HW_ => ?_)
        generalize w.drew = w19 at HB hx104_0 hHeld ⊢
        refine pF 0 1 38 11 ?_
        refine one_ (i := 1) (N := some 12) (upTo 2 38) rfl rfl (one_of HT_.out (by kernel_rfl)) (by decide) (fun K hK => ?_)
        refine goes_ Tryd.func33 (by kernel_rfl) rfl #[.string a0] (by rfl) rfl rfl (by (try simp only [mA, mB, mC]); first | done | rfl | (simp only [mD, mE]; rfl)) ?_
        with_reducible refine (impl_isSecret.calls a0 true _ A6.out).mono ?_
        rintro e w' ⟨rfl, ⟨nd, rfl⟩⟩
        refine ⟨_, rfl, ?_⟩
        refine hK.out _ _ ((pw_cell_below HB.out hw104_0)) (fun hHeld => ?_)
        clear hK K
        refine norm_ (a' := ?_) ?_ ?_
        rotate_left
        ·
         show Act.put _ (some 12) _ = _
         simp only [Act.put, sA, sB, sC, i64_w, i32_w]
         rfl
        refine pF 2 3 38 13 ?_
        refine pF 3 4 38 14 ?_
        refine one_ (i := 4) (N := some 15) (upTo 5 38) rfl rfl (one_of HT_.out (by kernel_rfl)) (by decide) (fun K hK => ?_)
        refine goes_ Tryd.func34 (by kernel_rfl) rfl #[.int .i64 a1] (by rfl) rfl rfl (by (try simp only [mA, mB, mC]); first | done | rfl | (simp only [mD, mE]; rfl)) ?_
        with_reducible refine (impl_isReplica.calls a1 true _ A8.out).mono ?_
        rintro e w' ⟨rfl, ⟨nd, rfl⟩⟩
        refine ⟨_, rfl, ?_⟩
        refine hK.out _ _ ((pw_cell_below HB.out hw104_0)) (fun hHeld => ?_)
        clear hK K
        refine norm_ (a' := ?_) ?_ ?_
        rotate_left
        ·
         show Act.put _ (some 15) _ = _
         simp only [Act.put, sA, sB, sC, i64_w, i32_w]
         rfl
        refine pF 5 6 38 16 ?_
        refine pF 6 7 38 17 ?_
        refine pF 7 8 38 18 ?_
        refine one_ (i := 8) (N := some 19) (upTo 9 38) rfl rfl (one_of HT_.out (by kernel_rfl)) (by decide) (fun K hK => ?_)
        refine goes_ Tryd.func34 (by kernel_rfl) rfl #[.int .i64 a2] (by rfl) rfl rfl (by (try simp only [mA, mB, mC]); first | done | rfl | (simp only [mD, mE]; rfl)) ?_
        with_reducible refine (impl_isReplica.calls a2 true _ A10.out).mono ?_
        rintro e w' ⟨rfl, ⟨nd, rfl⟩⟩
        refine ⟨_, rfl, ?_⟩
        refine hK.out _ _ ((pw_cell_below HB.out hw104_0)) (fun hHeld => ?_)
        clear hK K
        refine norm_ (a' := ?_) ?_ ?_
        rotate_left
        ·
         show Act.put _ (some 19) _ = _
         simp only [Act.put, sA, sB, sC, i64_w, i32_w]
         rfl
        refine pF 9 10 38 20 ?_
        refine pF 10 11 38 21 ?_
        refine pF 11 12 38 22 ?_
        refine pF 12 13 38 23 ?_
        refine pF 13 14 38 24 ?_
        refine pF 14 15 38 25 ?_
        refine pF 15 16 38 26 ?_
        refine pF 16 17 38 27 ?_
        refine pF 17 18 38 28 ?_
        refine pF 18 19 38 29 ?_
        refine pF 19 20 38 30 ?_
        refine pF 20 21 38 31 ?_
        refine pF 21 22 38 32 ?_
        refine pF 22 23 38 33 ?_
        refine pF 23 24 38 34 ?_
        refine pF 24 25 38 35 ?_
        refine pF 25 26 38 36 ?_
        refine pF 26 27 38 37 ?_
        refine pF 27 28 38 38 ?_
        refine pF 28 29 38 39 ?_
        refine pF2 30 41 impl_VectorGood.b0 ?_
        refine pF2 31 42 impl_VectorGood.b1 ?_
        refine pF2 32 43 impl_VectorGood.b2 ?_
        refine pF2 33 44 impl_VectorGood.b3 ?_
        refine take_ (i := 29) (N := some 40) (v := ?_) (a' := ?_) (upTo 34 38) rfl rfl (take_ofW HT_.out HW_.out (by kernel_rfl)) (fun _ _ _ h => h) (Or.inl ⟨by rfl, ?_⟩) hHeld ?_ ?_
        rotate_left
        ·
         intro w' s0
         go_simp
         with_reducible rfl
        rotate_left
        ·
         simp only [Act.put, sA, sB, sC, i64_w, i32_w]
         rfl
        refine one_ (i := 34) (N := some 45) (upTo 35 38) rfl rfl (one_of HT_.out (by kernel_rfl)) (by decide) (fun K hK => ?_)
        refine goes_ Tryd.func37 (by kernel_rfl) rfl #[.string a0, .int .i64 a1, .int .i64 a2, .string a3] (by rfl) rfl rfl (by (try simp only [mA, mB, mC]); first | done | rfl | (simp only [mD, mE]; rfl)) ?_
        with_reducible refine (impl_shortMac.calls k a0 a1 a2 a3 t105 _ ?sideT A18.out).mono ?_
        (case sideT => exact tabB TAB.out (bX HB.out))
        rintro e w20 ⟨rfl, hb⟩
        refine ⟨_, rfl, ?_⟩
        have _ := AM (below_step (bX HB.out) hb)
        clear HB
        rename_i HB
        (try clear hb)
        (try clear hk)
        refine hK.out _ _ ((pw_cell_below HB.out hw104_0)) (fun hHeld => ?_)
        clear hK K
        refine norm_ (a' := ?_) ?_ ?_
        rotate_left
        ·
         show Act.put _ (some 45) _ = _
         simp only [Act.put, sA, sB, sC, i64_w, i32_w]
         rfl
        refine pF 35 36 38 46 ?_
        refine pF 36 37 38 47 ?_
        refine pF 37 38 38 10 ?_
        refine done_ (done_of HT_.out (by kernel_rfl)) ?_
        try go_wp2
        go_ret
        exact ⟨by first | rfl | (simp [*, errW_none, errW_some] <;> rfl), bX HB.out⟩
       rw [if_neg c17] at H
       exact absurd H (by simp)
      rw [if_neg c16] at H
      exact absurd H (by simp)
     rw [if_neg c15] at H
     have c15b0 : ((l4.length : Int) == 4) = false := beq_eq_false_iff_ne.mpr c15
     have c15b1 : ((l4.length : Int) != 4) = true := bne_iff_ne.mpr c15
     obtain rfl := Option.some.inj H
     go_enter Tryd.func17, Tryd.ntmps17
     try go_wp2
     have _ := AM (bD HB.out)
     clear HB
     rename_i HB
     refine start_ (n := 38) (S := fun w' => True) (ds := []) (upTo 0 38) (by kernel_rfl) rfl rfl trivial (fun hHeld => ?_); refine with_tabW impl_VectorGood.tab1 impl_VectorGood.bits1 (fun HT_ HW_ => ?_)
     generalize w.drew = w21 at HB hHeld ⊢
     refine pF 0 1 38 11 ?_
     refine one_ (i := 1) (N := some 12) (upTo 2 38) rfl rfl (one_of HT_.out (by kernel_rfl)) (by decide) (fun K hK => ?_)
     refine goes_ Tryd.func33 (by kernel_rfl) rfl #[.string a0] (by rfl) rfl rfl (by (try simp only [mA, mB, mC]); first | done | rfl | (simp only [mD, mE]; rfl)) ?_
     with_reducible refine (impl_isSecret.calls a0 true _ A6.out).mono ?_
     rintro e w' ⟨rfl, ⟨nd, rfl⟩⟩
     refine ⟨_, rfl, ?_⟩
     refine hK.out _ _ trivial (fun hHeld => ?_)
     clear hK K
     refine norm_ (a' := ?_) ?_ ?_
     rotate_left
     ·
      show Act.put _ (some 12) _ = _
      simp only [Act.put, sA, sB, sC, i64_w, i32_w]
      rfl
     refine pF 2 3 38 13 ?_
     refine pF 3 4 38 14 ?_
     refine one_ (i := 4) (N := some 15) (upTo 5 38) rfl rfl (one_of HT_.out (by kernel_rfl)) (by decide) (fun K hK => ?_)
     refine goes_ Tryd.func34 (by kernel_rfl) rfl #[.int .i64 a1] (by rfl) rfl rfl (by (try simp only [mA, mB, mC]); first | done | rfl | (simp only [mD, mE]; rfl)) ?_
     with_reducible refine (impl_isReplica.calls a1 true _ A8.out).mono ?_
     rintro e w' ⟨rfl, ⟨nd, rfl⟩⟩
     refine ⟨_, rfl, ?_⟩
     refine hK.out _ _ trivial (fun hHeld => ?_)
     clear hK K
     refine norm_ (a' := ?_) ?_ ?_
     rotate_left
     ·
      show Act.put _ (some 15) _ = _
      simp only [Act.put, sA, sB, sC, i64_w, i32_w]
      rfl
     refine pF 5 6 38 16 ?_
     refine pF 6 7 38 17 ?_
     refine pF 7 8 38 18 ?_
     refine one_ (i := 8) (N := some 19) (upTo 9 38) rfl rfl (one_of HT_.out (by kernel_rfl)) (by decide) (fun K hK => ?_)
     refine goes_ Tryd.func34 (by kernel_rfl) rfl #[.int .i64 a2] (by rfl) rfl rfl (by (try simp only [mA, mB, mC]); first | done | rfl | (simp only [mD, mE]; rfl)) ?_
     with_reducible refine (impl_isReplica.calls a2 true _ A10.out).mono ?_
     rintro e w' ⟨rfl, ⟨nd, rfl⟩⟩
     refine ⟨_, rfl, ?_⟩
     refine hK.out _ _ trivial (fun hHeld => ?_)
     clear hK K
     refine norm_ (a' := ?_) ?_ ?_
     rotate_left
     ·
      show Act.put _ (some 19) _ = _
      simp only [Act.put, sA, sB, sC, i64_w, i32_w]
      rfl
     refine pF 9 10 38 20 ?_
     refine pF 10 11 38 21 ?_
     refine pF 11 12 38 22 ?_
     refine pF 12 13 38 23 ?_
     refine pF 13 14 38 24 ?_
     refine pF 14 15 38 25 ?_
     refine pF 15 16 38 26 ?_
     refine pF 16 17 38 27 ?_
     refine pF 17 18 38 28 ?_
     refine pF 18 19 38 29 ?_
     refine pF 19 20 38 30 ?_
     refine pF 20 21 38 31 ?_
     refine pF 21 22 38 32 ?_
     refine pF 22 23 38 33 ?_
     refine pF 23 24 38 34 ?_
     refine pF 24 25 38 35 ?_
     refine pF 25 26 38 36 ?_
     refine pU 26 27 38 37 ?_
     refine pU 27 28 38 38 ?_
     refine pU 28 29 38 39 ?_
     refine pU 29 30 38 40 ?_
     refine pU 30 31 38 41 ?_
     refine pU 31 32 38 42 ?_
     refine pU 32 33 38 43 ?_
     refine pU 33 34 38 44 ?_
     refine pU 34 35 38 45 ?_
     refine pU 35 36 38 46 ?_
     refine pF 36 37 38 47 ?_
     refine pF 37 38 38 10 ?_
     refine done_ (done_of HT_.out (by kernel_rfl)) ?_
     try go_wp2
     go_ret
     exact ⟨by first | rfl | (simp [*, errW_none, errW_some] <;> rfl), bX HB.out⟩
    rw [if_neg c14] at H
    have c14b0 : decide ((a3.size : Int) ≤ 20000) = false := decide_eq_false c14
    have c14b1 : decide (a3.size ≤ 20000) = false := decide_eq_false (by omega)
    clear c14
    obtain rfl := Option.some.inj H
    go_enter Tryd.func17, Tryd.ntmps17
    try go_wp2
    have _ := AM (bD HB.out)
    clear HB
    rename_i HB
    refine start_ (n := 38) (S := fun w' => True) (ds := []) (upTo 0 38) (by kernel_rfl) rfl rfl trivial (fun hHeld => ?_); refine with_tabW impl_VectorGood.tab1 impl_VectorGood.bits1 (fun HT_ HW_ => ?_)
    generalize w.drew = w22 at HB hHeld ⊢
    refine pF 0 1 38 11 ?_
    refine one_ (i := 1) (N := some 12) (upTo 2 38) rfl rfl (one_of HT_.out (by kernel_rfl)) (by decide) (fun K hK => ?_)
    refine goes_ Tryd.func33 (by kernel_rfl) rfl #[.string a0] (by rfl) rfl rfl (by (try simp only [mA, mB, mC]); first | done | rfl | (simp only [mD, mE]; rfl)) ?_
    with_reducible refine (impl_isSecret.calls a0 true _ A6.out).mono ?_
    rintro e w' ⟨rfl, ⟨nd, rfl⟩⟩
    refine ⟨_, rfl, ?_⟩
    refine hK.out _ _ trivial (fun hHeld => ?_)
    clear hK K
    refine norm_ (a' := ?_) ?_ ?_
    rotate_left
    ·
     show Act.put _ (some 12) _ = _
     simp only [Act.put, sA, sB, sC, i64_w, i32_w]
     rfl
    refine pF 2 3 38 13 ?_
    refine pF 3 4 38 14 ?_
    refine one_ (i := 4) (N := some 15) (upTo 5 38) rfl rfl (one_of HT_.out (by kernel_rfl)) (by decide) (fun K hK => ?_)
    refine goes_ Tryd.func34 (by kernel_rfl) rfl #[.int .i64 a1] (by rfl) rfl rfl (by (try simp only [mA, mB, mC]); first | done | rfl | (simp only [mD, mE]; rfl)) ?_
    with_reducible refine (impl_isReplica.calls a1 true _ A8.out).mono ?_
    rintro e w' ⟨rfl, ⟨nd, rfl⟩⟩
    refine ⟨_, rfl, ?_⟩
    refine hK.out _ _ trivial (fun hHeld => ?_)
    clear hK K
    refine norm_ (a' := ?_) ?_ ?_
    rotate_left
    ·
     show Act.put _ (some 15) _ = _
     simp only [Act.put, sA, sB, sC, i64_w, i32_w]
     rfl
    refine pF 5 6 38 16 ?_
    refine pF 6 7 38 17 ?_
    refine pF 7 8 38 18 ?_
    refine one_ (i := 8) (N := some 19) (upTo 9 38) rfl rfl (one_of HT_.out (by kernel_rfl)) (by decide) (fun K hK => ?_)
    refine goes_ Tryd.func34 (by kernel_rfl) rfl #[.int .i64 a2] (by rfl) rfl rfl (by (try simp only [mA, mB, mC]); first | done | rfl | (simp only [mD, mE]; rfl)) ?_
    with_reducible refine (impl_isReplica.calls a2 true _ A10.out).mono ?_
    rintro e w' ⟨rfl, ⟨nd, rfl⟩⟩
    refine ⟨_, rfl, ?_⟩
    refine hK.out _ _ trivial (fun hHeld => ?_)
    clear hK K
    refine norm_ (a' := ?_) ?_ ?_
    rotate_left
    ·
     show Act.put _ (some 19) _ = _
     simp only [Act.put, sA, sB, sC, i64_w, i32_w]
     rfl
    refine pF 9 10 38 20 ?_
    refine pF 10 11 38 21 ?_
    refine pF 11 12 38 22 ?_
    refine pF 12 13 38 23 ?_
    refine pF 13 14 38 24 ?_
    refine pF 14 15 38 25 ?_
    refine pF 15 16 38 26 ?_
    refine pF 16 17 38 27 ?_
    refine pF 17 18 38 28 ?_
    refine pF 18 19 38 29 ?_
    refine pF 19 20 38 30 ?_
    refine pF 20 21 38 31 ?_
    refine pU 21 22 38 32 ?_
    refine pU 22 23 38 33 ?_
    refine pU 23 24 38 34 ?_
    refine pF 24 25 38 35 ?_
    refine pF 25 26 38 36 ?_
    refine pU 26 27 38 37 ?_
    refine pU 27 28 38 38 ?_
    refine pU 28 29 38 39 ?_
    refine pU 29 30 38 40 ?_
    refine pU 30 31 38 41 ?_
    refine pU 31 32 38 42 ?_
    refine pU 32 33 38 43 ?_
    refine pU 33 34 38 44 ?_
    refine pU 34 35 38 45 ?_
    refine pU 35 36 38 46 ?_
    refine pF 36 37 38 47 ?_
    refine pF 37 38 38 10 ?_
    refine done_ (done_of HT_.out (by kernel_rfl)) ?_
    try go_wp2
    go_ret
    exact ⟨by first | rfl | (simp [*, errW_none, errW_some] <;> rfl), bX HB.out⟩
   replace c11 := Bool.eq_false_iff.mpr c11
   subst c11
   have H1 : (some false) = some r := by rw [if_neg (show ¬ (false = true) by decide)] at H; exact H
   clear H
   have H := H1
   clear H1
   obtain rfl := Option.some.inj H
   go_enter Tryd.func17, Tryd.ntmps17
   try go_wp2
   have _ := AM (bD HB.out)
   clear HB
   rename_i HB
   refine start_ (n := 38) (S := fun w' => True) (ds := []) (upTo 0 38) (by kernel_rfl) rfl rfl trivial (fun hHeld => ?_); refine with_tabW impl_VectorGood.tab1 impl_VectorGood.bits1 (fun HT_ HW_ => ?_)
   generalize w.drew = w23 at HB hHeld ⊢
   refine pF 0 1 38 11 ?_
   refine one_ (i := 1) (N := some 12) (upTo 2 38) rfl rfl (one_of HT_.out (by kernel_rfl)) (by decide) (fun K hK => ?_)
   refine goes_ Tryd.func33 (by kernel_rfl) rfl #[.string a0] (by rfl) rfl rfl (by (try simp only [mA, mB, mC]); first | done | rfl | (simp only [mD, mE]; rfl)) ?_
   with_reducible refine (impl_isSecret.calls a0 true _ A6.out).mono ?_
   rintro e w' ⟨rfl, ⟨nd, rfl⟩⟩
   refine ⟨_, rfl, ?_⟩
   refine hK.out _ _ trivial (fun hHeld => ?_)
   clear hK K
   refine norm_ (a' := ?_) ?_ ?_
   rotate_left
   ·
    show Act.put _ (some 12) _ = _
    simp only [Act.put, sA, sB, sC, i64_w, i32_w]
    rfl
   refine pF 2 3 38 13 ?_
   refine pF 3 4 38 14 ?_
   refine one_ (i := 4) (N := some 15) (upTo 5 38) rfl rfl (one_of HT_.out (by kernel_rfl)) (by decide) (fun K hK => ?_)
   refine goes_ Tryd.func34 (by kernel_rfl) rfl #[.int .i64 a1] (by rfl) rfl rfl (by (try simp only [mA, mB, mC]); first | done | rfl | (simp only [mD, mE]; rfl)) ?_
   with_reducible refine (impl_isReplica.calls a1 true _ A8.out).mono ?_
   rintro e w' ⟨rfl, ⟨nd, rfl⟩⟩
   refine ⟨_, rfl, ?_⟩
   refine hK.out _ _ trivial (fun hHeld => ?_)
   clear hK K
   refine norm_ (a' := ?_) ?_ ?_
   rotate_left
   ·
    show Act.put _ (some 15) _ = _
    simp only [Act.put, sA, sB, sC, i64_w, i32_w]
    rfl
   refine pF 5 6 38 16 ?_
   refine pF 6 7 38 17 ?_
   refine pF 7 8 38 18 ?_
   refine one_ (i := 8) (N := some 19) (upTo 9 38) rfl rfl (one_of HT_.out (by kernel_rfl)) (by decide) (fun K hK => ?_)
   refine goes_ Tryd.func34 (by kernel_rfl) rfl #[.int .i64 a2] (by rfl) rfl rfl (by (try simp only [mA, mB, mC]); first | done | rfl | (simp only [mD, mE]; rfl)) ?_
   with_reducible refine (impl_isReplica.calls a2 false _ A10.out).mono ?_
   rintro e w' ⟨rfl, ⟨nd, rfl⟩⟩
   refine ⟨_, rfl, ?_⟩
   refine hK.out _ _ trivial (fun hHeld => ?_)
   clear hK K
   refine norm_ (a' := ?_) ?_ ?_
   rotate_left
   ·
    show Act.put _ (some 19) _ = _
    simp only [Act.put, sA, sB, sC, i64_w, i32_w]
    rfl
   refine pF 9 10 38 20 ?_
   refine pF 10 11 38 21 ?_
   refine pU 11 12 38 22 ?_
   refine pU 12 13 38 23 ?_
   refine pU 13 14 38 24 ?_
   refine pF 14 15 38 25 ?_
   refine pF 15 16 38 26 ?_
   refine pU 16 17 38 27 ?_
   refine pU 17 18 38 28 ?_
   refine pU 18 19 38 29 ?_
   refine pF 19 20 38 30 ?_
   refine pF 20 21 38 31 ?_
   refine pU 21 22 38 32 ?_
   refine pU 22 23 38 33 ?_
   refine pU 23 24 38 34 ?_
   refine pF 24 25 38 35 ?_
   refine pF 25 26 38 36 ?_
   refine pU 26 27 38 37 ?_
   refine pU 27 28 38 38 ?_
   refine pU 28 29 38 39 ?_
   refine pU 29 30 38 40 ?_
   refine pU 30 31 38 41 ?_
   refine pU 31 32 38 42 ?_
   refine pU 32 33 38 43 ?_
   refine pU 33 34 38 44 ?_
   refine pU 34 35 38 45 ?_
   refine pU 35 36 38 46 ?_
   refine pF 36 37 38 47 ?_
   refine pF 37 38 38 10 ?_
   refine done_ (done_of HT_.out (by kernel_rfl)) ?_
   try go_wp2
   go_ret
   exact ⟨by first | rfl | (simp [*, errW_none, errW_some] <;> rfl), bX HB.out⟩
  replace c9 := Bool.eq_false_iff.mpr c9
  subst c9
  have H1 : (some false) = some r := by rw [if_neg (show ¬ (false = true) by decide)] at H; exact H
  clear H
  have H := H1
  clear H1
  obtain rfl := Option.some.inj H
  go_enter Tryd.func17, Tryd.ntmps17
  try go_wp2
  have _ := AM (bD HB.out)
  clear HB
  rename_i HB
  refine start_ (n := 38) (S := fun w' => True) (ds := []) (upTo 0 38) (by kernel_rfl) rfl rfl trivial (fun hHeld => ?_); refine with_tabW impl_VectorGood.tab1 impl_VectorGood.bits1 (fun HT_ HW_ => ?_)
  generalize w.drew = w24 at HB hHeld ⊢
  refine pF 0 1 38 11 ?_
  refine one_ (i := 1) (N := some 12) (upTo 2 38) rfl rfl (one_of HT_.out (by kernel_rfl)) (by decide) (fun K hK => ?_)
  refine goes_ Tryd.func33 (by kernel_rfl) rfl #[.string a0] (by rfl) rfl rfl (by (try simp only [mA, mB, mC]); first | done | rfl | (simp only [mD, mE]; rfl)) ?_
  with_reducible refine (impl_isSecret.calls a0 true _ A6.out).mono ?_
  rintro e w' ⟨rfl, ⟨nd, rfl⟩⟩
  refine ⟨_, rfl, ?_⟩
  refine hK.out _ _ trivial (fun hHeld => ?_)
  clear hK K
  refine norm_ (a' := ?_) ?_ ?_
  rotate_left
  ·
   show Act.put _ (some 12) _ = _
   simp only [Act.put, sA, sB, sC, i64_w, i32_w]
   rfl
  refine pF 2 3 38 13 ?_
  refine pF 3 4 38 14 ?_
  refine one_ (i := 4) (N := some 15) (upTo 5 38) rfl rfl (one_of HT_.out (by kernel_rfl)) (by decide) (fun K hK => ?_)
  refine goes_ Tryd.func34 (by kernel_rfl) rfl #[.int .i64 a1] (by rfl) rfl rfl (by (try simp only [mA, mB, mC]); first | done | rfl | (simp only [mD, mE]; rfl)) ?_
  with_reducible refine (impl_isReplica.calls a1 false _ A8.out).mono ?_
  rintro e w' ⟨rfl, ⟨nd, rfl⟩⟩
  refine ⟨_, rfl, ?_⟩
  refine hK.out _ _ trivial (fun hHeld => ?_)
  clear hK K
  refine norm_ (a' := ?_) ?_ ?_
  rotate_left
  ·
   show Act.put _ (some 15) _ = _
   simp only [Act.put, sA, sB, sC, i64_w, i32_w]
   rfl
  refine pF 5 6 38 16 ?_
  refine pF 6 7 38 17 ?_
  refine pU 7 8 38 18 ?_
  refine pU 8 9 38 19 ?_
  refine pF 9 10 38 20 ?_
  refine pF 10 11 38 21 ?_
  refine pU 11 12 38 22 ?_
  refine pU 12 13 38 23 ?_
  refine pU 13 14 38 24 ?_
  refine pF 14 15 38 25 ?_
  refine pF 15 16 38 26 ?_
  refine pU 16 17 38 27 ?_
  refine pU 17 18 38 28 ?_
  refine pU 18 19 38 29 ?_
  refine pF 19 20 38 30 ?_
  refine pF 20 21 38 31 ?_
  refine pU 21 22 38 32 ?_
  refine pU 22 23 38 33 ?_
  refine pU 23 24 38 34 ?_
  refine pF 24 25 38 35 ?_
  refine pF 25 26 38 36 ?_
  refine pU 26 27 38 37 ?_
  refine pU 27 28 38 38 ?_
  refine pU 28 29 38 39 ?_
  refine pU 29 30 38 40 ?_
  refine pU 30 31 38 41 ?_
  refine pU 31 32 38 42 ?_
  refine pU 32 33 38 43 ?_
  refine pU 33 34 38 44 ?_
  refine pU 34 35 38 45 ?_
  refine pU 35 36 38 46 ?_
  refine pF 36 37 38 47 ?_
  refine pF 37 38 38 10 ?_
  refine done_ (done_of HT_.out (by kernel_rfl)) ?_
  try go_wp2
  go_ret
  exact ⟨by first | rfl | (simp [*, errW_none, errW_some] <;> rfl), bX HB.out⟩
 replace c7 := Bool.eq_false_iff.mpr c7
 subst c7
 have H1 : (some false) = some r := by rw [if_neg (show ¬ (false = true) by decide)] at H; exact H
 clear H
 have H := H1
 clear H1
 obtain rfl := Option.some.inj H
 go_enter Tryd.func17, Tryd.ntmps17
 try go_wp2
 have _ := AM (bD HB.out)
 clear HB
 rename_i HB
 refine start_ (n := 38) (S := fun w' => True) (ds := []) (upTo 0 38) (by kernel_rfl) rfl rfl trivial (fun hHeld => ?_); refine with_tabW impl_VectorGood.tab1 impl_VectorGood.bits1 (fun HT_ HW_ => ?_)
 generalize w.drew = w25 at HB hHeld ⊢
 refine pF 0 1 38 11 ?_
 refine one_ (i := 1) (N := some 12) (upTo 2 38) rfl rfl (one_of HT_.out (by kernel_rfl)) (by decide) (fun K hK => ?_)
 refine goes_ Tryd.func33 (by kernel_rfl) rfl #[.string a0] (by rfl) rfl rfl (by (try simp only [mA, mB, mC]); first | done | rfl | (simp only [mD, mE]; rfl)) ?_
 with_reducible refine (impl_isSecret.calls a0 false _ A6.out).mono ?_
 rintro e w' ⟨rfl, ⟨nd, rfl⟩⟩
 refine ⟨_, rfl, ?_⟩
 refine hK.out _ _ trivial (fun hHeld => ?_)
 clear hK K
 refine norm_ (a' := ?_) ?_ ?_
 rotate_left
 ·
  show Act.put _ (some 12) _ = _
  simp only [Act.put, sA, sB, sC, i64_w, i32_w]
  rfl
 refine pF 2 3 38 13 ?_
 refine pU 3 4 38 14 ?_
 refine pU 4 5 38 15 ?_
 refine pF 5 6 38 16 ?_
 refine pF 6 7 38 17 ?_
 refine pU 7 8 38 18 ?_
 refine pU 8 9 38 19 ?_
 refine pF 9 10 38 20 ?_
 refine pF 10 11 38 21 ?_
 refine pU 11 12 38 22 ?_
 refine pU 12 13 38 23 ?_
 refine pU 13 14 38 24 ?_
 refine pF 14 15 38 25 ?_
 refine pF 15 16 38 26 ?_
 refine pU 16 17 38 27 ?_
 refine pU 17 18 38 28 ?_
 refine pU 18 19 38 29 ?_
 refine pF 19 20 38 30 ?_
 refine pF 20 21 38 31 ?_
 refine pU 21 22 38 32 ?_
 refine pU 22 23 38 33 ?_
 refine pU 23 24 38 34 ?_
 refine pF 24 25 38 35 ?_
 refine pF 25 26 38 36 ?_
 refine pU 26 27 38 37 ?_
 refine pU 27 28 38 38 ?_
 refine pU 28 29 38 39 ?_
 refine pU 29 30 38 40 ?_
 refine pU 30 31 38 41 ?_
 refine pU 31 32 38 42 ?_
 refine pU 32 33 38 43 ?_
 refine pU 33 34 38 44 ?_
 refine pU 34 35 38 45 ?_
 refine pU 35 36 38 46 ?_
 refine pF 36 37 38 47 ?_
 refine pF 37 38 38 10 ?_
 refine done_ (done_of HT_.out (by kernel_rfl)) ?_
 try go_wp2
 go_ret
 exact ⟨by first | rfl | (simp [*, errW_none, errW_some] <;> rfl), bX HB.out⟩

end Go.Proofs.YtgpgamapopnfcaaDoor.Q
