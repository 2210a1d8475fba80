/- Printed by a program of this session (wip/mp.py over the kit's print.py): functions of the translation as plain Lean functions, and that the machine's calls do what these say. -/
import Derived.Test.YtnjnjffjblgldaaQx0
import Derived.Test.YtnjnjffjblgldaaQx3
import Derived.Test.YtnjnjffjblgldaaQx5
import Derived.Test.YtnjnjffjblgldaaQx8
import Derived.Test.YtnjnjffjblgldaaQx9
namespace Go.Proofs.Ytnjnjffjblgldaa.Q
open Go.RowKit Go.Proofs.Ytnjnjffjblgldaa.HB Go.Proofs.YtnjnjffjblgldaaW.PrintWords Go.Proofs.YtnjnjffjblgldaaW.PrintLast Go.Proofs.YtnjnjffjblgldaaW.PrintMore
attribute [local go_sem] max2_int min2_int max_two min_two max_three min_three max_four min_four   -- for this text's walks alone
set_option linter.unusedVariables false
set_option linter.unusedSimpArgs false

/-! ### spec_l01Min: function 35 -/

def spec_l01Min.f (a0 : Int) (a1 : Int) : Option (Int) := if a0 < a1 then (some a0) else (some a1)
set_option maxHeartbeats 60000000 in
set_option maxRecDepth 100000 in
theorem spec_l01Min.calls (a0 : Int) (a1 : Int) (r : Int) (w : World) (h : spec_l01Min.f a0 a1 = some r) :
    Calls Try.prog 35 #[.int .i64 a0, .int .i64 a1] w fun e w' => e = .returned (.int .i64 r) ∧ Drawn0 w w' := by
 have H : (if a0 < a1 then (some a0) else (some a1)) = some r := h
 clear h
 by_cases c3 : a0 < a1
 ·
  rw [if_pos c3] at H
  have c3b0 : decide (a0 < a1) = true := decide_eq_true c3
  clear c3
  obtain rfl := Option.some.inj H
  go_enter Try.func35, Try.ntmps35
  go_wp2
  go_ret
  exact ⟨by first | rfl | (simp; done) | (simp [*]; done), by repeat (first | exact Drawn0.refl _ | apply Drawn0.step)⟩
 rw [if_neg c3] at H
 have c3b0 : decide (a0 < a1) = false := decide_eq_false c3
 clear c3
 obtain rfl := Option.some.inj H
 go_enter Try.func35, Try.ntmps35
 go_wp2
 go_ret
 exact ⟨by first | rfl | (simp; done) | (simp [*]; done), by repeat (first | exact Drawn0.refl _ | apply Drawn0.step)⟩

/-! ### spec_TopicFetch: function 9 -/
abbrev spec_TopicFetch.b0 : Array Bool := #[false, true, false, false, false, false, false, false, false, false, false, false, false]
abbrev spec_TopicFetch.b1 : Array Bool := #[false, true, true, false, false, false, false, false, false, false, false, false, false]
abbrev spec_TopicFetch.b2 : Array Bool := #[true, true, true, false, false, false, false, false, false, true, false, false, false]
abbrev spec_TopicFetch.b3 : Array Bool := #[true, true, true, true, false, false, false, false, false, true, false, false, false]
abbrev spec_TopicFetch.b4 : Array Bool := #[true, true, true, true, true, false, false, false, false, true, false, false, false]
abbrev spec_TopicFetch.b5 : Array Bool := #[true, true, true, true, true, true, false, false, false, true, false, false, false]
abbrev spec_TopicFetch.b6 : Array Bool := #[true, true, true, true, true, true, true, false, false, true, false, false, false]
abbrev spec_TopicFetch.b7 : Array Bool := #[true, true, true, true, true, true, true, true, false, true, false, false, false]
abbrev spec_TopicFetch.b8 : Array Bool := #[false, true, false, false, false, false, false, false, false, false, false]
abbrev spec_TopicFetch.b9 : Array Bool := #[false, true, false, true, false, false, false, false, false, false, false]
abbrev spec_TopicFetch.b10 : Array Bool := #[false, true, false, true, false, true, false, false, false, false, false]
abbrev spec_TopicFetch.b11 : Array Bool := #[false, true, false, true, false, true, true, false, false, false, false]
abbrev spec_TopicFetch.b12 : Array Bool := #[true, true, false, true, false, true, true, false, false, false, false]
abbrev spec_TopicFetch.b13 : Array Bool := #[true, true, false, true, true, true, true, false, false, false, false]
abbrev spec_TopicFetch.b14 : Array Bool := #[true, true, false, true, true, true, true, true, false, false, false]
/-- A slice of that length. -/
def SlF (v : Value) (n : Nat) : Prop := ∃ A c, v = .slice A n c
def spec_TopicFetch.f (k : Nat) (a0_0 : ByteArray) (a0_1 : Int) (l0_2 : List ByteArray) (l0_3 : List (S55)) (a1 : ByteArray) (a2 : Int) : Option (ByteArray × Int × List ByteArray × (List (S55)) × List ByteArray × Int × Int) := (spec_l03Is.f a2 0 20).bind fun t103 => ((spec_l07Begin.f k a0_0 a0_1 l0_2 l0_3 a1 t103).bind fun bt104 => (if bt104.2.2.2.2.2 = 0 then (if 0 ≤ bt104.2.2.2.2.1 then (if bt104.2.2.2.2.1 < (bt104.2.2.2.1.length : Int) then ((spec_l01Min.f (l0_2.length : Int) (wrap64 ((wrap64 (((rd_T55 bt104.2.2.2.1 bt104.2.2.2.2.1).f1) - a0_1)) + a2))).bind fun t116 => ((some (([] : List ByteArray) : List ByteArray)).bind fun y117 => (if 0 ≤ (wrap64 (((rd_T55 bt104.2.2.2.1 bt104.2.2.2.2.1).f1) - a0_1)) then (if (wrap64 (((rd_T55 bt104.2.2.2.1 bt104.2.2.2.2.1).f1) - a0_1)) ≤ t116 then (if t116 ≤ (l0_2.length : Int) then (if y117.length + ((l0_2.take (t116 : Int).toNat).drop ((wrap64 (((rd_T55 bt104.2.2.2.1 bt104.2.2.2.2.1).f1) - a0_1)) : Int).toNat).length < 8796093022208 then (some (bt104.1, bt104.2.1, bt104.2.2.1, bt104.2.2.2.1, (y117 ++ ((l0_2.take (t116 : Int).toNat).drop ((wrap64 (((rd_T55 bt104.2.2.2.1 bt104.2.2.2.2.1).f1) - a0_1)) : Int).toNat)), (rd_T55 bt104.2.2.2.1 bt104.2.2.2.2.1).f1, 0)) else (none)) else (none)) else (none)) else (none)))) else (none)) else (none)) else ((spec_l07Ill.f bt104.2.2.2.2.2).bind fun bt124 => (some (bt124.1, bt124.2.1, bt124.2.2.1, bt124.2.2.2.1, bt124.2.2.2.2.1, bt124.2.2.2.2.2.1, bt124.2.2.2.2.2.2)))))
theorem spec_TopicFetch.mono : ∀ a0 a1 a2 a3 a4 a5 k, LeO (spec_TopicFetch.f k a0 a1 a2 a3 a4 a5) (spec_TopicFetch.f (k + 1) a0 a1 a2 a3 a4 a5) := by
  intro a0 a1 a2 a3 a4 a5 k
  unfold spec_TopicFetch.f
  repeat' first
      | (with_reducible exact spec_l07Begin.mono _ _ _ _ _ _ _)
      | (with_reducible exact LeO.refl _)
      | (with_reducible exact LeO.none _)
      | (with_reducible refine LeO.ite ?_ ?_)
      | (with_reducible refine LeO.bind ?_ (fun _ => ?_))
      | exact spec_l07Begin.mono _ _ _ _ _ _ _
      | exact LeO.none _
      | refine LeO.ite ?_ ?_
      | refine LeO.bind ?_ (fun _ => ?_)
def spec_TopicFetch.T1 : Bool × List (List Nat × List Nat) := (true, [([], []), ([], []), ([], []), ([2], [2]), ([0, 1, 3, 3], [0, 1, 3]), ([4], [4]), ([5], [5]), ([5], [5]), ([5], [5]), ([], []), ([9, 6, 4, 0, 1, 2, 3, 4, 5, 6, 9], [6, 9]), ([7, 10, 0, 1, 2, 3, 4, 5, 6, 7, 9, 10], [7]), ([8, 11, 0, 1, 2, 3, 4, 5, 6, 7, 8, 9, 10, 11], [8])])
def spec_TopicFetch.B1 : List Nat := [0, 0, 0, 4, 15, 31, 63, 63, 63, 0, 639, 1791, 4095]
theorem spec_TopicFetch.tab1 : rtab .any (opsOf Try.f9 1) = spec_TopicFetch.T1 := by kernel_rfl
theorem spec_TopicFetch.bits1 : waitsOk spec_TopicFetch.T1.2 spec_TopicFetch.B1 = true := by kernel_rfl
def spec_TopicFetch.T7 : Bool × List (List Nat × List Nat) := (true, [([], []), ([], []), ([], []), ([], []), ([3], [3]), ([], []), ([], []), ([4, 5, 6], [4, 5, 6]), ([2, 7], [2, 7]), ([0, 1, 8], [0, 1, 8]), ([9, 8, 0, 1, 2, 3, 4, 5, 6, 7, 8, 9], [9])])
def spec_TopicFetch.B7 : List Nat := [0, 0, 0, 0, 8, 0, 0, 120, 252, 511, 1023]
theorem spec_TopicFetch.tab7 : rtab .any (opsOf Try.f9 7) = spec_TopicFetch.T7 := by kernel_rfl
theorem spec_TopicFetch.bits7 : waitsOk spec_TopicFetch.T7.2 spec_TopicFetch.B7 = true := by kernel_rfl
set_option maxHeartbeats 60000000 in
set_option maxRecDepth 100000 in
theorem spec_TopicFetch.calls (k : Nat) (a0_0 : ByteArray) (a0_1 : Int) (A0_2 : Option Addr) (c0_2 : Nat) (l0_2 : List ByteArray) (A0_3 : Option Addr) (c0_3 : Nat) (l0_3 : List (S55)) (a1 : ByteArray) (a2 : Int) (r1 : ByteArray) (r2 : Int) (r3 : List ByteArray) (r4 : List (S55)) (r5 : List ByteArray) (r6 : Int) (r7 : Int) (w : World) (hr0_2 : Kd.C Kd.string w A0_2 l0_2.length l0_2) (hc0_2 : l0_2.length ≤ c0_2) (hr0_3 : Kd.C k55 w A0_3 l0_3.length l0_3) (hc0_3 : l0_3.length ≤ c0_3) (h : spec_TopicFetch.f k a0_0 a0_1 l0_2 l0_3 a1 a2 = some (r1, r2, r3, r4, r5, r6, r7)) :
    Calls Try.prog 9 #[.agg #[.string a0_0, .int .i64 a0_1, .slice A0_2 l0_2.length c0_2, .slice A0_3 l0_3.length c0_3], .string a1, .int .i64 a2] w fun e w' => ∃ v2_ v3_ v4_ : Value, e = .returned (.agg #[.string r1, .int .i64 r2, v2_, v3_, v4_, .int .i64 r6, .int .i64 r7]) ∧ Kd.R Kd.string 9 w' w.heap.size (fun k_ => some k_ ≠ (v4_ : Value).ownBlock) v2_ r3 ∧ Kd.R k55 55 w' w.heap.size (fun _ => True) v3_ r4 ∧ Kd.R Kd.string 9 w' w.heap.size (fun k_ => some k_ ≠ (v2_ : Value).ownBlock) v4_ r5 ∧ Below w.heap.size w w' := by
 have hu29 := Try.underlying29
 have hu31 := Try.underlying31
 have HR0_2 := AM hr0_2
 have HC0_2 := AM hc0_2
 clear hr0_2 hc0_2
 have HR0_3 := AM hr0_3
 have HC0_3 := AM hc0_3
 clear hr0_3 hc0_3
 have HB := AM (Below.refl w.heap.size w)
 have H : ((spec_l03Is.f a2 0 20).bind fun t103 => ((spec_l07Begin.f k a0_0 a0_1 l0_2 l0_3 a1 t103).bind fun bt104 => (if bt104.2.2.2.2.2 = 0 then (if 0 ≤ bt104.2.2.2.2.1 then (if bt104.2.2.2.2.1 < (bt104.2.2.2.1.length : Int) then ((spec_l01Min.f (l0_2.length : Int) (wrap64 ((wrap64 (((rd_T55 bt104.2.2.2.1 bt104.2.2.2.2.1).f1) - a0_1)) + a2))).bind fun t116 => ((some (([] : List ByteArray) : List ByteArray)).bind fun y117 => (if 0 ≤ (wrap64 (((rd_T55 bt104.2.2.2.1 bt104.2.2.2.2.1).f1) - a0_1)) then (if (wrap64 (((rd_T55 bt104.2.2.2.1 bt104.2.2.2.2.1).f1) - a0_1)) ≤ t116 then (if t116 ≤ (l0_2.length : Int) then (if y117.length + ((l0_2.take (t116 : Int).toNat).drop ((wrap64 (((rd_T55 bt104.2.2.2.1 bt104.2.2.2.2.1).f1) - a0_1)) : Int).toNat).length < 8796093022208 then (some (bt104.1, bt104.2.1, bt104.2.2.1, bt104.2.2.2.1, (y117 ++ ((l0_2.take (t116 : Int).toNat).drop ((wrap64 (((rd_T55 bt104.2.2.2.1 bt104.2.2.2.2.1).f1) - a0_1)) : Int).toNat)), (rd_T55 bt104.2.2.2.1 bt104.2.2.2.2.1).f1, 0)) else (none)) else (none)) else (none)) else (none)))) else (none)) else (none)) else ((spec_l07Ill.f bt104.2.2.2.2.2).bind fun bt124 => (some (bt124.1, bt124.2.1, bt124.2.2.1, bt124.2.2.2.1, bt124.2.2.2.2.1, bt124.2.2.2.2.2.1, bt124.2.2.2.2.2.2)))))) = some (r1, r2, r3, r4, r5, r6, r7) := h
 clear h
 replace H := Option.bind_eq_some_iff.mp H
 obtain ⟨t103, A40, H⟩ := H
 replace H : ((spec_l07Begin.f k a0_0 a0_1 l0_2 l0_3 a1 t103).bind fun bt104 => (if bt104.2.2.2.2.2 = 0 then (if 0 ≤ bt104.2.2.2.2.1 then (if bt104.2.2.2.2.1 < (bt104.2.2.2.1.length : Int) then ((spec_l01Min.f (l0_2.length : Int) (wrap64 ((wrap64 (((rd_T55 bt104.2.2.2.1 bt104.2.2.2.2.1).f1) - a0_1)) + a2))).bind fun t116 => ((some (([] : List ByteArray) : List ByteArray)).bind fun y117 => (if 0 ≤ (wrap64 (((rd_T55 bt104.2.2.2.1 bt104.2.2.2.2.1).f1) - a0_1)) then (if (wrap64 (((rd_T55 bt104.2.2.2.1 bt104.2.2.2.2.1).f1) - a0_1)) ≤ t116 then (if t116 ≤ (l0_2.length : Int) then (if y117.length + ((l0_2.take (t116 : Int).toNat).drop ((wrap64 (((rd_T55 bt104.2.2.2.1 bt104.2.2.2.2.1).f1) - a0_1)) : Int).toNat).length < 8796093022208 then (some (bt104.1, bt104.2.1, bt104.2.2.1, bt104.2.2.2.1, (y117 ++ ((l0_2.take (t116 : Int).toNat).drop ((wrap64 (((rd_T55 bt104.2.2.2.1 bt104.2.2.2.2.1).f1) - a0_1)) : Int).toNat)), (rd_T55 bt104.2.2.2.1 bt104.2.2.2.2.1).f1, 0)) else (none)) else (none)) else (none)) else (none)))) else (none)) else (none)) else ((spec_l07Ill.f bt104.2.2.2.2.2).bind fun bt124 => (some (bt124.1, bt124.2.1, bt124.2.2.1, bt124.2.2.2.1, bt124.2.2.2.2.1, bt124.2.2.2.2.2.1, bt124.2.2.2.2.2.2))))) = some (r1, r2, r3, r4, r5, r6, r7) := H
 have A4 := AM A40
 clear A40
 replace H := Option.bind_eq_some_iff.mp H
 obtain ⟨⟨t104, t105, t106, t109, t112, t113⟩, A50, H⟩ := H
 try dsimp only at H
 have A5 := AM A50
 clear A50
 by_cases c6 : t113 = 0
 ·
  rw [if_pos c6] at H
  have c6b0 : (t113 == 0) = true := beq_iff_eq.mpr c6
  have c6b1 : (t113 != 0) = false := bne_eq_false_iff_eq.mpr c6
  clear c6
  by_cases c7 : 0 ≤ t112
  ·
   rw [if_pos c7] at H
   have c7b0 : decide (0 ≤ t112) = true := decide_eq_true c7
   clear c7
   by_cases c8 : t112 < (t109.length : Int)
   ·
    rw [if_pos c8] at H
    have c8b0 : decide (t112 < (t109.length : Int)) = true := decide_eq_true c8
    clear c8
    replace H := Option.bind_eq_some_iff.mp H
    obtain ⟨t116, A90, H⟩ := H
    replace H : ((some (([] : List ByteArray) : List ByteArray)).bind fun y117 => (if 0 ≤ (wrap64 (((rd_T55 t109 t112).f1) - a0_1)) then (if (wrap64 (((rd_T55 t109 t112).f1) - a0_1)) ≤ t116 then (if t116 ≤ (l0_2.length : Int) then (if y117.length + ((l0_2.take (t116 : Int).toNat).drop ((wrap64 (((rd_T55 t109 t112).f1) - a0_1)) : Int).toNat).length < 8796093022208 then (some (t104, t105, t106, t109, (y117 ++ ((l0_2.take (t116 : Int).toNat).drop ((wrap64 (((rd_T55 t109 t112).f1) - a0_1)) : Int).toNat)), (rd_T55 t109 t112).f1, 0)) else (none)) else (none)) else (none)) else (none))) = some (r1, r2, r3, r4, r5, r6, r7) := H
    have A9 := AM A90
    clear A90
    obtain ⟨y117, hy117⟩ : ∃ y_ : List ByteArray, y_ = (([] : List ByteArray)) := ⟨_, rfl⟩
    replace H : (if 0 ≤ (wrap64 (((rd_T55 t109 t112).f1) - a0_1)) then (if (wrap64 (((rd_T55 t109 t112).f1) - a0_1)) ≤ t116 then (if t116 ≤ (l0_2.length : Int) then (if y117.length + ((l0_2.take (t116 : Int).toNat).drop ((wrap64 (((rd_T55 t109 t112).f1) - a0_1)) : Int).toNat).length < 8796093022208 then (some (t104, t105, t106, t109, (y117 ++ ((l0_2.take (t116 : Int).toNat).drop ((wrap64 (((rd_T55 t109 t112).f1) - a0_1)) : Int).toNat)), (rd_T55 t109 t112).f1, 0)) else (none)) else (none)) else (none)) else (none)) = some (r1, r2, r3, r4, r5, r6, r7) := by first | (rw [hy117]; with_reducible exact H) | (have H2_ := (Option.bind_some _ _).symm.trans H; rw [hy117]; with_reducible exact H2_) | (have H2_ := (Option.bind_some _ _).symm.trans H; with_reducible exact H2_) | with_reducible exact H | (rw [hy117]; exact H) | exact H
    have Ny117 := AM hy117
    clear hy117
    obtain ⟨ji10, hji10⟩ : ∃ j_ : Int, (wrap64 (((rd_T55 t109 t112).f1) - a0_1)) = j_ := ⟨_, rfl⟩
    replace H : (if 0 ≤ (ji10) then (if (ji10) ≤ t116 then (if t116 ≤ (l0_2.length : Int) then (if y117.length + ((l0_2.take (t116 : Int).toNat).drop ((ji10) : Int).toNat).length < 8796093022208 then (some (t104, t105, t106, t109, (y117 ++ ((l0_2.take (t116 : Int).toNat).drop ((ji10) : Int).toNat)), (rd_T55 t109 t112).f1, 0)) else (none)) else (none)) else (none)) else (none)) = some (r1, r2, r3, r4, r5, r6, r7) := by first | (rw [hji10] at H; exact H) | (simp only [hji10] at H ⊢; exact H)
    (try rw [hji10] at A4)
    (try rw [hji10] at A5)
    (try rw [hji10] at A9)
    have hji10w : (IntKind.i64.wrap (((rd_T55 t109 t112).f1) - a0_1)) = ji10 := (i64_w _).trans hji10
    by_cases c11 : 0 ≤ (ji10)
    ·
     rw [if_pos c11] at H
     have c11b0 := eq_true c11
     have c11b1 : decide (0 ≤ (ji10)) = true := decide_eq_true c11
     clear c11
     by_cases c12 : (ji10) ≤ t116
     ·
      rw [if_pos c12] at H
      have c12b0 := eq_true c12
      have c12b1 : decide ((ji10) ≤ t116) = true := decide_eq_true c12
      clear c12
      by_cases c13 : t116 ≤ (l0_2.length : Int)
      ·
       rw [if_pos c13] at H
       have c13b0 := eq_true c13
       have c13b1 : decide (t116 ≤ (l0_2.length : Int)) = true := decide_eq_true c13
       clear c13
       by_cases c14 : y117.length + ((l0_2.take (t116 : Int).toNat).drop ((ji10) : Int).toNat).length < 8796093022208
       ·
        rw [if_pos c14] at H
        have LMc14 := AM c14
        clear c14
        obtain ⟨y121, hy121⟩ : ∃ y_ : List ByteArray, y_ = (y117 ++ ((l0_2.take (t116 : Int).toNat).drop ((ji10) : Int).toNat)) := ⟨_, rfl⟩
        replace H : (some (t104, t105, t106, t109, y121, (rd_T55 t109 t112).f1, 0)) = some (r1, r2, r3, r4, r5, r6, r7) := by first | (rw [hy121]; with_reducible exact H) | (have H2_ := (Option.bind_some _ _).symm.trans H; rw [hy121]; with_reducible exact H2_) | (have H2_ := (Option.bind_some _ _).symm.trans H; with_reducible exact H2_) | with_reducible exact H | (rw [hy121]; exact H) | exact H
        have Ny121 := AM hy121
        clear hy121
        simp only [Option.some.injEq, Prod.mk.injEq] at H
        obtain ⟨rfl, rfl, rfl, rfl, rfl, rfl, rfl⟩ := H
        go_enter Try.func9, Try.ntmps9
        try go_wp2_with (first | ((with_reducible refine gate_dst (N := 3) rfl ?_); refine box_event (by rfl) (N := 3) (by rfl) (cs := #[.string a0_0, .int .i64 a0_1, .slice A0_2 l0_2.length c0_2, .slice A0_3 l0_3.length c0_3]) (t := 29) (by first | (go_simp; done) | (go_simp; rfl)) ?_; intro gb101 hg w15 hbox hb; have _ := AM (below_step (bX HB.out) hb); have _ := AM (hbox); have n2_ := AM ((by rw [hg]; exact (bZ (bX HB.out)) : w.heap.size ≤ gb101)); clear HB; rename_i HB BK101; have GW101 := n2_; have GE101 := n2_; clear n2_; clear hb hbox hg) | ((with_reducible refine gate_dst (N := 6) rfl ?_); refine box_event (by rfl) (N := 6) (by rfl) (cs := #[.string (⟨#[]⟩ : ByteArray), .int .i64 0, .slice none 0 0, .slice none 0 0, .slice none 0 0, .int .i64 0, .int .i64 0]) (t := 31) (by first | (go_simp; done) | (go_simp; rfl)) ?_; intro gb102 hg w16 hbox hb; have _ := AM (nB BK101.out hb); have _ := AM (below_step (bX HB.out) hb); have _ := AM (hbox); have n3_ := AM ((by rw [hg]; exact (bZ (bX HB.out)) : w.heap.size ≤ gb102)); have _ := AM (lX hg BK101.out); have _ := AM (lX hg BK101.out).symm; clear BK101 HB; rename_i BK101 HB BK102 NB101_102 NB102_101; have GW102 := n3_; have GE102 := n3_; clear n3_; clear hb hbox hg))
        have _ := AM (kD BK101.out)
        have _ := AM (kD BK102.out)
        have _ := AM (bD HB.out)
        clear BK101 BK102 HB
        rename_i BK101 BK102 HB
        refine start_ (n := 13) (S := fun w' => w'.cell? ⟨gb101, 0, none⟩ = some (.string a0_0) ∧ w'.cell? ⟨gb101, 1, none⟩ = some (.int .i64 a0_1) ∧ w'.cell? ⟨gb101, 2, none⟩ = some (.slice A0_2 l0_2.length c0_2) ∧ w'.cell? ⟨gb101, 3, none⟩ = some (.slice A0_3 l0_3.length c0_3)) (ds := []) (upTo 0 13) (by kernel_rfl) rfl rfl (q4 BK101.out) (fun hHeld => ?_); refine with_tabW spec_TopicFetch.tab1 spec_TopicFetch.bits1 (fun HT_ HW_ => ?_)
        generalize w16.drew = w17 at BK101 BK102 HB hHeld ⊢
        refine pF2 1 15 spec_TopicFetch.b0 ?_
        refine pF2 2 16 spec_TopicFetch.b1 ?_
        refine pT2 0 14 (upTo 3 13) ?_ hHeld
        refine join_ (σ := Value × Value × Nat) 3 (upTo 10 13) (fun s_ => [(17, .bool t103), (18, .tuple #[.agg #[.string t104, .int .i64 t105, s_.1, s_.2.1], .int .i64 t112, .int .i64 t113]), (7, .pointer (some ⟨s_.2.2, 0, none⟩)), (13, .tuple #[.agg #[.string t104, .int .i64 t105, s_.1, s_.2.1], .int .i64 t112, .int .i64 t113]), (19, .agg #[.string t104, .int .i64 t105, s_.1, s_.2.1]), (20, .int .i64 t112), (21, .int .i64 t113)]) (fun s_ w' => (w'.cell? ⟨gb101, 0, none⟩ = some (.string a0_0) ∧ w'.cell? ⟨gb101, 1, none⟩ = some (.int .i64 a0_1) ∧ w'.cell? ⟨gb101, 2, none⟩ = some (.slice A0_2 l0_2.length c0_2) ∧ w'.cell? ⟨gb101, 3, none⟩ = some (.slice A0_3 l0_3.length c0_3)) ∧ (Kd.R Kd.string 9 w' w.heap.size (fun _ => True) s_.1 t106) ∧ (Kd.R k55 55 w' w.heap.size (fun _ => True) s_.2.1 t109) ∧ (w'.heap[gb101]? = some (.cells #[.string a0_0, .int .i64 a0_1, .slice A0_2 l0_2.length c0_2, .slice A0_3 l0_3.length c0_3] 29 (0, 0))) ∧ (w'.heap[gb102]? = some (.cells #[.string (⟨#[]⟩ : ByteArray), .int .i64 0, .slice none 0 0, .slice none 0 0, .slice none 0 0, .int .i64 0, .int .i64 0] 31 (0, 0))) ∧ (w'.heap[s_.2.2]? = some (.cells #[.string (⟨#[]⟩ : ByteArray), .int .i64 0, .slice none 0 0, .slice none 0 0] 29 (0, 0))) ∧ (w.heap.size ≤ s_.2.2) ∧ (w.heap.size ≤ s_.2.2) ∧ (gb101 ≠ s_.2.2) ∧ (s_.2.2 ≠ gb101) ∧ (gb102 ≠ s_.2.2) ∧ (s_.2.2 ≠ gb102) ∧ (Below w.heap.size w w')) ?_ ?_
        rotate_left
        ·
         intro hCont
         refine two_ (i := 3) (j := 9) (Ni := some 17) (Nj := some 7) (upTo 4 13) spec_TopicFetch.b2 rfl rfl rfl rfl (two_of HT_.out (by kernel_rfl)) (by decide) (by decide) (fun K hK => ?_) (fun K hK => ?_)
         ·
          skip
          refine goes_ Try.func33 (by kernel_rfl) rfl #[.int .i64 a2, .int .i64 0, .int .i64 20] (by rfl) rfl rfl (by (try simp only [mA, mB, mC]); first | done | rfl | (simp only [mD, mE]; rfl)) ?_
          with_reducible refine (spec_l03Is.calls a2 0 20 t103 _ A4.out).mono ?_
          rintro e w' ⟨rfl, ⟨nd, rfl⟩⟩
          refine ⟨_, rfl, ?_⟩
          refine hK.out _ _ (q4 BK101.out) (fun hHeld => ?_)
          clear hK K
          refine norm_ (a' := ?_) ?_ ?_
          rotate_left
          ·
           show Act.put _ (some 17) _ = _
           simp only [Act.put, sA, sB, sC, i64_w, i32_w]
           rfl
          refine two_ (i := 4) (j := 9) (Ni := some 18) (Nj := some 7) (upTo 5 13) spec_TopicFetch.b3 rfl rfl rfl rfl (two_of HT_.out (by kernel_rfl)) (by decide) (by decide) (fun K hK => ?_) (fun K hK => ?_)
          ·
           skip
           refine goes_ Try.func32 (by kernel_rfl) rfl #[.agg #[.string a0_0, .int .i64 a0_1, .slice A0_2 l0_2.length c0_2, .slice A0_3 l0_3.length c0_3], .string a1, .bool t103] (by rfl) rfl rfl (by (try simp only [mA, mB, mC]); first | done | rfl | (simp only [mD, mE]; rfl)) ?_
           with_reducible refine (spec_l07Begin.calls k a0_0 a0_1 _ _ l0_2 _ _ l0_3 a1 t103 t104 t105 t106 t109 t112 t113 _ ?side1 ?side2 ?side3 ?side4 A5.out).mono ?_
           (case side1 => repeat (first | exact (cB HR0_2.out (bX HB.out)) | (with_reducible first | apply cA | apply cN | apply cD)))
           (case side2 => exact HC0_2.out)
           (case side3 => repeat (first | exact (cB HR0_3.out (bX HB.out)) | (with_reducible first | apply cA | apply cN | apply cD)))
           (case side4 => exact HC0_3.out)
           rintro e w18 ⟨B2_, d2_, B3_, d3_, rfl, hz_, hb⟩; obtain ⟨ho0, ho1⟩ := hz_ (beq_iff_eq.mp c6b0); clear hz_; generalize hgv_ : (Value.slice B2_ t106.length d2_) = v107 at ho0 ⊢; generalize hgw_ : (Value.slice B3_ t109.length d3_) = v110 at ho1 ⊢; clear hgv_ hgw_
           refine ⟨_, rfl, ?_⟩
           have _ := AM (Kd.R_lower ho0 (bZ (bX HB.out)))
           have _ := AM (Kd.R_lower ho1 (bZ (bX HB.out)))
           have _ := AM (nB BK101.out hb)
           have _ := AM (nB BK102.out hb)
           have _ := AM (below_step (bX HB.out) hb)
           clear BK101 BK102 HB
           rename_i HO108 HO111 BK101 BK102 HB
           (try clear hb)
           (try clear hk)
           (try clear ho0)
           (try clear ho1)
           refine hK.out _ _ (q4 BK101.out) (fun hHeld => ?_)
           clear hK K
           refine norm_ (a' := ?_) ?_ ?_
           rotate_left
           ·
            show Act.put _ (some 18) _ = _
            simp only [Act.put, sA, sB, sC, i64_w, i32_w]
            rfl
           refine pF 5 6 13 13 ?_
           refine pF 6 7 13 19 ?_
           refine pF 7 8 13 20 ?_
           refine pF 8 9 13 21 ?_
           refine one_ (i := 9) (N := some 7) (upTo 10 13) rfl rfl (one_of HT_.out (by kernel_rfl)) (by decide) (fun K hK => ?_)
           refine box_step ?hg (N := 7) ?hd (cs := #[.string (⟨#[]⟩ : ByteArray), .int .i64 0, .slice none 0 0, .slice none 0 0]) (t := 29) ?hr ?_; (case hd => rfl); (case hg => rfl); (case hr => first | (go_simp; done) | (go_simp; rfl))
           intro gb114 hg w19 hbox hb
           have _ := AM (Kd.R_below (rX HO108.out) hb)
           have _ := AM (Kd.R_below (rX HO111.out) hb)
           have _ := AM (nB BK101.out hb)
           have _ := AM (nB BK102.out hb)
           have _ := AM (below_step (bX HB.out) hb)
           have _ := AM (hbox)
           have _ := AM ((by rw [hg]; exact (bZ (bX HB.out)) : w.heap.size ≤ gb114))
           have _ := AM ((by rw [hg]; exact (bZ (bX HB.out)) : w.heap.size ≤ gb114))
           have _ := AM (lX hg BK101.out)
           have _ := AM (lX hg BK101.out).symm
           have _ := AM (lX hg BK102.out)
           have _ := AM (lX hg BK102.out).symm
           clear HO108 HO111 BK101 BK102 HB
           rename_i HO108 HO111 BK101 BK102 HB BK114 GW114 GE114 NB101_114 NB114_101 NB102_114 NB114_102
           clear hb hbox hg
           refine hK.out _ _ (q4 BK101.out) (fun hHeld => ?_)
           clear hK K
           refine norm_ (a' := ?_) ?_ ?_
           rotate_left
           ·
            show Act.put _ (some 7) _ = _
            simp only [Act.put, sA, sB, sC, i64_w, i32_w]
            rfl
           exact norm_ (by simp only [putAll, Act.put, List.setIfInBounds_toArray, List.set_cons_zero, List.set_cons_succ]) (hCont (v107, v110, gb114) _ ⟨hHeld, (rX HO108.out), (rX HO111.out), (kX BK101.out), (kX BK102.out), (kX BK114.out), GW114.out, GE114.out, NB101_114.out, NB114_101.out, NB102_114.out, NB114_102.out, (bX HB.out)⟩)
          skip
          refine box_step ?hg (N := 7) ?hd (cs := #[.string (⟨#[]⟩ : ByteArray), .int .i64 0, .slice none 0 0, .slice none 0 0]) (t := 29) ?hr ?_; (case hd => rfl); (case hg => rfl); (case hr => first | (go_simp; done) | (go_simp; rfl))
          intro gb114 hg w18 hbox hb
          have _ := AM (nB BK101.out hb)
          have _ := AM (nB BK102.out hb)
          have _ := AM (below_step (bX HB.out) hb)
          have _ := AM (hbox)
          have _ := AM ((by rw [hg]; exact (bZ (bX HB.out)) : w.heap.size ≤ gb114))
          have _ := AM ((by rw [hg]; exact (bZ (bX HB.out)) : w.heap.size ≤ gb114))
          have _ := AM (lX hg BK101.out)
          have _ := AM (lX hg BK101.out).symm
          have _ := AM (lX hg BK102.out)
          have _ := AM (lX hg BK102.out).symm
          clear BK101 BK102 HB
          rename_i BK101 BK102 HB BK114 GW114 GE114 NB101_114 NB114_101 NB102_114 NB114_102
          clear hb hbox hg
          refine hK.out _ _ (q4 BK101.out) (fun hHeld => ?_)
          clear hK K
          refine norm_ (a' := ?_) ?_ ?_
          rotate_left
          ·
           show Act.put _ (some 7) _ = _
           simp only [Act.put, sA, sB, sC, i64_w, i32_w]
           rfl
          refine one_ (i := 4) (N := some 18) spec_TopicFetch.b4 rfl rfl (one_of HT_.out (by kernel_rfl)) (by decide) (fun K hK => ?_)
          refine goes_ Try.func32 (by kernel_rfl) rfl #[.agg #[.string a0_0, .int .i64 a0_1, .slice A0_2 l0_2.length c0_2, .slice A0_3 l0_3.length c0_3], .string a1, .bool t103] (by rfl) rfl rfl (by (try simp only [mA, mB, mC]); first | done | rfl | (simp only [mD, mE]; rfl)) ?_
          with_reducible refine (spec_l07Begin.calls k a0_0 a0_1 _ _ l0_2 _ _ l0_3 a1 t103 t104 t105 t106 t109 t112 t113 _ ?side1 ?side2 ?side3 ?side4 A5.out).mono ?_
          (case side1 => repeat (first | exact (cB HR0_2.out HB.out) | (with_reducible first | apply cA | apply cN | apply cD)))
          (case side2 => exact HC0_2.out)
          (case side3 => repeat (first | exact (cB HR0_3.out HB.out) | (with_reducible first | apply cA | apply cN | apply cD)))
          (case side4 => exact HC0_3.out)
          rintro e w19 ⟨B2_, d2_, B3_, d3_, rfl, hz_, hb⟩; obtain ⟨ho0, ho1⟩ := hz_ (beq_iff_eq.mp c6b0); clear hz_; generalize hgv_ : (Value.slice B2_ t106.length d2_) = v107 at ho0 ⊢; generalize hgw_ : (Value.slice B3_ t109.length d3_) = v110 at ho1 ⊢; clear hgv_ hgw_
          refine ⟨_, rfl, ?_⟩
          have _ := AM (Kd.R_lower ho0 (bZ (bX HB.out)))
          have _ := AM (Kd.R_lower ho1 (bZ (bX HB.out)))
          have _ := AM (nB BK101.out hb)
          have _ := AM (nB BK102.out hb)
          have _ := AM (nB BK114.out hb)
          have _ := AM (below_step (bX HB.out) hb)
          clear BK101 BK102 BK114 HB
          rename_i HO108 HO111 BK101 BK102 BK114 HB
          (try clear hb)
          (try clear hk)
          (try clear ho0)
          (try clear ho1)
          refine hK.out _ _ (q4 BK101.out) (fun hHeld => ?_)
          clear hK K
          refine norm_ (a' := ?_) ?_ ?_
          rotate_left
          ·
           show Act.put _ (some 18) _ = _
           simp only [Act.put, sA, sB, sC, i64_w, i32_w]
           rfl
          refine pF2 5 13 spec_TopicFetch.b5 ?_
          refine pF2 6 19 spec_TopicFetch.b6 ?_
          refine pF2 7 20 spec_TopicFetch.b7 ?_
          refine pF2 8 21 (upTo 10 13) ?_
          exact norm_ (by simp only [putAll, Act.put, List.setIfInBounds_toArray, List.set_cons_zero, List.set_cons_succ]) (hCont (v107, v110, gb114) _ ⟨hHeld, (rX HO108.out), (rX HO111.out), (kX BK101.out), (kX BK102.out), (kX BK114.out), GW114.out, GE114.out, NB101_114.out, NB114_101.out, NB102_114.out, NB114_102.out, (bX HB.out)⟩)
         skip
         refine box_step ?hg (N := 7) ?hd (cs := #[.string (⟨#[]⟩ : ByteArray), .int .i64 0, .slice none 0 0, .slice none 0 0]) (t := 29) ?hr ?_; (case hd => rfl); (case hg => rfl); (case hr => first | (go_simp; done) | (go_simp; rfl))
         intro gb114 hg w18 hbox hb
         have _ := AM (nB BK101.out hb)
         have _ := AM (nB BK102.out hb)
         have _ := AM (below_step (bX HB.out) hb)
         have _ := AM (hbox)
         have _ := AM ((by rw [hg]; exact (bZ (bX HB.out)) : w.heap.size ≤ gb114))
         have _ := AM ((by rw [hg]; exact (bZ (bX HB.out)) : w.heap.size ≤ gb114))
         have _ := AM (lX hg BK101.out)
         have _ := AM (lX hg BK101.out).symm
         have _ := AM (lX hg BK102.out)
         have _ := AM (lX hg BK102.out).symm
         clear BK101 BK102 HB
         rename_i BK101 BK102 HB BK114 GW114 GE114 NB101_114 NB114_101 NB102_114 NB114_102
         clear hb hbox hg
         refine hK.out _ _ (q4 BK101.out) (fun hHeld => ?_)
         clear hK K
         refine norm_ (a' := ?_) ?_ ?_
         rotate_left
         ·
          show Act.put _ (some 7) _ = _
          simp only [Act.put, sA, sB, sC, i64_w, i32_w]
          rfl
         refine one_ (i := 3) (N := some 17) spec_TopicFetch.b3 rfl rfl (one_of HT_.out (by kernel_rfl)) (by decide) (fun K hK => ?_)
         refine goes_ Try.func33 (by kernel_rfl) rfl #[.int .i64 a2, .int .i64 0, .int .i64 20] (by rfl) rfl rfl (by (try simp only [mA, mB, mC]); first | done | rfl | (simp only [mD, mE]; rfl)) ?_
         with_reducible refine (spec_l03Is.calls a2 0 20 t103 _ A4.out).mono ?_
         rintro e w' ⟨rfl, ⟨nd, rfl⟩⟩
         refine ⟨_, rfl, ?_⟩
         refine hK.out _ _ (q4 BK101.out) (fun hHeld => ?_)
         clear hK K
         refine norm_ (a' := ?_) ?_ ?_
         rotate_left
         ·
          show Act.put _ (some 17) _ = _
          simp only [Act.put, sA, sB, sC, i64_w, i32_w]
          rfl
         refine one_ (i := 4) (N := some 18) spec_TopicFetch.b4 rfl rfl (one_of HT_.out (by kernel_rfl)) (by decide) (fun K hK => ?_)
         refine goes_ Try.func32 (by kernel_rfl) rfl #[.agg #[.string a0_0, .int .i64 a0_1, .slice A0_2 l0_2.length c0_2, .slice A0_3 l0_3.length c0_3], .string a1, .bool t103] (by rfl) rfl rfl (by (try simp only [mA, mB, mC]); first | done | rfl | (simp only [mD, mE]; rfl)) ?_
         with_reducible refine (spec_l07Begin.calls k a0_0 a0_1 _ _ l0_2 _ _ l0_3 a1 t103 t104 t105 t106 t109 t112 t113 _ ?side1 ?side2 ?side3 ?side4 A5.out).mono ?_
         (case side1 => repeat (first | exact (cB HR0_2.out (bX HB.out)) | (with_reducible first | apply cA | apply cN | apply cD)))
         (case side2 => exact HC0_2.out)
         (case side3 => repeat (first | exact (cB HR0_3.out (bX HB.out)) | (with_reducible first | apply cA | apply cN | apply cD)))
         (case side4 => exact HC0_3.out)
         rintro e w19 ⟨B2_, d2_, B3_, d3_, rfl, hz_, hb⟩; obtain ⟨ho0, ho1⟩ := hz_ (beq_iff_eq.mp c6b0); clear hz_; generalize hgv_ : (Value.slice B2_ t106.length d2_) = v107 at ho0 ⊢; generalize hgw_ : (Value.slice B3_ t109.length d3_) = v110 at ho1 ⊢; clear hgv_ hgw_
         refine ⟨_, rfl, ?_⟩
         have _ := AM (Kd.R_lower ho0 (bZ (bX HB.out)))
         have _ := AM (Kd.R_lower ho1 (bZ (bX HB.out)))
         have _ := AM (nB BK101.out hb)
         have _ := AM (nB BK102.out hb)
         have _ := AM (nB BK114.out hb)
         have _ := AM (below_step (bX HB.out) hb)
         clear BK101 BK102 BK114 HB
         rename_i HO108 HO111 BK101 BK102 BK114 HB
         (try clear hb)
         (try clear hk)
         (try clear ho0)
         (try clear ho1)
         refine hK.out _ _ (q4 BK101.out) (fun hHeld => ?_)
         clear hK K
         refine norm_ (a' := ?_) ?_ ?_
         rotate_left
         ·
          show Act.put _ (some 18) _ = _
          simp only [Act.put, sA, sB, sC, i64_w, i32_w]
          rfl
         refine pF2 5 13 spec_TopicFetch.b5 ?_
         refine pF2 6 19 spec_TopicFetch.b6 ?_
         refine pF2 7 20 spec_TopicFetch.b7 ?_
         refine pF2 8 21 (upTo 10 13) ?_
         exact norm_ (by simp only [putAll, Act.put, List.setIfInBounds_toArray, List.set_cons_zero, List.set_cons_succ]) (hCont (v107, v110, gb114) _ ⟨hHeld, (rX HO108.out), (rX HO111.out), (kX BK101.out), (kX BK102.out), (kX BK114.out), GW114.out, GE114.out, NB101_114.out, NB114_101.out, NB102_114.out, NB114_102.out, (bX HB.out)⟩)
        rintro ⟨v107, v110, gb114⟩ w20 ⟨hS_, h0_, h1_, h2_, h3_, h4_, h5_, h6_, h7_, h8_, h9_, h10_, h11_⟩
        have _ : Aside0 (Kd.R Kd.string 9 w20 w.heap.size (fun _ => True) v107 t106) := ⟨h0_⟩
        have _ : Aside0 (Kd.R k55 55 w20 w.heap.size (fun _ => True) v110 t109) := ⟨h1_⟩
        have _ : Aside0 (w20.heap[gb101]? = some (.cells #[.string a0_0, .int .i64 a0_1, .slice A0_2 l0_2.length c0_2, .slice A0_3 l0_3.length c0_3] 29 (0, 0))) := ⟨h2_⟩
        have _ : Aside0 (w20.heap[gb102]? = some (.cells #[.string (⟨#[]⟩ : ByteArray), .int .i64 0, .slice none 0 0, .slice none 0 0, .slice none 0 0, .int .i64 0, .int .i64 0] 31 (0, 0))) := ⟨h3_⟩
        have _ : Aside0 (w20.heap[gb114]? = some (.cells #[.string (⟨#[]⟩ : ByteArray), .int .i64 0, .slice none 0 0, .slice none 0 0] 29 (0, 0))) := ⟨h4_⟩
        have _ : Aside0 (w.heap.size ≤ gb114) := ⟨h5_⟩
        have _ : Aside0 (w.heap.size ≤ gb114) := ⟨h6_⟩
        have _ : Aside0 (gb101 ≠ gb114) := ⟨h7_⟩
        have _ : Aside0 (gb114 ≠ gb101) := ⟨h8_⟩
        have _ : Aside0 (gb102 ≠ gb114) := ⟨h9_⟩
        have _ : Aside0 (gb114 ≠ gb102) := ⟨h10_⟩
        have _ : Aside0 (Below w.heap.size w w20) := ⟨h11_⟩
        clear BK101 BK102 HB h0_ h1_ h2_ h3_ h4_ h5_ h6_ h7_ h8_ h9_ h10_ h11_
        rename_i HO108 HO111 BK101 BK102 BK114 GW114 GE114 NB101_114 NB114_101 NB102_114 NB114_102 HB
        have hHeld : w20.cell? ⟨gb101, 0, none⟩ = some (.string a0_0) ∧ w20.cell? ⟨gb101, 1, none⟩ = some (.int .i64 a0_1) ∧ w20.cell? ⟨gb101, 2, none⟩ = some (.slice A0_2 l0_2.length c0_2) ∧ w20.cell? ⟨gb101, 3, none⟩ = some (.slice A0_3 l0_3.length c0_3) := hS_
        obtain ⟨Ao23, co23, eo23⟩ := Kd.R_slice HO108.out
        (first | subst eo23 | (injection eo23 with f1_ f2_ f3_; have f4_ := f1_.symm; have f5_ := f3_.symm; clear f1_ f2_ f3_; subst f4_; subst f5_))
        obtain ⟨Ao25, co25, eo25⟩ := Kd.R_slice HO111.out
        (first | subst eo25 | (injection eo25 with f1_ f2_ f3_; have f4_ := f1_.symm; have f5_ := f3_.symm; clear f1_ f2_ f3_; subst f4_; subst f5_))
        refine norm_ (a' := ?_) ?_ ?_
        rotate_left
        ·
         simp only [putAll, Act.put, List.setIfInBounds_toArray, List.set_cons_zero, List.set_cons_succ]
         rfl
        refine one_ (i := 10) (N := none) (upTo 11 13) rfl rfl (one_of HT_.out (by kernel_rfl)) (by decide) (fun K hK => ?_)
        have hs21 : w20.cell? ⟨gb114, 0, none⟩ = some (.string (⟨#[]⟩ : ByteArray)) := (kC BK114.out 0).trans rfl
        have hfs21 := fZ BK114.out 0
        have hns21_0 := NB101_114.out
        have hns21_1 := NB102_114.out
        have hms21_0 := NB114_101.out
        have hms21_1 := NB114_102.out
        have hs22 : w20.cell? ⟨gb114, 1, none⟩ = some (.int .i64 0) := (kC BK114.out 1).trans rfl
        have hfs22 := fZ BK114.out 1
        have hns22_0 := NB101_114.out
        have hns22_1 := NB102_114.out
        have hms22_0 := NB114_101.out
        have hms22_1 := NB114_102.out
        have hs24 : w20.cell? ⟨gb114, 2, none⟩ = some (.slice none 0 0) := (kC BK114.out 2).trans rfl
        have hfs24 := fZ BK114.out 2
        have hns24_0 := NB101_114.out
        have hns24_1 := NB102_114.out
        have hms24_0 := NB114_101.out
        have hms24_1 := NB114_102.out
        have hs26 : w20.cell? ⟨gb114, 3, none⟩ = some (.slice none 0 0) := (kC BK114.out 3).trans rfl
        have hfs26 := fZ BK114.out 3
        have hns26_0 := NB101_114.out
        have hns26_1 := NB102_114.out
        have hms26_0 := NB114_101.out
        have hms26_1 := NB114_102.out
        refine skip_ (w1 := ?_) (by rfl) rfl ?_ ?_
        rotate_left
        ·
         go_simp
         rfl
        refine hK.out _ _ ⟨(cT NB101_114.out ((cT NB101_114.out ((cT NB101_114.out ((cT NB101_114.out (hHeld.1)))))))), (cT NB101_114.out ((cT NB101_114.out ((cT NB101_114.out ((cT NB101_114.out (hHeld.2.1)))))))), (cT NB101_114.out ((cT NB101_114.out ((cT NB101_114.out ((cT NB101_114.out (hHeld.2.2.1)))))))), (cT NB101_114.out ((cT NB101_114.out ((cT NB101_114.out ((cT NB101_114.out (hHeld.2.2.2))))))))⟩ (fun hHeld => ?_)
        clear hK K
        refine pF 11 12 13 8 ?_
        refine pF 12 13 13 9 ?_
        refine done_ (done_of HT_.out (by kernel_rfl)) ?_
        have hnb27 := NB114_101.out
        have hnc27 := NB101_114.out
        have hnb28 := NB114_102.out
        have hnc28 := NB102_114.out
        have hcz29 := q4 BK114.out
        have hfz29 := fZ BK114.out
        have p115 : 0 ≤ (t112 : Int) := of_decide_eq_true (by assumption)
        have q115 : t112 < (t109.length : Int) := of_decide_eq_true (by assumption)
        obtain ⟨ad115, e115, hx115_0, hx115_1⟩ := at_T55 (Kd.R_reads' HO111.out).2.2 t112 p115 q115
        cases e115
        have hn115_0 : ad115.block ≠ gb114 := Kd.own_blk (Kd.R_ne HO111.out BK114.out (by decide))
        have hn115_1 : ad115.block ≠ gb114 := Kd.own_blk (Kd.R_ne HO111.out BK114.out (by decide))
        have hn115_2 : ad115.block ≠ gb114 := Kd.own_blk (Kd.R_ne HO111.out BK114.out (by decide))
        have hn115_3 : ad115.block ≠ gb114 := Kd.own_blk (Kd.R_ne HO111.out BK114.out (by decide))
        replace hx115_0 := (cell_far (p := ⟨gb114, 0, none⟩) (by first | (rw [add_block]; exact hn115_0) | (show (Addr.add _ _).block ≠ _; rw [add_block]; exact hn115_0) | exact hn115_0) (.string t104)).trans hx115_0
        replace hx115_1 := (cell_far (p := ⟨gb114, 0, none⟩) (by first | (rw [add_block]; exact hn115_0) | (show (Addr.add _ _).block ≠ _; rw [add_block]; exact hn115_0) | exact hn115_0) (.string t104)).trans hx115_1
        replace hx115_0 := (cell_far (p := ⟨gb114, 1, none⟩) (by first | (rw [add_block]; exact hn115_1) | (show (Addr.add _ _).block ≠ _; rw [add_block]; exact hn115_1) | exact hn115_1) (.int .i64 t105)).trans hx115_0
        replace hx115_1 := (cell_far (p := ⟨gb114, 1, none⟩) (by first | (rw [add_block]; exact hn115_1) | (show (Addr.add _ _).block ≠ _; rw [add_block]; exact hn115_1) | exact hn115_1) (.int .i64 t105)).trans hx115_1
        replace hx115_0 := (cell_far (p := ⟨gb114, 2, none⟩) (by first | (rw [add_block]; exact hn115_2) | (show (Addr.add _ _).block ≠ _; rw [add_block]; exact hn115_2) | exact hn115_2) (.slice Ao23 t106.length co23)).trans hx115_0
        replace hx115_1 := (cell_far (p := ⟨gb114, 2, none⟩) (by first | (rw [add_block]; exact hn115_2) | (show (Addr.add _ _).block ≠ _; rw [add_block]; exact hn115_2) | exact hn115_2) (.slice Ao23 t106.length co23)).trans hx115_1
        replace hx115_0 := (cell_far (p := ⟨gb114, 3, none⟩) (by first | (rw [add_block]; exact hn115_3) | (show (Addr.add _ _).block ≠ _; rw [add_block]; exact hn115_3) | exact hn115_3) (.slice (some ad115) t109.length co25)).trans hx115_0
        replace hx115_1 := (cell_far (p := ⟨gb114, 3, none⟩) (by first | (rw [add_block]; exact hn115_3) | (show (Addr.add _ _).block ≠ _; rw [add_block]; exact hn115_3) | exact hn115_3) (.slice (some ad115) t109.length co25)).trans hx115_1
        clear hn115_0
        clear hn115_1
        clear hn115_2
        clear hn115_3
        replace p115 := eq_true p115
        replace q115 := eq_true q115
        have hnb30 := NB101_102.out
        have hnc30 := NB102_101.out
        have hcz31 := q4 BK101.out
        have hfz31 := fZ BK101.out
        try go_wp2_with (first | ((with_reducible refine gate_callee (f := 35) rfl ?_); refine goesL_ (some 42) rfl rfl Try.func35 (by kernel_rfl) rfl #[.int .i64 (l0_2.length : Int), .int .i64 (wrap64 ((ji10) + a2))] rfl (by (try simp only [mA, mB, mC]); first | done | (simp only [hji10]; rfl) | rfl | (simp only [mD, mE]; rfl)) ?_; (with_reducible refine (spec_l01Min.calls (l0_2.length : Int) (wrap64 ((ji10) + a2)) t116 _ A9.out).mono ?_); rintro e w' ⟨rfl, ⟨nd, rfl⟩⟩; refine ⟨_, rfl, ?_⟩))
        have n0_ : Aside0 (Kd.R Kd.string 9 ((((w20.setCell ⟨gb114, 0, none⟩ (.string t104)).setCell ⟨gb114, 1, none⟩ (.int .i64 t105)).setCell ⟨gb114, 2, none⟩ (.slice Ao23 t106.length co23)).setCell ⟨gb114, 3, none⟩ (.slice (some ad115) t109.length co25)) w.heap.size (fun _ => True) (.slice Ao23 t106.length co23) t106) := ⟨by (with_reducible repeat (first | apply rA | apply rN | apply rD)); exact Rf4 HO108.out BK114.out (by decide) (fun _ hk => trivial)⟩
        have n1_ : Aside0 (Kd.R k55 55 ((((w20.setCell ⟨gb114, 0, none⟩ (.string t104)).setCell ⟨gb114, 1, none⟩ (.int .i64 t105)).setCell ⟨gb114, 2, none⟩ (.slice Ao23 t106.length co23)).setCell ⟨gb114, 3, none⟩ (.slice (some ad115) t109.length co25)) w.heap.size (fun _ => True) (.slice (some ad115) t109.length co25) t109) := ⟨by (with_reducible repeat (first | apply rA | apply rN | apply rD)); exact Rf4 HO111.out BK114.out (by decide) (fun _ hk => trivial)⟩
        have n2_ : Aside0 (((((w20.setCell ⟨gb114, 0, none⟩ (.string t104)).setCell ⟨gb114, 1, none⟩ (.int .i64 t105)).setCell ⟨gb114, 2, none⟩ (.slice Ao23 t106.length co23)).setCell ⟨gb114, 3, none⟩ (.slice (some ad115) t109.length co25)).heap[gb101]? = some (.cells #[.string a0_0, .int .i64 a0_1, .slice A0_2 l0_2.length c0_2, .slice A0_3 l0_3.length c0_3] 29 (0, 0))) := ⟨by (iterate 4 refine kF NB101_114.out ?_); (with_reducible repeat (first | apply kN | apply kD | apply kA)); exact BK101.out⟩
        have n3_ : Aside0 (((((w20.setCell ⟨gb114, 0, none⟩ (.string t104)).setCell ⟨gb114, 1, none⟩ (.int .i64 t105)).setCell ⟨gb114, 2, none⟩ (.slice Ao23 t106.length co23)).setCell ⟨gb114, 3, none⟩ (.slice (some ad115) t109.length co25)).heap[gb102]? = some (.cells #[.string (⟨#[]⟩ : ByteArray), .int .i64 0, .slice none 0 0, .slice none 0 0, .slice none 0 0, .int .i64 0, .int .i64 0] 31 (0, 0))) := ⟨by (iterate 4 refine kF NB102_114.out ?_); (with_reducible repeat (first | apply kN | apply kD | apply kA)); exact BK102.out⟩
        have n4_ : Aside0 (((((w20.setCell ⟨gb114, 0, none⟩ (.string t104)).setCell ⟨gb114, 1, none⟩ (.int .i64 t105)).setCell ⟨gb114, 2, none⟩ (.slice Ao23 t106.length co23)).setCell ⟨gb114, 3, none⟩ (.slice (some ad115) t109.length co25)).heap[gb114]? = some (.cells #[.string t104, .int .i64 t105, .slice Ao23 t106.length co23, .slice (some ad115) t109.length co25] 29 (0, 0))) := ⟨by refine kP (cs := #[.string t104, .int .i64 t105, .slice Ao23 t106.length co23, .slice none 0 0]) 3 ?_; refine kP (cs := #[.string t104, .int .i64 t105, .slice none 0 0, .slice none 0 0]) 2 ?_; refine kP (cs := #[.string t104, .int .i64 0, .slice none 0 0, .slice none 0 0]) 1 ?_; refine kP (cs := #[.string (⟨#[]⟩ : ByteArray), .int .i64 0, .slice none 0 0, .slice none 0 0]) 0 ?_; (with_reducible repeat (first | apply kN | apply kD | apply kA)); exact BK114.out⟩
        have n5_ : Aside0 (Below w.heap.size w ((((w20.setCell ⟨gb114, 0, none⟩ (.string t104)).setCell ⟨gb114, 1, none⟩ (.int .i64 t105)).setCell ⟨gb114, 2, none⟩ (.slice Ao23 t106.length co23)).setCell ⟨gb114, 3, none⟩ (.slice (some ad115) t109.length co25))) := ⟨bX HB.out⟩
        (try clear HO108)
        (try clear HO111)
        (try clear BK101)
        (try clear BK102)
        (try clear BK114)
        (try clear HB)
        generalize ((((w20.setCell ⟨gb114, 0, none⟩ (.string t104)).setCell ⟨gb114, 1, none⟩ (.int .i64 t105)).setCell ⟨gb114, 2, none⟩ (.slice Ao23 t106.length co23)).setCell ⟨gb114, 3, none⟩ (.slice (some ad115) t109.length co25)) = w32 at n0_ n1_ n2_ n3_ n4_ n5_ ⊢
        have HO108 := n0_
        have HO111 := n1_
        have BK101 := n2_
        have BK102 := n3_
        have BK114 := n4_
        have HB := n5_
        clear n0_ n1_ n2_ n3_ n4_ n5_
        (try (rw [drewN_self w32]; generalize hq_ : World.drewN w32 _ = w32; have _ : Aside0 (Kd.R Kd.string 9 w32 w.heap.size (fun _ => True) (.slice Ao23 t106.length co23) t106) := ⟨by rw [← hq_]; exact (rX HO108.out)⟩; have _ : Aside0 (Kd.R k55 55 w32 w.heap.size (fun _ => True) (.slice (some ad115) t109.length co25) t109) := ⟨by rw [← hq_]; exact (rX HO111.out)⟩; have _ : Aside0 (w32.heap[gb101]? = some (.cells #[.string a0_0, .int .i64 a0_1, .slice A0_2 l0_2.length c0_2, .slice A0_3 l0_3.length c0_3] 29 (0, 0))) := ⟨by rw [← hq_]; exact (kX BK101.out)⟩; have _ : Aside0 (w32.heap[gb102]? = some (.cells #[.string (⟨#[]⟩ : ByteArray), .int .i64 0, .slice none 0 0, .slice none 0 0, .slice none 0 0, .int .i64 0, .int .i64 0] 31 (0, 0))) := ⟨by rw [← hq_]; exact (kX BK102.out)⟩; have _ : Aside0 (w32.heap[gb114]? = some (.cells #[.string t104, .int .i64 t105, .slice Ao23 t106.length co23, .slice (some ad115) t109.length co25] 29 (0, 0))) := ⟨by rw [← hq_]; exact (kX BK114.out)⟩; have _ : Aside0 (Below w.heap.size w w32) := ⟨by rw [← hq_]; exact (bX HB.out)⟩; clear HO108 HO111 BK101 BK102 BK114 HB hq_; rename_i HO108 HO111 BK101 BK102 BK114 HB; have hczu101 := q4 BK101.out; have hfzu101 := fZ BK101.out; have hczu102 := q7 BK102.out; have hfzu102 := fZ BK102.out; have hczu114 := q4 BK114.out; have hfzu114 := fZ BK114.out))
        have _ := AM (rD HO108.out)
        have _ := AM (rD HO111.out)
        have _ := AM (kD BK101.out)
        have _ := AM (kD BK102.out)
        have _ := AM (kD BK114.out)
        have _ := AM (bD HB.out)
        clear HO108 HO111 BK101 BK102 BK114 HB
        rename_i HO108 HO111 BK101 BK102 BK114 HB
        obtain ⟨i034, hi034, _, hsz34, _⟩ := info_parts info9
        obtain ⟨A34, hcut34, hA34, hC34⟩ := print_mid_of (P := Try.prog) Value.string (⟨#[]⟩ : ByteArray) 22 9 .i64 .i64 Try.underlying22 hi034 hsz34 A0_2 c0_2 l0_2 (ji10) t116 (of_decide_eq_true (by assumption)) (by first | omega | exact of_decide_eq_true (by assumption)) (of_decide_eq_true (by assumption)) HC0_2.out
        have HR120 := AM (Kd.C_of_reads (h1 := fun _ => rfl) (hA34 _ (Kd.reads_of_C HR0_2.out)))
        have HC120 := AM hC34
        clear hA34 hC34 hi034 hsz34
        refine start_ (n := 11) (S := fun w' => w'.cell? ⟨gb114, 0, none⟩ = some (.string t104) ∧ w'.cell? ⟨gb114, 1, none⟩ = some (.int .i64 t105) ∧ w'.cell? ⟨gb114, 2, none⟩ = some (.slice Ao23 t106.length co23) ∧ w'.cell? ⟨gb114, 3, none⟩ = some (.slice (some ad115) t109.length co25) ∧ w'.cell? ⟨gb101, 0, none⟩ = some (.string a0_0) ∧ w'.cell? ⟨gb101, 1, none⟩ = some (.int .i64 a0_1) ∧ w'.cell? ⟨gb101, 2, none⟩ = some (.slice A0_2 l0_2.length c0_2) ∧ w'.cell? ⟨gb101, 3, none⟩ = some (.slice A0_3 l0_3.length c0_3)) (ds := []) (upTo 0 11) (by kernel_rfl) rfl rfl ⟨(kC BK114.out 0).trans rfl, (kC BK114.out 1).trans rfl, (kC BK114.out 2).trans rfl, (kC BK114.out 3).trans rfl, (kC BK101.out 0).trans rfl, (kC BK101.out 1).trans rfl, (kC BK101.out 2).trans rfl, (kC BK101.out 3).trans rfl⟩ (fun hHeld => ?_); refine with_tabW spec_TopicFetch.tab7 spec_TopicFetch.bits7 (fun HT_ HW_ => ?_)
        generalize w32.drew = w33 at HO108 HO111 BK101 BK102 BK114 HB HR120 hHeld ⊢
        refine pF2 1 44 spec_TopicFetch.b8 ?_
        refine pF2 3 46 spec_TopicFetch.b9 ?_
        refine pF2 5 48 spec_TopicFetch.b10 ?_
        refine pF2 6 49 spec_TopicFetch.b11 ?_
        refine pT2 0 43 spec_TopicFetch.b12 ?_ hHeld
        refine pT2 4 47 spec_TopicFetch.b13 ?_ hHeld
        refine pF2 7 50 spec_TopicFetch.b14 ?_
        refine one_ (i := 2) (N := some 45) (upTo 8 11) rfl rfl (one_of HT_.out (by kernel_rfl)) (by decide) (fun K hK => ?_)
        refine Kd.R_lit_step Kd.string _ 9 ?hg (N := 45) ?hd (xs := ([] : List ByteArray)) (inner := []) (ok := fun _ => True) (okp := fun _ => True) ?hr ?hp (fun _ hk => hk) trivial (Below.refl _ _) (Nat.le_refl _) (by simp) ?_; (case hd => rfl); (case hg => rfl); (case hr => first | (go_simp; done) | (go_simp; rfl)); (case hp => exact (Reps.none _ _))
        intro v118 w35 ho36 hb hg_ hnew_
        clear hg_ hnew_
        (first | rw [← Ny117.out] at ho36 | (simp only [Int.reduceToNat] at ho36; rw [← Ny117.out] at ho36))
        have _ := AM (Kd.R_elder' (rX HO108.out) (Kd.R_base ho36) hb)
        have _ := AM (Kd.R_below (rX HO111.out) hb)
        have _ := AM (Kd.R_lower (Kd.R_new' ho36 (Kd.R_lt (rX HO108.out))) (bZ (bX HB.out)))
        have _ := AM (nB BK101.out hb)
        have _ := AM (nB BK102.out hb)
        have _ := AM (nB BK114.out hb)
        have _ := AM (below_step (bX HB.out) hb)
        clear HO108 HO111 BK101 BK102 BK114 HB
        rename_i HO108 HO111 HO119 BK101 BK102 BK114 HB
        clear hb ho36
        refine hK.out _ _ ⟨(kC BK114.out 0).trans rfl, (kC BK114.out 1).trans rfl, (kC BK114.out 2).trans rfl, (kC BK114.out 3).trans rfl, (kC BK101.out 0).trans rfl, (kC BK101.out 1).trans rfl, (kC BK101.out 2).trans rfl, (kC BK101.out 3).trans rfl⟩ (fun hHeld => ?_)
        clear hK K
        refine norm_ (a' := ?_) ?_ ?_
        rotate_left
        ·
         show Act.put _ (some 45) _ = _
         simp only [Act.put, sA, sB, sC, i64_w, i32_w]
         rfl
        refine one_ (i := 8) (N := some 51) (upTo 9 11) rfl rfl (one_of HT_.out (by kernel_rfl)) (by decide) (fun K hK => ?_)
        refine Kd.R_append_rows_step Kd.string (w0 := w) w.heap.size (by rfl) (.tmp 45) (.tmp 50) 22 9 (.string ⟨#[]⟩) 16 rfl Try.underlying22 info9 rfl (by decide) (by omega) v118 y117 ((l0_2.take (t116 : Int).toNat).drop ((ji10) : Int).toNat) _ _ _ (fun k_ => some k_ ≠ (.slice Ao23 t106.length co23 : Value).ownBlock) (fun _ => False) rfl rfl ?aO ?aR (fun _ _ h => h) (fun _ h => h.elim) ?aF ?aB ?aS ?aL ?_
        (case aR => first | (rw [← show ((l0_2.take (t116 : Int).toNat).drop ((ji10) : Int).toNat).length = (t116.toNat - (ji10).toNat) from (by rw [mD, mE]; have h_ : (t116 : Int) ≤ (l0_2.length : Int) := of_decide_eq_true (by assumption); omega)]; repeat (first | exact (cB HR120.out HB.out) | (with_reducible first | apply cA | apply cN | apply cD))) | (repeat (first | exact (cB HR120.out HB.out) | (with_reducible first | apply cA | apply cN | apply cD))))
        (case aB => exact (bX HB.out))
        (case aF => exact (fun k_ hk => Kd.fresh' (Kd.R_lt (rX HO108.out)) k_ hk))
        (case aO => exact (by (with_reducible repeat (first | apply rA | apply rN | apply rD)); exact Kd.R_mono HO119.out (fun _ hk => hk.2)))
        (case aS => exact (bZ (bX HB.out)))
        (case aL => have := LMc14.out; have hlx_ := (show ((l0_2.take (t116 : Int).toNat).drop ((ji10) : Int).toNat).length = (t116.toNat - (ji10).toNat) from (by rw [mD, mE]; have h_ : (t116 : Int) ≤ (l0_2.length : Int) := of_decide_eq_true (by assumption); omega)); omega)
        intro v122 w37 ho hb hg hat
        rw [← Ny121.out] at ho
        have _ := AM (blk_grown (g := gb101) (o := .cells #[.string a0_0, .int .i64 a0_1, .slice A0_2 l0_2.length c0_2, .slice A0_3 l0_3.length c0_3] 29 (0, 0)) (kX BK101.out) hg (Kd.R_ne HO119.out BK101.out (by decide)))
        have _ := AM (blk_grown (g := gb102) (o := .cells #[.string (⟨#[]⟩ : ByteArray), .int .i64 0, .slice none 0 0, .slice none 0 0, .slice none 0 0, .int .i64 0, .int .i64 0] 31 (0, 0)) (kX BK102.out) hg (Kd.R_ne HO119.out BK102.out (by decide)))
        have _ := AM (Kd.R_after (ok := (fun _ => True)) (rX HO108.out) hg hat)
        have _ := AM (Kd.R_over' (rX HO111.out) (Kd.R_typed (rX HO119.out)) (by decide) hg)
        have _ := AM (blk_grown (g := gb114) (o := .cells #[.string t104, .int .i64 t105, .slice Ao23 t106.length co23, .slice (some ad115) t109.length co25] 29 (0, 0)) (kX BK114.out) hg (Kd.R_ne HO119.out BK114.out (by decide)))
        have _ := AM (hb)
        have _ := AM (ho)
        clear BK101 BK102 HO108 HO111 BK114 HB HO119
        rename_i BK101 BK102 HO108 HO111 BK114 HB HO123
        clear ho hb hg hat
        obtain ⟨Ao38, co38, eo38⟩ := Kd.R_slice HO123.out
        (first | subst eo38 | (injection eo38 with f1_ f2_ f3_; have f4_ := f1_.symm; have f5_ := f3_.symm; clear f1_ f2_ f3_; subst f4_; subst f5_))
        refine hK.out _ _ ⟨(kC BK114.out 0).trans rfl, (kC BK114.out 1).trans rfl, (kC BK114.out 2).trans rfl, (kC BK114.out 3).trans rfl, (kC BK101.out 0).trans rfl, (kC BK101.out 1).trans rfl, (kC BK101.out 2).trans rfl, (kC BK101.out 3).trans rfl⟩ (fun hHeld => ?_)
        clear hK K
        refine norm_ (a' := ?_) ?_ ?_
        rotate_left
        ·
         show Act.put _ (some 51) _ = _
         simp only [Act.put, sA, sB, sC, i64_w, i32_w]
         rfl
        refine pF 9 10 11 52 ?_
        refine one_ (i := 10) (N := none) (upTo 11 11) rfl rfl (one_of HT_.out (by kernel_rfl)) (by decide) (fun K hK => ?_)
        have hs39 : w37.cell? ⟨gb102, 0, none⟩ = some (.string (⟨#[]⟩ : ByteArray)) := (kC BK102.out 0).trans rfl
        have hfs39 := fZ BK102.out 0
        have hns39_0 := NB101_102.out
        have hns39_2 := NB114_102.out
        have hms39_0 := NB102_101.out
        have hms39_2 := NB102_114.out
        have hs40 : w37.cell? ⟨gb102, 1, none⟩ = some (.int .i64 0) := (kC BK102.out 1).trans rfl
        have hfs40 := fZ BK102.out 1
        have hns40_0 := NB101_102.out
        have hns40_2 := NB114_102.out
        have hms40_0 := NB102_101.out
        have hms40_2 := NB102_114.out
        have hs41 : w37.cell? ⟨gb102, 2, none⟩ = some (.slice none 0 0) := (kC BK102.out 2).trans rfl
        have hfs41 := fZ BK102.out 2
        have hns41_0 := NB101_102.out
        have hns41_2 := NB114_102.out
        have hms41_0 := NB102_101.out
        have hms41_2 := NB102_114.out
        have hs42 : w37.cell? ⟨gb102, 3, none⟩ = some (.slice none 0 0) := (kC BK102.out 3).trans rfl
        have hfs42 := fZ BK102.out 3
        have hns42_0 := NB101_102.out
        have hns42_2 := NB114_102.out
        have hms42_0 := NB102_101.out
        have hms42_2 := NB102_114.out
        have hs43 : w37.cell? ⟨gb102, 4, none⟩ = some (.slice none 0 0) := (kC BK102.out 4).trans rfl
        have hfs43 := fZ BK102.out 4
        have hns43_0 := NB101_102.out
        have hns43_2 := NB114_102.out
        have hms43_0 := NB102_101.out
        have hms43_2 := NB102_114.out
        have hs44 : w37.cell? ⟨gb102, 5, none⟩ = some (.int .i64 0) := (kC BK102.out 5).trans rfl
        have hfs44 := fZ BK102.out 5
        have hns44_0 := NB101_102.out
        have hns44_2 := NB114_102.out
        have hms44_0 := NB102_101.out
        have hms44_2 := NB102_114.out
        have hs45 : w37.cell? ⟨gb102, 6, none⟩ = some (.int .i64 0) := (kC BK102.out 6).trans rfl
        have hfs45 := fZ BK102.out 6
        have hns45_0 := NB101_102.out
        have hns45_2 := NB114_102.out
        have hms45_0 := NB102_101.out
        have hms45_2 := NB102_114.out
        refine skip_ (w1 := ?_) (by rfl) rfl ?_ ?_
        rotate_left
        ·
         go_simp
         rfl
        refine hK.out _ _ ⟨(cT NB114_102.out ((cT NB114_102.out ((cT NB114_102.out ((cT NB114_102.out ((cT NB114_102.out ((cT NB114_102.out ((cT NB114_102.out (hHeld.1)))))))))))))), (cT NB114_102.out ((cT NB114_102.out ((cT NB114_102.out ((cT NB114_102.out ((cT NB114_102.out ((cT NB114_102.out ((cT NB114_102.out (hHeld.2.1)))))))))))))), (cT NB114_102.out ((cT NB114_102.out ((cT NB114_102.out ((cT NB114_102.out ((cT NB114_102.out ((cT NB114_102.out ((cT NB114_102.out (hHeld.2.2.1)))))))))))))), (cT NB114_102.out ((cT NB114_102.out ((cT NB114_102.out ((cT NB114_102.out ((cT NB114_102.out ((cT NB114_102.out ((cT NB114_102.out (hHeld.2.2.2.1)))))))))))))), (cT NB101_102.out ((cT NB101_102.out ((cT NB101_102.out ((cT NB101_102.out ((cT NB101_102.out ((cT NB101_102.out ((cT NB101_102.out (hHeld.2.2.2.2.1)))))))))))))), (cT NB101_102.out ((cT NB101_102.out ((cT NB101_102.out ((cT NB101_102.out ((cT NB101_102.out ((cT NB101_102.out ((cT NB101_102.out (hHeld.2.2.2.2.2.1)))))))))))))), (cT NB101_102.out ((cT NB101_102.out ((cT NB101_102.out ((cT NB101_102.out ((cT NB101_102.out ((cT NB101_102.out ((cT NB101_102.out (hHeld.2.2.2.2.2.2.1)))))))))))))), (cT NB101_102.out ((cT NB101_102.out ((cT NB101_102.out ((cT NB101_102.out ((cT NB101_102.out ((cT NB101_102.out ((cT NB101_102.out (hHeld.2.2.2.2.2.2.2))))))))))))))⟩ (fun hHeld => ?_)
        clear hK K
        refine done_ (done_of HT_.out (by kernel_rfl)) ?_
        try go_wp2
        refine bodyPost_ret (results_cell_row rfl _ _ gb102 31 #[.string t104, .int .i64 t105, .slice Ao23 t106.length co23, .slice (some ad115) t109.length co25, .slice Ao38 y121.length co38, .int .i64 ((rd_T55 t109 t112).f1), .int .i64 0] (0, 0) _ rfl (by refine kP (cs := #[.string t104, .int .i64 t105, .slice Ao23 t106.length co23, .slice (some ad115) t109.length co25, .slice Ao38 y121.length co38, .int .i64 ((rd_T55 t109 t112).f1), .int .i64 0]) 6 ?_; refine kP (cs := #[.string t104, .int .i64 t105, .slice Ao23 t106.length co23, .slice (some ad115) t109.length co25, .slice Ao38 y121.length co38, .int .i64 0, .int .i64 0]) 5 ?_; refine kP (cs := #[.string t104, .int .i64 t105, .slice Ao23 t106.length co23, .slice (some ad115) t109.length co25, .slice none 0 0, .int .i64 0, .int .i64 0]) 4 ?_; refine kP (cs := #[.string t104, .int .i64 t105, .slice Ao23 t106.length co23, .slice none 0 0, .slice none 0 0, .int .i64 0, .int .i64 0]) 3 ?_; refine kP (cs := #[.string t104, .int .i64 t105, .slice none 0 0, .slice none 0 0, .slice none 0 0, .int .i64 0, .int .i64 0]) 2 ?_; refine kP (cs := #[.string t104, .int .i64 0, .slice none 0 0, .slice none 0 0, .slice none 0 0, .int .i64 0, .int .i64 0]) 1 ?_; refine kP (cs := #[.string (⟨#[]⟩ : ByteArray), .int .i64 0, .slice none 0 0, .slice none 0 0, .slice none 0 0, .int .i64 0, .int .i64 0]) 0 ?_; (with_reducible repeat (first | apply kN | apply kD | apply kA)); exact BK102.out) Try.underlying31 rfl (by kernel_rfl)) rfl ?_
        exact ⟨_, _, _, by first | rfl | (simp [errW_none, errW_some] <;> rfl) | (simp only [← hji10]; first | rfl | (simp [errW_none, errW_some] <;> rfl)) | (simp [*, errW_none, errW_some] <;> rfl), by (with_reducible repeat (first | apply rA | apply rN | apply rD)); exact Rf7 HO108.out BK102.out (by decide) (fun _ hk => hk.1.2), by (with_reducible repeat (first | apply rA | apply rN | apply rD)); exact Rf7 HO111.out BK102.out (by decide) (fun _ hk => trivial), by (with_reducible repeat (first | apply rA | apply rN | apply rD)); exact Rf7 HO123.out BK102.out (by decide) (fun _ hk => hk.1), bX HB.out⟩
       rw [if_neg c14] at H
       exact absurd H (by simp)
      rw [if_neg c13] at H
      exact absurd H (by simp)
     rw [if_neg c12] at H
     exact absurd H (by simp)
    rw [if_neg c11] at H
    exact absurd H (by simp)
   rw [if_neg c8] at H
   exact absurd H (by simp)
  rw [if_neg c7] at H
  exact absurd H (by simp)
 rw [if_neg c6] at H
 have c6b0 : (t113 == 0) = false := beq_eq_false_iff_ne.mpr c6
 have c6b1 : (t113 != 0) = true := bne_iff_ne.mpr c6
 replace H := Option.bind_eq_some_iff.mp H
 obtain ⟨⟨t124, t125, t126, t129, t132, t135, t136⟩, A460, H⟩ := H
 try dsimp only at H
 have A46 := AM A460
 clear A460
 simp only [Option.some.injEq, Prod.mk.injEq] at H
 obtain ⟨rfl, rfl, rfl, rfl, rfl, rfl, rfl⟩ := H
 go_enter Try.func9, Try.ntmps9
 try go_wp2_with (first | ((with_reducible refine gate_dst (N := 3) rfl ?_); refine box_event (by rfl) (N := 3) (by rfl) (cs := #[.string a0_0, .int .i64 a0_1, .slice A0_2 l0_2.length c0_2, .slice A0_3 l0_3.length c0_3]) (t := 29) (by first | (go_simp; done) | (go_simp; rfl)) ?_; intro gb101 hg w47 hbox hb; have _ := AM (below_step (bX HB.out) hb); have _ := AM (hbox); have n2_ := AM ((by rw [hg]; exact (bZ (bX HB.out)) : w.heap.size ≤ gb101)); clear HB; rename_i HB BK101; have GW101 := n2_; have GE101 := n2_; clear n2_; clear hb hbox hg) | ((with_reducible refine gate_dst (N := 6) rfl ?_); refine box_event (by rfl) (N := 6) (by rfl) (cs := #[.string (⟨#[]⟩ : ByteArray), .int .i64 0, .slice none 0 0, .slice none 0 0, .slice none 0 0, .int .i64 0, .int .i64 0]) (t := 31) (by first | (go_simp; done) | (go_simp; rfl)) ?_; intro gb102 hg w48 hbox hb; have _ := AM (nB BK101.out hb); have _ := AM (below_step (bX HB.out) hb); have _ := AM (hbox); have n3_ := AM ((by rw [hg]; exact (bZ (bX HB.out)) : w.heap.size ≤ gb102)); have _ := AM (lX hg BK101.out); have _ := AM (lX hg BK101.out).symm; clear BK101 HB; rename_i BK101 HB BK102 NB101_102 NB102_101; have GW102 := n3_; have GE102 := n3_; clear n3_; clear hb hbox hg))
 have _ := AM (kD BK101.out)
 have _ := AM (kD BK102.out)
 have _ := AM (bD HB.out)
 clear BK101 BK102 HB
 rename_i BK101 BK102 HB
 refine start_ (n := 13) (S := fun w' => w'.cell? ⟨gb101, 0, none⟩ = some (.string a0_0) ∧ w'.cell? ⟨gb101, 1, none⟩ = some (.int .i64 a0_1) ∧ w'.cell? ⟨gb101, 2, none⟩ = some (.slice A0_2 l0_2.length c0_2) ∧ w'.cell? ⟨gb101, 3, none⟩ = some (.slice A0_3 l0_3.length c0_3)) (ds := []) (upTo 0 13) (by kernel_rfl) rfl rfl (q4 BK101.out) (fun hHeld => ?_); refine with_tabW spec_TopicFetch.tab1 spec_TopicFetch.bits1 (fun HT_ HW_ => ?_)
 generalize w48.drew = w49 at BK101 BK102 HB hHeld ⊢
 refine pF2 1 15 spec_TopicFetch.b0 ?_
 refine pF2 2 16 spec_TopicFetch.b1 ?_
 refine pT2 0 14 (upTo 3 13) ?_ hHeld
 refine join_ (σ := Value × Value × Nat) 3 (upTo 10 13) (fun s_ => [(17, .bool t103), (18, .tuple #[.agg #[.string t104, .int .i64 t105, s_.1, s_.2.1], .int .i64 t112, .int .i64 t113]), (7, .pointer (some ⟨s_.2.2, 0, none⟩)), (13, .tuple #[.agg #[.string t104, .int .i64 t105, s_.1, s_.2.1], .int .i64 t112, .int .i64 t113]), (19, .agg #[.string t104, .int .i64 t105, s_.1, s_.2.1]), (20, .int .i64 t112), (21, .int .i64 t113)]) (fun s_ w' => (w'.cell? ⟨gb101, 0, none⟩ = some (.string a0_0) ∧ w'.cell? ⟨gb101, 1, none⟩ = some (.int .i64 a0_1) ∧ w'.cell? ⟨gb101, 2, none⟩ = some (.slice A0_2 l0_2.length c0_2) ∧ w'.cell? ⟨gb101, 3, none⟩ = some (.slice A0_3 l0_3.length c0_3)) ∧ (SlF s_.1 t106.length) ∧ (SlF s_.2.1 t109.length) ∧ (w'.heap[gb101]? = some (.cells #[.string a0_0, .int .i64 a0_1, .slice A0_2 l0_2.length c0_2, .slice A0_3 l0_3.length c0_3] 29 (0, 0))) ∧ (w'.heap[gb102]? = some (.cells #[.string (⟨#[]⟩ : ByteArray), .int .i64 0, .slice none 0 0, .slice none 0 0, .slice none 0 0, .int .i64 0, .int .i64 0] 31 (0, 0))) ∧ (w'.heap[s_.2.2]? = some (.cells #[.string (⟨#[]⟩ : ByteArray), .int .i64 0, .slice none 0 0, .slice none 0 0] 29 (0, 0))) ∧ (w.heap.size ≤ s_.2.2) ∧ (w.heap.size ≤ s_.2.2) ∧ (gb101 ≠ s_.2.2) ∧ (s_.2.2 ≠ gb101) ∧ (gb102 ≠ s_.2.2) ∧ (s_.2.2 ≠ gb102) ∧ (Below w.heap.size w w')) ?_ ?_
 rotate_left
 ·
  intro hCont
  refine two_ (i := 3) (j := 9) (Ni := some 17) (Nj := some 7) (upTo 4 13) spec_TopicFetch.b2 rfl rfl rfl rfl (two_of HT_.out (by kernel_rfl)) (by decide) (by decide) (fun K hK => ?_) (fun K hK => ?_)
  ·
   skip
   refine goes_ Try.func33 (by kernel_rfl) rfl #[.int .i64 a2, .int .i64 0, .int .i64 20] (by rfl) rfl rfl (by (try simp only [mA, mB, mC]); first | done | rfl | (simp only [mD, mE]; rfl)) ?_
   with_reducible refine (spec_l03Is.calls a2 0 20 t103 _ A4.out).mono ?_
   rintro e w' ⟨rfl, ⟨nd, rfl⟩⟩
   refine ⟨_, rfl, ?_⟩
   refine hK.out _ _ (q4 BK101.out) (fun hHeld => ?_)
   clear hK K
   refine norm_ (a' := ?_) ?_ ?_
   rotate_left
   ·
    show Act.put _ (some 17) _ = _
    simp only [Act.put, sA, sB, sC, i64_w, i32_w]
    rfl
   refine two_ (i := 4) (j := 9) (Ni := some 18) (Nj := some 7) (upTo 5 13) spec_TopicFetch.b3 rfl rfl rfl rfl (two_of HT_.out (by kernel_rfl)) (by decide) (by decide) (fun K hK => ?_) (fun K hK => ?_)
   ·
    skip
    refine goes_ Try.func32 (by kernel_rfl) rfl #[.agg #[.string a0_0, .int .i64 a0_1, .slice A0_2 l0_2.length c0_2, .slice A0_3 l0_3.length c0_3], .string a1, .bool t103] (by rfl) rfl rfl (by (try simp only [mA, mB, mC]); first | done | rfl | (simp only [mD, mE]; rfl)) ?_
    with_reducible refine (spec_l07Begin.calls k a0_0 a0_1 _ _ l0_2 _ _ l0_3 a1 t103 t104 t105 t106 t109 t112 t113 _ ?side1 ?side2 ?side3 ?side4 A5.out).mono ?_
    (case side1 => repeat (first | exact (cB HR0_2.out (bX HB.out)) | (with_reducible first | apply cA | apply cN | apply cD)))
    (case side2 => exact HC0_2.out)
    (case side3 => repeat (first | exact (cB HR0_3.out (bX HB.out)) | (with_reducible first | apply cA | apply cN | apply cD)))
    (case side4 => exact HC0_3.out)
    rintro e w50 ⟨B2_, d2_, B3_, d3_, rfl, hz_, hb⟩; clear hz_; have ho0 : SlF (.slice B2_ t106.length d2_) t106.length := ⟨_, _, rfl⟩; have ho1 : SlF (.slice B3_ t109.length d3_) t109.length := ⟨_, _, rfl⟩; generalize hgv_ : (Value.slice B2_ t106.length d2_) = v107 at ho0 ⊢; generalize hgw_ : (Value.slice B3_ t109.length d3_) = v110 at ho1 ⊢; clear hgv_ hgw_
    refine ⟨_, rfl, ?_⟩
    have _ := AM ho0
    have _ := AM ho1
    have _ := AM (nB BK101.out hb)
    have _ := AM (nB BK102.out hb)
    have _ := AM (below_step (bX HB.out) hb)
    clear BK101 BK102 HB
    rename_i HO108 HO111 BK101 BK102 HB
    (try clear hb)
    (try clear hk)
    (try clear ho0)
    (try clear ho1)
    refine hK.out _ _ (q4 BK101.out) (fun hHeld => ?_)
    clear hK K
    refine norm_ (a' := ?_) ?_ ?_
    rotate_left
    ·
     show Act.put _ (some 18) _ = _
     simp only [Act.put, sA, sB, sC, i64_w, i32_w]
     rfl
    refine pF 5 6 13 13 ?_
    refine pF 6 7 13 19 ?_
    refine pF 7 8 13 20 ?_
    refine pF 8 9 13 21 ?_
    refine one_ (i := 9) (N := some 7) (upTo 10 13) rfl rfl (one_of HT_.out (by kernel_rfl)) (by decide) (fun K hK => ?_)
    refine box_step ?hg (N := 7) ?hd (cs := #[.string (⟨#[]⟩ : ByteArray), .int .i64 0, .slice none 0 0, .slice none 0 0]) (t := 29) ?hr ?_; (case hd => rfl); (case hg => rfl); (case hr => first | (go_simp; done) | (go_simp; rfl))
    intro gb114 hg w51 hbox hb
    have _ := AM (HO108.out)
    have _ := AM (HO111.out)
    have _ := AM (nB BK101.out hb)
    have _ := AM (nB BK102.out hb)
    have _ := AM (below_step (bX HB.out) hb)
    have _ := AM (hbox)
    have _ := AM ((by rw [hg]; exact (bZ (bX HB.out)) : w.heap.size ≤ gb114))
    have _ := AM ((by rw [hg]; exact (bZ (bX HB.out)) : w.heap.size ≤ gb114))
    have _ := AM (lX hg BK101.out)
    have _ := AM (lX hg BK101.out).symm
    have _ := AM (lX hg BK102.out)
    have _ := AM (lX hg BK102.out).symm
    clear HO108 HO111 BK101 BK102 HB
    rename_i HO108 HO111 BK101 BK102 HB BK114 GW114 GE114 NB101_114 NB114_101 NB102_114 NB114_102
    clear hb hbox hg
    refine hK.out _ _ (q4 BK101.out) (fun hHeld => ?_)
    clear hK K
    refine norm_ (a' := ?_) ?_ ?_
    rotate_left
    ·
     show Act.put _ (some 7) _ = _
     simp only [Act.put, sA, sB, sC, i64_w, i32_w]
     rfl
    exact norm_ (by simp only [putAll, Act.put, List.setIfInBounds_toArray, List.set_cons_zero, List.set_cons_succ]) (hCont (v107, v110, gb114) _ ⟨hHeld, HO108.out, HO111.out, (kX BK101.out), (kX BK102.out), (kX BK114.out), GW114.out, GE114.out, NB101_114.out, NB114_101.out, NB102_114.out, NB114_102.out, (bX HB.out)⟩)
   skip
   refine box_step ?hg (N := 7) ?hd (cs := #[.string (⟨#[]⟩ : ByteArray), .int .i64 0, .slice none 0 0, .slice none 0 0]) (t := 29) ?hr ?_; (case hd => rfl); (case hg => rfl); (case hr => first | (go_simp; done) | (go_simp; rfl))
   intro gb114 hg w50 hbox hb
   have _ := AM (nB BK101.out hb)
   have _ := AM (nB BK102.out hb)
   have _ := AM (below_step (bX HB.out) hb)
   have _ := AM (hbox)
   have _ := AM ((by rw [hg]; exact (bZ (bX HB.out)) : w.heap.size ≤ gb114))
   have _ := AM ((by rw [hg]; exact (bZ (bX HB.out)) : w.heap.size ≤ gb114))
   have _ := AM (lX hg BK101.out)
   have _ := AM (lX hg BK101.out).symm
   have _ := AM (lX hg BK102.out)
   have _ := AM (lX hg BK102.out).symm
   clear BK101 BK102 HB
   rename_i BK101 BK102 HB BK114 GW114 GE114 NB101_114 NB114_101 NB102_114 NB114_102
   clear hb hbox hg
   refine hK.out _ _ (q4 BK101.out) (fun hHeld => ?_)
   clear hK K
   refine norm_ (a' := ?_) ?_ ?_
   rotate_left
   ·
    show Act.put _ (some 7) _ = _
    simp only [Act.put, sA, sB, sC, i64_w, i32_w]
    rfl
   refine one_ (i := 4) (N := some 18) spec_TopicFetch.b4 rfl rfl (one_of HT_.out (by kernel_rfl)) (by decide) (fun K hK => ?_)
   refine goes_ Try.func32 (by kernel_rfl) rfl #[.agg #[.string a0_0, .int .i64 a0_1, .slice A0_2 l0_2.length c0_2, .slice A0_3 l0_3.length c0_3], .string a1, .bool t103] (by rfl) rfl rfl (by (try simp only [mA, mB, mC]); first | done | rfl | (simp only [mD, mE]; rfl)) ?_
   with_reducible refine (spec_l07Begin.calls k a0_0 a0_1 _ _ l0_2 _ _ l0_3 a1 t103 t104 t105 t106 t109 t112 t113 _ ?side1 ?side2 ?side3 ?side4 A5.out).mono ?_
   (case side1 => repeat (first | exact (cB HR0_2.out HB.out) | (with_reducible first | apply cA | apply cN | apply cD)))
   (case side2 => exact HC0_2.out)
   (case side3 => repeat (first | exact (cB HR0_3.out HB.out) | (with_reducible first | apply cA | apply cN | apply cD)))
   (case side4 => exact HC0_3.out)
   rintro e w51 ⟨B2_, d2_, B3_, d3_, rfl, hz_, hb⟩; clear hz_; have ho0 : SlF (.slice B2_ t106.length d2_) t106.length := ⟨_, _, rfl⟩; have ho1 : SlF (.slice B3_ t109.length d3_) t109.length := ⟨_, _, rfl⟩; generalize hgv_ : (Value.slice B2_ t106.length d2_) = v107 at ho0 ⊢; generalize hgw_ : (Value.slice B3_ t109.length d3_) = v110 at ho1 ⊢; clear hgv_ hgw_
   refine ⟨_, rfl, ?_⟩
   have _ := AM ho0
   have _ := AM ho1
   have _ := AM (nB BK101.out hb)
   have _ := AM (nB BK102.out hb)
   have _ := AM (nB BK114.out hb)
   have _ := AM (below_step (bX HB.out) hb)
   clear BK101 BK102 BK114 HB
   rename_i HO108 HO111 BK101 BK102 BK114 HB
   (try clear hb)
   (try clear hk)
   (try clear ho0)
   (try clear ho1)
   refine hK.out _ _ (q4 BK101.out) (fun hHeld => ?_)
   clear hK K
   refine norm_ (a' := ?_) ?_ ?_
   rotate_left
   ·
    show Act.put _ (some 18) _ = _
    simp only [Act.put, sA, sB, sC, i64_w, i32_w]
    rfl
   refine pF2 5 13 spec_TopicFetch.b5 ?_
   refine pF2 6 19 spec_TopicFetch.b6 ?_
   refine pF2 7 20 spec_TopicFetch.b7 ?_
   refine pF2 8 21 (upTo 10 13) ?_
   exact norm_ (by simp only [putAll, Act.put, List.setIfInBounds_toArray, List.set_cons_zero, List.set_cons_succ]) (hCont (v107, v110, gb114) _ ⟨hHeld, HO108.out, HO111.out, (kX BK101.out), (kX BK102.out), (kX BK114.out), GW114.out, GE114.out, NB101_114.out, NB114_101.out, NB102_114.out, NB114_102.out, (bX HB.out)⟩)
  skip
  refine box_step ?hg (N := 7) ?hd (cs := #[.string (⟨#[]⟩ : ByteArray), .int .i64 0, .slice none 0 0, .slice none 0 0]) (t := 29) ?hr ?_; (case hd => rfl); (case hg => rfl); (case hr => first | (go_simp; done) | (go_simp; rfl))
  intro gb114 hg w50 hbox hb
  have _ := AM (nB BK101.out hb)
  have _ := AM (nB BK102.out hb)
  have _ := AM (below_step (bX HB.out) hb)
  have _ := AM (hbox)
  have _ := AM ((by rw [hg]; exact (bZ (bX HB.out)) : w.heap.size ≤ gb114))
  have _ := AM ((by rw [hg]; exact (bZ (bX HB.out)) : w.heap.size ≤ gb114))
  have _ := AM (lX hg BK101.out)
  have _ := AM (lX hg BK101.out).symm
  have _ := AM (lX hg BK102.out)
  have _ := AM (lX hg BK102.out).symm
  clear BK101 BK102 HB
  rename_i BK101 BK102 HB BK114 GW114 GE114 NB101_114 NB114_101 NB102_114 NB114_102
  clear hb hbox hg
  refine hK.out _ _ (q4 BK101.out) (fun hHeld => ?_)
  clear hK K
  refine norm_ (a' := ?_) ?_ ?_
  rotate_left
  ·
   show Act.put _ (some 7) _ = _
   simp only [Act.put, sA, sB, sC, i64_w, i32_w]
   rfl
  refine one_ (i := 3) (N := some 17) spec_TopicFetch.b3 rfl rfl (one_of HT_.out (by kernel_rfl)) (by decide) (fun K hK => ?_)
  refine goes_ Try.func33 (by kernel_rfl) rfl #[.int .i64 a2, .int .i64 0, .int .i64 20] (by rfl) rfl rfl (by (try simp only [mA, mB, mC]); first | done | rfl | (simp only [mD, mE]; rfl)) ?_
  with_reducible refine (spec_l03Is.calls a2 0 20 t103 _ A4.out).mono ?_
  rintro e w' ⟨rfl, ⟨nd, rfl⟩⟩
  refine ⟨_, rfl, ?_⟩
  refine hK.out _ _ (q4 BK101.out) (fun hHeld => ?_)
  clear hK K
  refine norm_ (a' := ?_) ?_ ?_
  rotate_left
  ·
   show Act.put _ (some 17) _ = _
   simp only [Act.put, sA, sB, sC, i64_w, i32_w]
   rfl
  refine one_ (i := 4) (N := some 18) spec_TopicFetch.b4 rfl rfl (one_of HT_.out (by kernel_rfl)) (by decide) (fun K hK => ?_)
  refine goes_ Try.func32 (by kernel_rfl) rfl #[.agg #[.string a0_0, .int .i64 a0_1, .slice A0_2 l0_2.length c0_2, .slice A0_3 l0_3.length c0_3], .string a1, .bool t103] (by rfl) rfl rfl (by (try simp only [mA, mB, mC]); first | done | rfl | (simp only [mD, mE]; rfl)) ?_
  with_reducible refine (spec_l07Begin.calls k a0_0 a0_1 _ _ l0_2 _ _ l0_3 a1 t103 t104 t105 t106 t109 t112 t113 _ ?side1 ?side2 ?side3 ?side4 A5.out).mono ?_
  (case side1 => repeat (first | exact (cB HR0_2.out (bX HB.out)) | (with_reducible first | apply cA | apply cN | apply cD)))
  (case side2 => exact HC0_2.out)
  (case side3 => repeat (first | exact (cB HR0_3.out (bX HB.out)) | (with_reducible first | apply cA | apply cN | apply cD)))
  (case side4 => exact HC0_3.out)
  rintro e w51 ⟨B2_, d2_, B3_, d3_, rfl, hz_, hb⟩; clear hz_; have ho0 : SlF (.slice B2_ t106.length d2_) t106.length := ⟨_, _, rfl⟩; have ho1 : SlF (.slice B3_ t109.length d3_) t109.length := ⟨_, _, rfl⟩; generalize hgv_ : (Value.slice B2_ t106.length d2_) = v107 at ho0 ⊢; generalize hgw_ : (Value.slice B3_ t109.length d3_) = v110 at ho1 ⊢; clear hgv_ hgw_
  refine ⟨_, rfl, ?_⟩
  have _ := AM ho0
  have _ := AM ho1
  have _ := AM (nB BK101.out hb)
  have _ := AM (nB BK102.out hb)
  have _ := AM (nB BK114.out hb)
  have _ := AM (below_step (bX HB.out) hb)
  clear BK101 BK102 BK114 HB
  rename_i HO108 HO111 BK101 BK102 BK114 HB
  (try clear hb)
  (try clear hk)
  (try clear ho0)
  (try clear ho1)
  refine hK.out _ _ (q4 BK101.out) (fun hHeld => ?_)
  clear hK K
  refine norm_ (a' := ?_) ?_ ?_
  rotate_left
  ·
   show Act.put _ (some 18) _ = _
   simp only [Act.put, sA, sB, sC, i64_w, i32_w]
   rfl
  refine pF2 5 13 spec_TopicFetch.b5 ?_
  refine pF2 6 19 spec_TopicFetch.b6 ?_
  refine pF2 7 20 spec_TopicFetch.b7 ?_
  refine pF2 8 21 (upTo 10 13) ?_
  exact norm_ (by simp only [putAll, Act.put, List.setIfInBounds_toArray, List.set_cons_zero, List.set_cons_succ]) (hCont (v107, v110, gb114) _ ⟨hHeld, HO108.out, HO111.out, (kX BK101.out), (kX BK102.out), (kX BK114.out), GW114.out, GE114.out, NB101_114.out, NB114_101.out, NB102_114.out, NB114_102.out, (bX HB.out)⟩)
 rintro ⟨v107, v110, gb114⟩ w52 ⟨hS_, h0_, h1_, h2_, h3_, h4_, h5_, h6_, h7_, h8_, h9_, h10_, h11_⟩
 have _ : Aside0 (SlF v107 t106.length) := ⟨h0_⟩
 have _ : Aside0 (SlF v110 t109.length) := ⟨h1_⟩
 have _ : Aside0 (w52.heap[gb101]? = some (.cells #[.string a0_0, .int .i64 a0_1, .slice A0_2 l0_2.length c0_2, .slice A0_3 l0_3.length c0_3] 29 (0, 0))) := ⟨h2_⟩
 have _ : Aside0 (w52.heap[gb102]? = some (.cells #[.string (⟨#[]⟩ : ByteArray), .int .i64 0, .slice none 0 0, .slice none 0 0, .slice none 0 0, .int .i64 0, .int .i64 0] 31 (0, 0))) := ⟨h3_⟩
 have _ : Aside0 (w52.heap[gb114]? = some (.cells #[.string (⟨#[]⟩ : ByteArray), .int .i64 0, .slice none 0 0, .slice none 0 0] 29 (0, 0))) := ⟨h4_⟩
 have _ : Aside0 (w.heap.size ≤ gb114) := ⟨h5_⟩
 have _ : Aside0 (w.heap.size ≤ gb114) := ⟨h6_⟩
 have _ : Aside0 (gb101 ≠ gb114) := ⟨h7_⟩
 have _ : Aside0 (gb114 ≠ gb101) := ⟨h8_⟩
 have _ : Aside0 (gb102 ≠ gb114) := ⟨h9_⟩
 have _ : Aside0 (gb114 ≠ gb102) := ⟨h10_⟩
 have _ : Aside0 (Below w.heap.size w w52) := ⟨h11_⟩
 clear BK101 BK102 HB h0_ h1_ h2_ h3_ h4_ h5_ h6_ h7_ h8_ h9_ h10_ h11_
 rename_i HO108 HO111 BK101 BK102 BK114 GW114 GE114 NB101_114 NB114_101 NB102_114 NB114_102 HB
 have hHeld : w52.cell? ⟨gb101, 0, none⟩ = some (.string a0_0) ∧ w52.cell? ⟨gb101, 1, none⟩ = some (.int .i64 a0_1) ∧ w52.cell? ⟨gb101, 2, none⟩ = some (.slice A0_2 l0_2.length c0_2) ∧ w52.cell? ⟨gb101, 3, none⟩ = some (.slice A0_3 l0_3.length c0_3) := hS_
 obtain ⟨Ao55, co55, eo55⟩ := HO108.out
 (first | subst eo55 | (injection eo55 with f1_ f2_ f3_; have f4_ := f1_.symm; have f5_ := f3_.symm; clear f1_ f2_ f3_; subst f4_; subst f5_))
 obtain ⟨Ao57, co57, eo57⟩ := HO111.out
 (first | subst eo57 | (injection eo57 with f1_ f2_ f3_; have f4_ := f1_.symm; have f5_ := f3_.symm; clear f1_ f2_ f3_; subst f4_; subst f5_))
 refine norm_ (a' := ?_) ?_ ?_
 rotate_left
 ·
  simp only [putAll, Act.put, List.setIfInBounds_toArray, List.set_cons_zero, List.set_cons_succ]
  rfl
 refine one_ (i := 10) (N := none) (upTo 11 13) rfl rfl (one_of HT_.out (by kernel_rfl)) (by decide) (fun K hK => ?_)
 have hs53 : w52.cell? ⟨gb114, 0, none⟩ = some (.string (⟨#[]⟩ : ByteArray)) := (kC BK114.out 0).trans rfl
 have hfs53 := fZ BK114.out 0
 have hns53_0 := NB101_114.out
 have hns53_1 := NB102_114.out
 have hms53_0 := NB114_101.out
 have hms53_1 := NB114_102.out
 have hs54 : w52.cell? ⟨gb114, 1, none⟩ = some (.int .i64 0) := (kC BK114.out 1).trans rfl
 have hfs54 := fZ BK114.out 1
 have hns54_0 := NB101_114.out
 have hns54_1 := NB102_114.out
 have hms54_0 := NB114_101.out
 have hms54_1 := NB114_102.out
 have hs56 : w52.cell? ⟨gb114, 2, none⟩ = some (.slice none 0 0) := (kC BK114.out 2).trans rfl
 have hfs56 := fZ BK114.out 2
 have hns56_0 := NB101_114.out
 have hns56_1 := NB102_114.out
 have hms56_0 := NB114_101.out
 have hms56_1 := NB114_102.out
 have hs58 : w52.cell? ⟨gb114, 3, none⟩ = some (.slice none 0 0) := (kC BK114.out 3).trans rfl
 have hfs58 := fZ BK114.out 3
 have hns58_0 := NB101_114.out
 have hns58_1 := NB102_114.out
 have hms58_0 := NB114_101.out
 have hms58_1 := NB114_102.out
 refine skip_ (w1 := ?_) (by rfl) rfl ?_ ?_
 rotate_left
 ·
  go_simp
  rfl
 refine hK.out _ _ ⟨(cT NB101_114.out ((cT NB101_114.out ((cT NB101_114.out ((cT NB101_114.out (hHeld.1)))))))), (cT NB101_114.out ((cT NB101_114.out ((cT NB101_114.out ((cT NB101_114.out (hHeld.2.1)))))))), (cT NB101_114.out ((cT NB101_114.out ((cT NB101_114.out ((cT NB101_114.out (hHeld.2.2.1)))))))), (cT NB101_114.out ((cT NB101_114.out ((cT NB101_114.out ((cT NB101_114.out (hHeld.2.2.2))))))))⟩ (fun hHeld => ?_)
 clear hK K
 refine pF 11 12 13 8 ?_
 refine pF 12 13 13 9 ?_
 refine done_ (done_of HT_.out (by kernel_rfl)) ?_
 try go_wp2_with (first | ((with_reducible refine gate_callee (f := 34) rfl ?_); refine goesL_ (some 25) rfl rfl Try.func34 (by kernel_rfl) rfl #[.int .i64 t113] rfl (by (try simp only [mA, mB, mC]); first | done | rfl | (simp only [mD, mE]; rfl)) ?_; (with_reducible refine (spec_l07Ill.calls t113 t124 t125 t126 t129 t132 t135 t136 _ A46.out).mono ?_); rintro e w59 ⟨v127, v130, v133, rfl, ho0, ho1, ho2, hb⟩; refine ⟨_, rfl, ?_⟩; have _ := AM (HO108.out); have _ := AM (HO111.out); have _ := AM (Kd.R_lower (Kd.R_mono (ok' := fun k_ => _ ∧ True) ho0 (fun _ h_ => ⟨h_, trivial⟩)) (bZ (bX HB.out))); have _ := AM (Kd.R_lower (Kd.R_mono (ok' := fun k_ => _ ∧ True) ho1 (fun _ h_ => ⟨h_, trivial⟩)) (bZ (bX HB.out))); have _ := AM (Kd.R_lower (Kd.R_mono (ok' := fun k_ => _ ∧ True) ho2 (fun _ h_ => ⟨h_, trivial⟩)) (bZ (bX HB.out))); have _ := AM (blk_below (g := gb101) (o := .cells #[.string a0_0, .int .i64 a0_1, .slice A0_2 l0_2.length c0_2, .slice A0_3 l0_3.length c0_3] 29 (0, 0)) (by (iterate 4 refine kF NB101_114.out ?_); (with_reducible repeat (first | apply kN | apply kD | apply kA)); exact BK101.out) hb); have _ := AM (blk_below (g := gb102) (o := .cells #[.string (⟨#[]⟩ : ByteArray), .int .i64 0, .slice none 0 0, .slice none 0 0, .slice none 0 0, .int .i64 0, .int .i64 0] 31 (0, 0)) (by (iterate 4 refine kF NB102_114.out ?_); (with_reducible repeat (first | apply kN | apply kD | apply kA)); exact BK102.out) hb); have _ := AM (blk_below (g := gb114) (o := .cells #[.string t104, .int .i64 t105, .slice Ao55 t106.length co55, .slice Ao57 t109.length co57] 29 (0, 0)) (by refine kP (cs := #[.string t104, .int .i64 t105, .slice Ao55 t106.length co55, .slice none 0 0]) 3 ?_; refine kP (cs := #[.string t104, .int .i64 t105, .slice none 0 0, .slice none 0 0]) 2 ?_; refine kP (cs := #[.string t104, .int .i64 0, .slice none 0 0, .slice none 0 0]) 1 ?_; refine kP (cs := #[.string (⟨#[]⟩ : ByteArray), .int .i64 0, .slice none 0 0, .slice none 0 0]) 0 ?_; (with_reducible repeat (first | apply kN | apply kD | apply kA)); exact BK114.out) hb); have _ := AM (below_step (bX HB.out) hb); clear HO108 HO111 BK101 BK102 BK114 HB; rename_i HO108 HO111 HO128 HO131 HO134 BK101 BK102 BK114 HB; (try clear hb); (try clear hk); (try clear ho0); (try clear ho1); (try clear ho2); have hnb60 := NB102_101.out; have hnc60 := NB101_102.out; have hnb61 := NB102_114.out; have hnc61 := NB114_102.out; have hcz62 := q7 BK102.out; have hfz62 := fZ BK102.out; obtain ⟨Ao63, co63, eo63⟩ := Kd.R_slice HO128.out; subst eo63; obtain ⟨Ao64, co64, eo64⟩ := Kd.R_slice HO131.out; subst eo64; obtain ⟨Ao65, co65, eo65⟩ := Kd.R_slice HO134.out; subst eo65))
 refine bodyPost_ret (results_cell_row rfl _ _ gb102 31 #[.string t124, .int .i64 t125, .slice Ao63 t126.length co63, .slice Ao64 t129.length co64, .slice Ao65 t132.length co65, .int .i64 t135, .int .i64 t136] (0, 0) _ rfl (by refine kP (cs := #[.string t124, .int .i64 t125, .slice Ao63 t126.length co63, .slice Ao64 t129.length co64, .slice Ao65 t132.length co65, .int .i64 t135, .int .i64 0]) 6 ?_; refine kP (cs := #[.string t124, .int .i64 t125, .slice Ao63 t126.length co63, .slice Ao64 t129.length co64, .slice Ao65 t132.length co65, .int .i64 0, .int .i64 0]) 5 ?_; refine kP (cs := #[.string t124, .int .i64 t125, .slice Ao63 t126.length co63, .slice Ao64 t129.length co64, .slice none 0 0, .int .i64 0, .int .i64 0]) 4 ?_; refine kP (cs := #[.string t124, .int .i64 t125, .slice Ao63 t126.length co63, .slice none 0 0, .slice none 0 0, .int .i64 0, .int .i64 0]) 3 ?_; refine kP (cs := #[.string t124, .int .i64 t125, .slice none 0 0, .slice none 0 0, .slice none 0 0, .int .i64 0, .int .i64 0]) 2 ?_; refine kP (cs := #[.string t124, .int .i64 0, .slice none 0 0, .slice none 0 0, .slice none 0 0, .int .i64 0, .int .i64 0]) 1 ?_; refine kP (cs := #[.string (⟨#[]⟩ : ByteArray), .int .i64 0, .slice none 0 0, .slice none 0 0, .slice none 0 0, .int .i64 0, .int .i64 0]) 0 ?_; (with_reducible repeat (first | apply kN | apply kD | apply kA)); exact BK102.out) Try.underlying31 rfl (by kernel_rfl)) rfl ?_
 exact ⟨_, _, _, by first | rfl | (simp [*, errW_none, errW_some] <;> rfl), by (with_reducible repeat (first | apply rA | apply rN | apply rD)); exact Rf7 HO128.out BK102.out (by decide) (fun _ hk => hk.1.1), by (with_reducible repeat (first | apply rA | apply rN | apply rD)); exact Rf7 HO131.out BK102.out (by decide) (fun _ hk => trivial), by (with_reducible repeat (first | apply rA | apply rN | apply rD)); exact Rf7 HO134.out BK102.out (by decide) (fun _ hk => hk.1.1), bX HB.out⟩

/-! ### impl_Topic_fetch: function 42 (by hand) -/
theorem R_keepmv {α β : Type} {d : Kd α} {d' : Kd β} {e e' base b : Nat} {ok ok' : Nat → Prop} {W w1 : World} {u v : Value} {xs : List α} {ys : List β} {g t : Nat} {cs : Array Value} (h : d.R e W base ok u xs) (hv : d'.R e' W b ok' v ys) (hb : W.heap[g]? = some (.cells cs t (0, 0))) (ht : ∀ q, q ∈ e :: d.E → q ≠ e') (ht2 : ∀ q, q ∈ e :: d.E → q ≠ t) (hk : KeepBut W w1 g v.ownBlock) : d.R e w1 base ok u xs := by
  refine Kd.R_mono (Kd.R_move (Kd.R_bound h) (fun k hk' => hk.2 k hk'.2.2.1 (fun hgk => ?_) (fun he => ?_))) (fun _ hk => hk.1)
  · obtain ⟨_, _, _, q, hq, cells, hc⟩ := hk'
    subst hgk
    rw [hb] at hc
    injection hc with hc
    injection hc with _ hc
    exact ht2 q hq hc.symm
  · obtain ⟨_, _, _, q, hq, cells, hc⟩ := hk'
    obtain ⟨cells', hc'⟩ := Kd.R_typed hv k he.symm
    rw [hc] at hc'
    injection hc' with hc'
    injection hc' with _ hc'
    exact ht q hq hc'
theorem addr_D (g D : Nat) : Option.map (fun x => x.add (D * Kd.string.sz)) (some (⟨g, 0, none⟩ : Addr)) = some ⟨g, D, none⟩ := by rw [Option.map_some, Addr.add_lit, show Kd.string.sz = 1 from rfl, Nat.mul_one, Nat.zero_add]
def impl_Topic_fetch.f (s0 : ByteArray) (s1 : Int) (s2 : List ByteArray) (s3 : List S55) (x : ByteArray) (most : Int) : Option (List ByteArray × Int × Int × List S55) :=
  if s3.length ≤ 1000 then (if bsF s3 x = true ∨ s3.length ≠ 4 then (if 0 ≤ wrap64 ((rd_T55 (grpL s1 s3 x) (bsI s3 x)).f1 - s1) ∧ wrap64 ((rd_T55 (grpL s1 s3 x) (bsI s3 x)).f1 - s1) ≤ (s2.length : Int) ∧ 0 ≤ most ∧ s2.length ≤ 1000 then
    some ((s2.drop (wrap64 ((rd_T55 (grpL s1 s3 x) (bsI s3 x)).f1 - s1)).toNat).take most.toNat, (rd_T55 (grpL s1 s3 x) (bsI s3 x)).f1, 0, grpL s1 s3 x) else none) else some ([], 0, 9, s3)) else none
theorem size73 (A : Option Addr) (n c : Nat) (w : World) : Calls Try.prog 73 #[.slice A n c] w fun e w' => e = .returned (.int .i64 n) ∧ Drawn0 w w' := by
  have := impl_size_string.calls A c (List.replicate n ByteArray.empty) n w (by simp [impl_size_string.f])
  rwa [List.length_replicate] at this
theorem clone70 (A : Option Addr) (n c : Nat) (l : List ByteArray) (w : World) (hn : l.length = n) (hr : Kd.C Kd.string w A l.length l) (hc : n ≤ c) (hl : n ≤ 1000) : Calls Try.prog 70 #[.slice A n c] w fun e w' => ∃ v0_ : Value, e = .returned (v0_) ∧ Kd.R Kd.string 9 w' w.heap.size (fun _ => True) v0_ l ∧ Below w.heap.size w w' := by
  subst hn
  exact slices_Clone_string_string.calls A c l l w hr hc (by unfold slices_Clone_string_string.f; simp; omega)
set_option maxHeartbeats 4000000 in
set_option maxRecDepth 100000 in
theorem impl_Topic_fetch.calls (g : Nat) (s0 : ByteArray) (s1 : Int) (v2 v3 : Value) (s2 : List ByteArray) (s3 : List S55) (x : ByteArray) (most : Int) (r0 : List ByteArray) (r1 r2 : Int) (s3' : List S55) (w0 w : World)
    (hG : w.heap[g]? = some (.cells #[.string s0, .int .i64 s1, v2, v3] 29 (0, 0))) (hg : w0.heap.size ≤ g) (hB : Below w0.heap.size w0 w)
    (h2 : Kd.R Kd.string 9 w w0.heap.size (fun _ => True) v2 s2) (h3 : Kd.R k55 55 w w0.heap.size (fun _ => True) v3 s3) (h : impl_Topic_fetch.f s0 s1 s2 s3 x most = some (r0, r1, r2, s3')) :
    Calls Try.prog 42 #[.pointer (some ⟨g, 0, none⟩), .string x, .int .i64 most] w fun e w' => ∃ N u v3', N = w.heap.size ∧ e = .returned (.tuple #[u, .int .i64 r1, .int .i64 r2]) ∧ Kd.R Kd.string 9 w' N (fun _ => True) u r0 ∧ w'.heap[g]? = some (.cells #[.string s0, .int .i64 s1, v2, v3'] 29 (0, 0)) ∧ Kd.R k55 55 w' w0.heap.size (fun _ => True) v3' s3' ∧ Below w0.heap.size w0 w' ∧ KeepBut w w' g v3.ownBlock := by
  unfold impl_Topic_fetch.f at h
  by_cases hl : s3.length ≤ 1000
  rotate_left
  · rw [if_neg hl] at h; cases h
  rw [if_pos hl] at h
  have BK := Aside0.mk hG
  have HB := Aside0.mk hB
  have HO := Aside0.mk h3
  have HH := Aside0.mk h2
  have GE := Aside0.mk hg
  have HL := Aside0.mk hl
  by_cases hs : bsF s3 x = true ∨ s3.length ≠ 4
  rotate_left
  · rw [if_neg hs] at h
    obtain ⟨rfl, rfl, rfl, rfl⟩ : [] = r0 ∧ 0 = r1 ∧ 9 = r2 ∧ s3 = s3' := by simpa using h
    obtain ⟨A3, c3, rfl⟩ := Kd.R_slice h3
    have HF := Aside0.mk (show bsF s3 x = false by have := fun e => hs (.inl e); simpa using this)
    have H4 := Aside0.mk (show s3.length = 4 by have := fun e => hs (.inr e); simpa using this)
    have HR := Aside0.mk (Kd.R_reads' h3).2.2
    clear hG hB h3 hg hl hs h h2
    go_enter Try.func42, Try.ntmps42
    go_wp2_with (first | (go_at_call 72; (with_reducible refine (grp_full g c3 A3 s0 s1 _ s3 x _ BK.out HR.out H4.out HF.out).mono ?_); rintro e w1 ⟨rfl, hb⟩; have HX := Aside0.mk hb; clear hb))
    refine bodyPost_ret (results_tmp3 rfl _ _ _) rfl ?_
    exact ⟨_, _, _, rfl, rfl, Kd.R_nil _ _ _ _ _, blk_below BK.out HX.out, Kd.R_below HO.out HX.out, below_step HB.out HX.out, KeepBut.of_below HX.out _ _⟩
  · rw [if_pos hs] at h
    obtain ⟨ak, hak⟩ : ∃ a, a = (rd_T55 (grpL s1 s3 x) (bsI s3 x)).f1 := ⟨_, rfl⟩
    rw [← hak] at h
    by_cases hd : 0 ≤ wrap64 (ak - s1) ∧ wrap64 (ak - s1) ≤ (s2.length : Int) ∧ 0 ≤ most ∧ s2.length ≤ 1000
    rotate_left
    · rw [if_neg hd] at h; cases h
    rw [if_pos hd] at h
    obtain ⟨rfl, rfl, rfl, rfl⟩ : (s2.drop (wrap64 (ak - s1)).toNat).take most.toNat = r0 ∧ ak = r1 ∧ 0 = r2 ∧ grpL s1 s3 x = s3' := by simpa using h
    obtain ⟨D, hD⟩ : ∃ D : Nat, wrap64 (ak - s1) = (D : Int) := ⟨(wrap64 (ak - s1)).toNat, by omega⟩
    obtain ⟨M, rfl⟩ : ∃ M : Nat, most = (M : Int) := ⟨most.toNat, by omega⟩
    rw [hD] at hd
    have hDl : D ≤ s2.length := by omega
    have HLS := Aside0.mk hd.2.2.2
    have HAK := Aside0.mk hak
    have HS := Aside0.mk hs
    have HI := Aside0.mk (grpL_lt s1 s3 x)
    obtain ⟨A2, c2, rfl⟩ := Kd.R_slice h2
    have hc2 := (Kd.R_reads' h2).2.1
    have HC := Aside0.mk (Kd.R_reads' h2).2.2
    have e0 : (s2.drop (wrap64 (ak - s1)).toNat).take (M : Int).toNat = (s2.drop D).take M := by rw [hD, Int.toNat_natCast, Int.toNat_natCast]
    rw [e0]
    clear hG hB hg hl hs h hd e0 hak h3 h2
    have hD0 : (0 : Int) ≤ (D : Int) := by omega
    have hD1 : (D : Int) ≤ (s2.length : Int) := by omega
    have hDn : D ≤ s2.length := hDl
    by_cases hcd : c2 = D
    · obtain rfl : D = s2.length := by omega
      subst hcd
      have hnil : (s2.drop s2.length).take M = [] := by simp
      rw [hnil]
      have HC2 := fun (W : World) => Aside0.mk (show Kd.C Kd.string W A2 ([] : List ByteArray).length [] from ⟨rfl, by simp, fun h => absurd h (by simp)⟩)
      have mixed : Try.prog.follows Departure.mixedOrders = true := by kernel_rfl
      have hq1 : s2.length - s2.length = 0 := Nat.sub_self _
      have hq2 : ((s2.length : Int)).toNat = s2.length := Int.toNat_natCast _
      clear hDl hc2 hnil hD1 hDn
      by_cases hm : 0 < M
      · have c1 : decide ((0 : Int) < (M : Int)) = true := decide_eq_true (by omega)
        have c1n : decide (0 < M) = true := decide_eq_true hm
        have c1p : 0 < M := hm
        clear hm
        go_enter Try.func42, Try.ntmps42
        go_wp2_with (first | (go_at_call 72; (with_reducible refine (grp_some g s0 s1 _ _ s3 x w0 _ BK.out GE.out HB.out HO.out HL.out HS.out).mono ?_); rintro e w1 ⟨gb, cb, rfl, hbk, ho, hb, hk, hat⟩; clear BK HO HB; have BK := Aside0.mk hbk; have HO := Aside0.mk ho; have HB := Aside0.mk hb; have HK0 := Aside0.mk hk; have hcz_1 : w1.cell? ⟨g, 1, none⟩ = some (.int .i64 s1) := (blk_cell BK.out 1).trans rfl; have hcz_2 : w1.cell? ⟨g, 2, none⟩ = some (.slice A2 s2.length s2.length) := (blk_cell BK.out 2).trans rfl; obtain ⟨ce, hcl, hM, hcc, hfr⟩ := Kd.R_elem HO.out z55 (bsI s3 x : Int) (by omega) (by have := HI.out; omega); obtain rfl := k55_openM hM; rw [Int.toNat_natCast] at hcc hfr; have hy1 : w1.cell? ⟨gb, bsI s3 x * 2 + 1, none⟩ = some (.int .i64 ak) := (hcc 1 _ rfl).trans (by rw [HAK.out]; rfl); clear hM hcl hcc hfr hbk ho hb hk hat))
        have hw : IntKind.i64.wrap (ak - s1) = (s2.length : Int) := (Go.Proofs.YtnjnjffjblgldaaW.PrintLast.i64_w _).trans hD
        go_quiet (fail)
        go_wp2
        go_region_with_o (first
          | (go_at_call 73; (with_reducible refine (size73 _ _ _ _).mono ?_); rintro e w' ⟨rfl, ⟨nd, rfl⟩⟩)
          | (go_at_call 70; (with_reducible refine (clone70 A2 0 0 [] _ rfl ?k1 (Nat.le_refl _) (Nat.zero_le _)).mono ?_); (case k1 => (with_reducible repeat (first | apply Kd.C_drewN | apply Kd.C_drew)); exact (HC2 _).out); rintro e w2 ⟨u, rfl, ho, hb⟩; have HU := Aside0.mk ho; have HB2 := Aside0.mk hb; have hy2 := pw_cell_below hb hy1; clear ho hb))
        all_goals (
          go_wp2
          go_ret3
          exact ⟨_, u, _, rfl, by first | rfl | (simp [Act.put]; done), Kd.R_lower HU.out (by have := HK0.out.1; simpa using this), blk_below (blk_drewN BK.out _) HB2.out, Kd.R_below (Kd.R_drewN HO.out _) HB2.out, below_step (pw_below_drewN HB.out _) HB2.out, KeepBut.trans (keep_drewN HK0.out _) (KeepBut.of_below HB2.out g _) (.inl rfl)⟩)
      · obtain rfl : M = 0 := by omega
        clear hm
        go_enter Try.func42, Try.ntmps42
        go_wp2_with (first | (go_at_call 72; (with_reducible refine (grp_some g s0 s1 _ _ s3 x w0 _ BK.out GE.out HB.out HO.out HL.out HS.out).mono ?_); rintro e w1 ⟨gb, cb, rfl, hbk, ho, hb, hk, hat⟩; clear BK HO HB; have BK := Aside0.mk hbk; have HO := Aside0.mk ho; have HB := Aside0.mk hb; have HK0 := Aside0.mk hk; have hcz_1 : w1.cell? ⟨g, 1, none⟩ = some (.int .i64 s1) := (blk_cell BK.out 1).trans rfl; have hcz_2 : w1.cell? ⟨g, 2, none⟩ = some (.slice A2 s2.length s2.length) := (blk_cell BK.out 2).trans rfl; obtain ⟨ce, hcl, hM, hcc, hfr⟩ := Kd.R_elem HO.out z55 (bsI s3 x : Int) (by omega) (by have := HI.out; omega); obtain rfl := k55_openM hM; rw [Int.toNat_natCast] at hcc hfr; have hy1 : w1.cell? ⟨gb, bsI s3 x * 2 + 1, none⟩ = some (.int .i64 ak) := (hcc 1 _ rfl).trans (by rw [HAK.out]; rfl); clear hM hcl hcc hfr hbk ho hb hk hat))
        have hw : IntKind.i64.wrap (ak - s1) = (s2.length : Int) := (Go.Proofs.YtnjnjffjblgldaaW.PrintLast.i64_w _).trans hD
        go_quiet (fail)
        go_wp2
        go_region_with_o (first
          | (go_at_call 73; (with_reducible refine (size73 _ _ _ _).mono ?_); rintro e w' ⟨rfl, ⟨nd, rfl⟩⟩)
          | (go_at_call 70; (with_reducible refine (clone70 A2 0 0 [] _ rfl ?k1 (Nat.le_refl _) (Nat.zero_le _)).mono ?_); (case k1 => (with_reducible repeat (first | apply Kd.C_drewN | apply Kd.C_drew)); exact (HC2 _).out); rintro e w2 ⟨u, rfl, ho, hb⟩; have HU := Aside0.mk ho; have HB2 := Aside0.mk hb; have hy2 := pw_cell_below hb hy1; clear ho hb))
        all_goals (
          go_wp2
          go_ret3
          exact ⟨_, u, _, rfl, by first | rfl | (simp [Act.put]; done), Kd.R_lower HU.out (by have := HK0.out.1; simpa using this), blk_below (blk_drewN BK.out _) HB2.out, Kd.R_below (Kd.R_drewN HO.out _) HB2.out, below_step (pw_below_drewN HB.out _) HB2.out, KeepBut.trans (keep_drewN HK0.out _) (KeepBut.of_below HB2.out g _) (.inl rfl)⟩)
    · obtain ⟨g2, rfl⟩ : ∃ g2, A2 = some ⟨g2, 0, none⟩ := by
        obtain ⟨_, inner, ⟨_, h2⟩, _⟩ := HH.out
        rcases h2 with ⟨h2, h3⟩ | ⟨g', cap', cur, h2, _⟩
        · injection h2 with e1 e2 e3
          omega
        · injection h2 with e1 _ _
          exact ⟨g', e1⟩
      by_cases hm : ((s2.length - D : Nat) : Int) < (M : Int)
      · have hN : (s2.drop D).take M = (s2.drop D).take (s2.length - D) := by rw [List.take_of_length_le (by simp; omega), List.take_of_length_le (by simp)]
        rw [hN]
        have hm1 : s2.length - D ≤ (s2.drop D).length := by simp
        have hml : ((s2.drop D).take (s2.length - D)).length = s2.length - D := by simp
        have c1 : decide (((s2.length - D : Nat) : Int) < (M : Int)) = true := decide_eq_true hm
        have c1n : decide (s2.length - D < M) = true := decide_eq_true (by omega)
        have c1p : s2.length - D < M := by omega
        have c2n : s2.length - D ≤ c2 - D := by omega
        have c2i : ((s2.length - D : Nat) : Int) ≤ ((c2 - D : Nat) : Int) := by omega
        have HM1 := Aside0.mk hm1
        have HDL := Aside0.mk hDl
        have HCD := Aside0.mk hcd
        have HC0 := Aside0.mk hc2
        have mixed : Try.prog.follows Departure.mixedOrders = true := by kernel_rfl
        clear hm1 hm hDl hN
        go_enter Try.func42, Try.ntmps42
        go_wp2_with (first | (go_at_call 72; (with_reducible refine (grp_some g s0 s1 _ _ s3 x w0 _ BK.out GE.out HB.out HO.out HL.out HS.out).mono ?_); rintro e w1 ⟨gb, cb, rfl, hbk, ho, hb, hk, hat⟩; have HH1 := Aside0.mk (R_keepmv HH.out HO.out BK.out (by decide) (by decide) hk); clear BK HO HB; have BK := Aside0.mk hbk; have HO := Aside0.mk ho; have HB := Aside0.mk hb; have HK0 := Aside0.mk hk; have hcz_1 : w1.cell? ⟨g, 1, none⟩ = some (.int .i64 s1) := (blk_cell BK.out 1).trans rfl; have hcz_2 : w1.cell? ⟨g, 2, none⟩ = some (.slice (some ⟨g2, 0, none⟩) s2.length c2) := (blk_cell BK.out 2).trans rfl; obtain ⟨ce, hcl, hM, hcc, hfr⟩ := Kd.R_elem HO.out z55 (bsI s3 x : Int) (by omega) (by have := HI.out; omega); obtain rfl := k55_openM hM; rw [Int.toNat_natCast] at hcc hfr; have hy1 : w1.cell? ⟨gb, bsI s3 x * 2 + 1, none⟩ = some (.int .i64 ak) := (hcc 1 _ rfl).trans (by rw [HAK.out]; rfl); clear hM hcl hcc hfr hbk ho hb hk hat; have HC1 := Kd.C_drop (Kd.R_reads' HH1.out).2.2 HDL.out HC0.out; rw [if_neg HCD.out, addr_D] at HC1; have HC2 := Aside0.mk (Kd.C_take HC1 HM1.out); clear HC1))
        have hw : IntKind.i64.wrap (ak - s1) = (D : Int) := (Go.Proofs.YtnjnjffjblgldaaW.PrintLast.i64_w _).trans hD
        go_quiet (fail)
        go_wp2
        go_region_with_o (first
          | (go_at_call 73; (with_reducible refine (size73 _ _ _ _).mono ?_); rintro e w' ⟨rfl, ⟨nd, rfl⟩⟩)
          | (go_at_call 70; (with_reducible refine (clone70 _ _ _ ((s2.drop D).take (s2.length - D)) _ hml ?k1 c2n ?k3).mono ?_); (case k1 => (with_reducible repeat (first | apply Kd.C_drewN | apply Kd.C_drew)); exact HC2.out); (case k3 => have := HLS.out; omega); rintro e w2 ⟨u, rfl, ho, hb⟩; have HU := Aside0.mk ho; have HB2 := Aside0.mk hb; have hy2 := pw_cell_below hb hy1; clear ho hb))
        all_goals (
          go_wp2
          go_ret3
          exact ⟨_, u, _, rfl, by first | rfl | (simp [Act.put]; done), Kd.R_lower HU.out (by have := HK0.out.1; simpa using this), blk_below (blk_drewN BK.out _) HB2.out, Kd.R_below (Kd.R_drewN HO.out _) HB2.out, below_step (pw_below_drewN HB.out _) HB2.out, KeepBut.trans (keep_drewN HK0.out _) (KeepBut.of_below HB2.out g _) (.inl rfl)⟩)
      · have hm1 : M ≤ (s2.drop D).length := by simp; omega
        have hml : ((s2.drop D).take M).length = M := by simp; omega
        have c1 : decide (((s2.length - D : Nat) : Int) < (M : Int)) = false := decide_eq_false hm
        have c1n : decide (s2.length - D < M) = false := decide_eq_false (by omega)
        have c1p : ¬ (s2.length - D < M) := by omega
        have c1q : M ≤ s2.length - D := by omega
        have c2n : M ≤ c2 - D := by omega
        have c2i : (M : Int) ≤ ((c2 - D : Nat) : Int) := by omega
        have c2z : (0 : Int) ≤ (M : Int) := by omega
        have HM1 := Aside0.mk hm1
        have HDL := Aside0.mk hDl
        have HCD := Aside0.mk hcd
        have HC0 := Aside0.mk hc2
        have mixed : Try.prog.follows Departure.mixedOrders = true := by kernel_rfl
        clear hm1 hm hDl
        go_enter Try.func42, Try.ntmps42
        go_wp2_with (first | (go_at_call 72; (with_reducible refine (grp_some g s0 s1 _ _ s3 x w0 _ BK.out GE.out HB.out HO.out HL.out HS.out).mono ?_); rintro e w1 ⟨gb, cb, rfl, hbk, ho, hb, hk, hat⟩; have HH1 := Aside0.mk (R_keepmv HH.out HO.out BK.out (by decide) (by decide) hk); clear BK HO HB; have BK := Aside0.mk hbk; have HO := Aside0.mk ho; have HB := Aside0.mk hb; have HK0 := Aside0.mk hk; have hcz_1 : w1.cell? ⟨g, 1, none⟩ = some (.int .i64 s1) := (blk_cell BK.out 1).trans rfl; have hcz_2 : w1.cell? ⟨g, 2, none⟩ = some (.slice (some ⟨g2, 0, none⟩) s2.length c2) := (blk_cell BK.out 2).trans rfl; obtain ⟨ce, hcl, hM, hcc, hfr⟩ := Kd.R_elem HO.out z55 (bsI s3 x : Int) (by omega) (by have := HI.out; omega); obtain rfl := k55_openM hM; rw [Int.toNat_natCast] at hcc hfr; have hy1 : w1.cell? ⟨gb, bsI s3 x * 2 + 1, none⟩ = some (.int .i64 ak) := (hcc 1 _ rfl).trans (by rw [HAK.out]; rfl); clear hM hcl hcc hfr hbk ho hb hk hat; have HC1 := Kd.C_drop (Kd.R_reads' HH1.out).2.2 HDL.out HC0.out; rw [if_neg HCD.out, addr_D] at HC1; have HC2 := Aside0.mk (Kd.C_take HC1 HM1.out); clear HC1))
        have hw : IntKind.i64.wrap (ak - s1) = (D : Int) := (Go.Proofs.YtnjnjffjblgldaaW.PrintLast.i64_w _).trans hD
        go_quiet (fail)
        go_wp2
        go_region_with_o (first
          | (go_at_call 73; (with_reducible refine (size73 _ _ _ _).mono ?_); rintro e w' ⟨rfl, ⟨nd, rfl⟩⟩)
          | (go_at_call 70; (with_reducible refine (clone70 _ _ _ ((s2.drop D).take M) _ hml ?k1 c2n ?k3).mono ?_); (case k1 => (with_reducible repeat (first | apply Kd.C_drewN | apply Kd.C_drew)); exact HC2.out); (case k3 => have := HLS.out; omega); rintro e w2 ⟨u, rfl, ho, hb⟩; have HU := Aside0.mk ho; have HB2 := Aside0.mk hb; have hy2 := pw_cell_below hb hy1; clear ho hb))
        all_goals (
          go_wp2
          go_ret3
          exact ⟨_, u, _, rfl, by first | rfl | (simp [Act.put]; done), Kd.R_lower HU.out (by have := HK0.out.1; simpa using this), blk_below (blk_drewN BK.out _) HB2.out, Kd.R_below (Kd.R_drewN HO.out _) HB2.out, below_step (pw_below_drewN HB.out _) HB2.out, KeepBut.trans (keep_drewN HK0.out _) (KeepBut.of_below HB2.out g _) (.inl rfl)⟩)


end Go.Proofs.Ytnjnjffjblgldaa.Q
