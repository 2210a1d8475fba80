/- Printed by a program of this session (wip/mp.py over the kit's print.py): functions of the translation as plain Lean functions, and that the machine's calls do what these say. -/
import Derived.Test.YtcnilcipcnjmjaaQx0
import Derived.Test.YtcnilcipcnjmjaaQx3
import Derived.Test.YtcnilcipcnjmjaaQx5
import Derived.Test.YtcnilcipcnjmjaaQx11
import Derived.Test.YtcnilcipcnjmjaaQx13
import Derived.Test.YtcnilcipcnjmjaaQx14
import Derived.Test.YtcnilcipcnjmjaaQx18
import Derived.Test.YtcnilcipcnjmjaaQx19
namespace Go.Proofs.Ytcnilcipcnjmjaa.Q
open Go.RowKit Go.Proofs.Ytcnilcipcnjmjaa.HB Go.Proofs.YtcnilcipcnjmjaaW.PrintWords Go.Proofs.YtcnilcipcnjmjaaW.PrintLast Go.Proofs.YtcnilcipcnjmjaaW.PrintMore
attribute [local go_sem] max2_int min2_int max_two min_two max_three min_three max_four min_four   -- for this text's walks alone
set_option linter.unusedVariables false
set_option linter.unusedSimpArgs false

/-! ### laws_FnPublish: function 4 -/
abbrev laws_FnPublish.b0 : Array Bool := #[false, false, true, false, false, false, false, false, false, false, false, false, false, false, false, false, false, false, false, false]
abbrev laws_FnPublish.b1 : Array Bool := #[true, false, true, false, false, false, false, false, false, false, false, false, false, false, false, false, false, false, false, false]
abbrev laws_FnPublish.b2 : Array Bool := #[true, true, true, true, true, true, true, true, false, true, false, false, false, false, false, false, false, false, false, false]
abbrev laws_FnPublish.b3 : Array Bool := #[true, true, true, true, true, true, true, true, true, true, true, true, true, true, true, false, true, false, false, false]
abbrev laws_FnPublish.b4 : Array Bool := #[true, true, true, true, true, true, true, true, true, true, true, true, false, false, true, false, false, false, false, false, false, false, false, false, false, false, false, false, false, false, false, false, false, false, false, false, false, false, false, false]
abbrev laws_FnPublish.b5 : Array Bool := #[true, true, true, true, true, true, true, true, true, true, true, true, false, false, true, false, false, true, false, false, false, false, false, false, false, false, false, false, false, false, false, false, false, false, false, false, false, false, false, false]
abbrev laws_FnPublish.b6 : Array Bool := #[true, true, true, true, true, true, true, true, true, true, true, true, true, false, true, false, false, true, false, false, false, false, false, false, false, false, false, false, false, false, false, false, false, false, false, false, false, false, false, false]
abbrev laws_FnPublish.b7 : Array Bool := #[true, true, true, true, true, true, true, true, true, true, true, true, true, false, true, true, false, true, false, false, false, false, false, false, false, false, false, false, false, false, false, false, false, false, false, false, false, false, false, false]
abbrev laws_FnPublish.b8 : Array Bool := #[true, true, true, true, true, true, true, true, true, true, true, true, true, true, true, true, false, true, false, false, false, false, false, false, false, false, false, false, false, false, false, false, false, false, false, false, false, false, false, false]
abbrev laws_FnPublish.b9 : Array Bool := #[true, true, true, true, true, true, true, true, true, true, true, true, true, false, true, true, false, true, true, false, false, false, false, false, false, false, false, false, false, false, false, false, false, false, false, false, false, false, false, false]
abbrev laws_FnPublish.b10 : Array Bool := #[true, true, true, true, true, true, true, true, true, true, true, true, true, true, true, true, false, true, true, false, false, false, false, false, false, false, false, false, false, false, false, false, false, false, false, false, false, false, false, false]
abbrev laws_FnPublish.b11 : Array Bool := #[true, true, true, true, true, true, true, true, true, true, true, true, true, true, true, true, true, true, true, true, true, true, true, true, true, false, true, false, false, false, false, false, false, false, false, false, false, false, false, false]
abbrev laws_FnPublish.b12 : Array Bool := #[true, true, true, true, true, true, true, true, true, true, true, true, true, true, true, true, true, true, true, true, true, true, true, true, true, true, true, true, true, true, true, true, true, false, true, false, false, false, false, false]
mutual
def laws_FnPublish.j0 : Nat → List Int → List Int → Bool → Option (Bool)
  | 0, _, _, _ => none
  | k + 1, x0, x1, x16 => if x16 = true then (some true) else ((spec_DrawTopicPublish.f k x0).bind fun bt101 => ((impl_TopicPublish.f k bt101.1 bt101.2.1 bt101.2.2.1 bt101.2.2.2.1 bt101.2.2.2.2).bind fun bt111 => ((spec_DrawTopicEnd.f k x1).bind fun bt125 => ((spec_TopicPublish.f k bt101.1 bt101.2.1 bt101.2.2.1 bt101.2.2.2.1 bt101.2.2.2.2).bind fun bt134 => ((laws_lwTopics.f k bt111.1 bt111.2.1 bt111.2.2.1 bt111.2.2.2.1 bt111.2.2.2.2.1 bt111.2.2.2.2.2.1 bt111.2.2.2.2.2.2 bt134.1 bt134.2.1 bt134.2.2.1 bt134.2.2.2.1 bt134.2.2.2.2.1 bt134.2.2.2.2.2.1 bt134.2.2.2.2.2.2).bind fun t147 => (if t147 = true then ((impl_TopicEnd.f k bt125.1 bt125.2.1 bt125.2.2.1 bt125.2.2.2).bind fun t148 => ((spec_TopicEnd.f k bt125.1 bt125.2.1 bt125.2.2.1 bt125.2.2.2).bind fun t149 => (if t148 = t149 then ((impl_TopicRight.f k bt125.1 bt125.2.1 bt125.2.2.1 bt125.2.2.2).bind fun t150 => ((spec_TopicRight.f k bt125.1 bt125.2.1 bt125.2.2.1 bt125.2.2.2).bind fun t151 => (laws_FnPublish.j1 k bt101.2.2.2.2 (t150 != t151) bt101.1 bt101.2.1 bt101.2.2.1 bt101.2.2.2.1 bt111.1 bt111.2.1 bt111.2.2.1 bt111.2.2.2.1 bt111.2.2.2.2.1 bt111.2.2.2.2.2.1 bt111.2.2.2.2.2.2))) else (laws_FnPublish.j1 k bt101.2.2.2.2 true bt101.1 bt101.2.1 bt101.2.2.1 bt101.2.2.2.1 bt111.1 bt111.2.1 bt111.2.2.1 bt111.2.2.2.1 bt111.2.2.2.2.1 bt111.2.2.2.2.2.1 bt111.2.2.2.2.2.2)))) else (laws_FnPublish.j1 k bt101.2.2.2.2 true bt101.1 bt101.2.1 bt101.2.2.1 bt101.2.2.2.1 bt111.1 bt111.2.1 bt111.2.2.1 bt111.2.2.2.1 bt111.2.2.2.2.1 bt111.2.2.2.2.2.1 bt111.2.2.2.2.2.2)))))))
def laws_FnPublish.j1 : Nat → ByteArray → Bool → ByteArray → Int → List ByteArray → List (S36) → ByteArray → Int → List ByteArray → List (S36) → List ByteArray → Int → Int → Option (Bool)
  | 0, _, _, _, _, _, _, _, _, _, _, _, _, _ => none
  | k + 1, x6, x46, x111000, x111001, x111002, x111003, x125000, x125001, x125002, x125003, x125004, x125005, x125006 => if x46 = true then (none) else (if x125006 = 0 then ((spec_TopicEnd.f k x111000 x111001 x111002 x111003).bind fun t152 => (if x125005 = t152 then ((some (([] : List ByteArray) : List ByteArray)).bind fun y153 => (if y153.length + x111002.length < 8796093022208 then ((some (y153 ++ x111002 : List ByteArray)).bind fun y156 => ((some (([x6] : List ByteArray) : List ByteArray)).bind fun y159 => (if y156.length + y159.length < 8796093022208 then ((laws_lwTexts.f k x125002 (y156 ++ y159)).bind fun t165 => (if t165 = true then ((laws_lwGroups.f k x125003 x111003).bind fun t166 => (if t166 = true then (some (x125001 == x111001)) else (none))) else (none))) else (none)))) else (none))) else (none))) else (some true))
end
def laws_FnPublish.f (k : Nat) (l0 : List Int) (l1 : List Int) : Option (Bool) := if (l0.length : Int) > 1048576 then (laws_FnPublish.j0 k l0 l1 true) else (laws_FnPublish.j0 k l0 l1 (decide ((l1.length : Int) > 1048576)))
theorem laws_FnPublish.mono_l : ∀ k, (∀ y0 y1 y2, LeO (laws_FnPublish.j0 k y0 y1 y2) (laws_FnPublish.j0 (k + 1) y0 y1 y2)) ∧ (∀ y0 y1 y2 y3 y4 y5 y6 y7 y8 y9 y10 y11 y12, LeO (laws_FnPublish.j1 k y0 y1 y2 y3 y4 y5 y6 y7 y8 y9 y10 y11 y12) (laws_FnPublish.j1 (k + 1) y0 y1 y2 y3 y4 y5 y6 y7 y8 y9 y10 y11 y12))
  | 0 => ⟨fun _ _ _ r h => by simp [laws_FnPublish.j0] at h, fun _ _ _ _ _ _ _ _ _ _ _ _ _ r h => by simp [laws_FnPublish.j1] at h⟩
  | k + 1 => by
    obtain ⟨ih0, ih1⟩ := laws_FnPublish.mono_l k
    refine ⟨?_, ?_⟩
    · intro y0 y1 y2
      unfold laws_FnPublish.j0
      repeat' first
      | (with_reducible exact ih0 _ _ _)
      | (with_reducible exact ih1 _ _ _ _ _ _ _ _ _ _ _ _ _)
      | (with_reducible exact impl_TopicEnd.mono _ _ _ _ _)
      | (with_reducible exact impl_TopicPublish.mono _ _ _ _ _ _)
      | (with_reducible exact impl_TopicRight.mono _ _ _ _ _)
      | (with_reducible exact laws_lwGroups.mono _ _ _)
      | (with_reducible exact laws_lwTexts.mono _ _ _)
      | (with_reducible exact laws_lwTopics.mono _ _ _ _ _ _ _ _ _ _ _ _ _ _ _)
      | (with_reducible exact spec_DrawTopicEnd.mono _ _)
      | (with_reducible exact spec_DrawTopicPublish.mono _ _)
      | (with_reducible exact spec_TopicEnd.mono _ _ _ _ _)
      | (with_reducible exact spec_TopicPublish.mono _ _ _ _ _ _)
      | (with_reducible exact spec_TopicRight.mono _ _ _ _ _)
      | (with_reducible exact LeO.refl _)
      | (with_reducible exact LeO.none _)
      | (with_reducible refine LeO.ite ?_ ?_)
      | (with_reducible refine LeO.bind ?_ (fun _ => ?_))
      | exact ih0 _ _ _
      | exact ih1 _ _ _ _ _ _ _ _ _ _ _ _ _
      | exact impl_TopicEnd.mono _ _ _ _ _
      | exact impl_TopicPublish.mono _ _ _ _ _ _
      | exact impl_TopicRight.mono _ _ _ _ _
      | exact laws_lwGroups.mono _ _ _
      | exact laws_lwTexts.mono _ _ _
      | exact laws_lwTopics.mono _ _ _ _ _ _ _ _ _ _ _ _ _ _ _
      | exact spec_DrawTopicEnd.mono _ _
      | exact spec_DrawTopicPublish.mono _ _
      | exact spec_TopicEnd.mono _ _ _ _ _
      | exact spec_TopicPublish.mono _ _ _ _ _ _
      | exact spec_TopicRight.mono _ _ _ _ _
      | exact LeO.none _
      | refine LeO.ite ?_ ?_
      | refine LeO.bind ?_ (fun _ => ?_)
    · intro y0 y1 y2 y3 y4 y5 y6 y7 y8 y9 y10 y11 y12
      unfold laws_FnPublish.j1
      repeat' first
      | (with_reducible exact ih0 _ _ _)
      | (with_reducible exact ih1 _ _ _ _ _ _ _ _ _ _ _ _ _)
      | (with_reducible exact impl_TopicEnd.mono _ _ _ _ _)
      | (with_reducible exact impl_TopicPublish.mono _ _ _ _ _ _)
      | (with_reducible exact impl_TopicRight.mono _ _ _ _ _)
      | (with_reducible exact laws_lwGroups.mono _ _ _)
      | (with_reducible exact laws_lwTexts.mono _ _ _)
      | (with_reducible exact laws_lwTopics.mono _ _ _ _ _ _ _ _ _ _ _ _ _ _ _)
      | (with_reducible exact spec_DrawTopicEnd.mono _ _)
      | (with_reducible exact spec_DrawTopicPublish.mono _ _)
      | (with_reducible exact spec_TopicEnd.mono _ _ _ _ _)
      | (with_reducible exact spec_TopicPublish.mono _ _ _ _ _ _)
      | (with_reducible exact spec_TopicRight.mono _ _ _ _ _)
      | (with_reducible exact LeO.refl _)
      | (with_reducible exact LeO.none _)
      | (with_reducible refine LeO.ite ?_ ?_)
      | (with_reducible refine LeO.bind ?_ (fun _ => ?_))
      | exact ih0 _ _ _
      | exact ih1 _ _ _ _ _ _ _ _ _ _ _ _ _
      | exact impl_TopicEnd.mono _ _ _ _ _
      | exact impl_TopicPublish.mono _ _ _ _ _ _
      | exact impl_TopicRight.mono _ _ _ _ _
      | exact laws_lwGroups.mono _ _ _
      | exact laws_lwTexts.mono _ _ _
      | exact laws_lwTopics.mono _ _ _ _ _ _ _ _ _ _ _ _ _ _ _
      | exact spec_DrawTopicEnd.mono _ _
      | exact spec_DrawTopicPublish.mono _ _
      | exact spec_TopicEnd.mono _ _ _ _ _
      | exact spec_TopicPublish.mono _ _ _ _ _ _
      | exact spec_TopicRight.mono _ _ _ _ _
      | exact LeO.none _
      | refine LeO.ite ?_ ?_
      | refine LeO.bind ?_ (fun _ => ?_)
theorem laws_FnPublish.mono : ∀ a0 a1 k, LeO (laws_FnPublish.f k a0 a1) (laws_FnPublish.f (k + 1) a0 a1) := by
  intro a0 a1 k
  obtain ⟨ih0, ih1⟩ := laws_FnPublish.mono_l k
  unfold laws_FnPublish.f
  repeat' first
      | (with_reducible exact ih0 _ _ _)
      | (with_reducible exact ih1 _ _ _ _ _ _ _ _ _ _ _ _ _)
      | (with_reducible exact impl_TopicEnd.mono _ _ _ _ _)
      | (with_reducible exact impl_TopicPublish.mono _ _ _ _ _ _)
      | (with_reducible exact impl_TopicRight.mono _ _ _ _ _)
      | (with_reducible exact laws_lwGroups.mono _ _ _)
      | (with_reducible exact laws_lwTexts.mono _ _ _)
      | (with_reducible exact laws_lwTopics.mono _ _ _ _ _ _ _ _ _ _ _ _ _ _ _)
      | (with_reducible exact spec_DrawTopicEnd.mono _ _)
      | (with_reducible exact spec_DrawTopicPublish.mono _ _)
      | (with_reducible exact spec_TopicEnd.mono _ _ _ _ _)
      | (with_reducible exact spec_TopicPublish.mono _ _ _ _ _ _)
      | (with_reducible exact spec_TopicRight.mono _ _ _ _ _)
      | (with_reducible exact LeO.refl _)
      | (with_reducible exact LeO.none _)
      | (with_reducible refine LeO.ite ?_ ?_)
      | (with_reducible refine LeO.bind ?_ (fun _ => ?_))
      | exact ih0 _ _ _
      | exact ih1 _ _ _ _ _ _ _ _ _ _ _ _ _
      | exact impl_TopicEnd.mono _ _ _ _ _
      | exact impl_TopicPublish.mono _ _ _ _ _ _
      | exact impl_TopicRight.mono _ _ _ _ _
      | exact laws_lwGroups.mono _ _ _
      | exact laws_lwTexts.mono _ _ _
      | exact laws_lwTopics.mono _ _ _ _ _ _ _ _ _ _ _ _ _ _ _
      | exact spec_DrawTopicEnd.mono _ _
      | exact spec_DrawTopicPublish.mono _ _
      | exact spec_TopicEnd.mono _ _ _ _ _
      | exact spec_TopicPublish.mono _ _ _ _ _ _
      | exact spec_TopicRight.mono _ _ _ _ _
      | exact LeO.none _
      | refine LeO.ite ?_ ?_
      | refine LeO.bind ?_ (fun _ => ?_)
def laws_FnPublish.T6 : Bool × List (List Nat × List Nat) := (true, [([], []), ([], []), ([], []), ([1, 2], [1, 2]), ([0, 3, 3], [0, 3]), ([4], [4]), ([5, 4], [5]), ([6], [6]), ([7, 6, 6], [6, 7]), ([6], [6]), ([9, 8, 6], [6, 9]), ([8, 10, 6], [6, 8, 10]), ([6, 11], [6, 11]), ([12, 10], [12]), ([13], [13]), ([14, 13, 13], [13, 14]), ([13], [13]), ([16, 15, 13], [13, 16]), ([15, 17, 13], [13, 15, 17]), ([13, 18], [13, 18])])
def laws_FnPublish.B6 : List Nat := [0, 0, 0, 6, 15, 31, 63, 127, 255, 127, 1023, 2047, 4095, 8191, 16383, 32767, 16383, 131071, 262143, 524287]
theorem laws_FnPublish.tab6 : rtab .any (opsOf Try.f4 6) = laws_FnPublish.T6 := by kernel_rfl
theorem laws_FnPublish.bits6 : waitsOk laws_FnPublish.T6.2 laws_FnPublish.B6 = true := by kernel_rfl
def laws_FnPublish.T8 : Bool × List (List Nat × List Nat) := (true, [([], []), ([0], [0]), ([1], [1]), ([2], [2]), ([3], [3]), ([4, 3], [3, 4]), ([3], [3]), ([6, 3, 3], [3, 6]), ([5, 7, 3], [3, 5, 7]), ([8, 7, 3], [3, 8]), ([9], [9]), ([10, 9], [9, 10]), ([11, 9], [9, 11]), ([9], [9]), ([9], [9]), ([14, 9], [9, 14]), ([13, 15, 9, 9], [9, 13, 15]), ([9], [9]), ([17, 9], [9, 17]), ([16, 18, 16, 9], [9, 16, 18]), ([12, 19, 19, 9], [9, 12, 19]), ([9, 20, 3], [3, 9, 20]), ([21, 20, 3], [3, 21]), ([22], [22]), ([23, 22], [22, 23]), ([24, 22], [22, 24]), ([22], [22]), ([26, 22], [22, 26]), ([25, 27, 22, 22], [22, 25, 27]), ([22, 28, 3], [3, 22, 28]), ([29, 28, 3], [3, 29]), ([30], [30]), ([31, 30], [30, 31]), ([32, 30], [30, 32]), ([30], [30]), ([34, 30], [30, 34]), ([33, 35, 30], [30, 33, 35]), ([30, 36, 3], [3, 30, 36]), ([3, 37], [3, 37]), ([38, 30, 0, 1, 2, 3, 4, 5, 6, 7, 8, 9, 10, 11, 12, 13, 14, 15, 16, 17, 18, 19, 20, 21, 22, 23, 24, 25, 26, 27, 28, 29, 30, 31, 32, 33, 34, 35, 36, 37, 38], [38])])
def laws_FnPublish.B8 : List Nat := [0, 1, 3, 7, 15, 31, 15, 79, 255, 511, 1023, 2047, 4095, 1023, 1023, 17407, 58367, 1023, 132095, 517119, 1048575, 2097151, 4194303, 8388607, 16777215, 33554431, 8388607, 75497471, 268435455, 536870911, 1073741823, 2147483647, 4294967295, 8589934591, 2147483647, 19327352831, 68719476735, 137438953471, 274877906943, 549755813887]
theorem laws_FnPublish.tab8 : rtab .any (opsOf Try.f4 8) = laws_FnPublish.T8 := by kernel_rfl
theorem laws_FnPublish.bits8 : waitsOk laws_FnPublish.T8.2 laws_FnPublish.B8 = true := by kernel_rfl
set_option maxHeartbeats 60000000 in
set_option maxRecDepth 100000 in
theorem laws_FnPublish.calls (k : Nat) (A0 : Option Addr) (c0 : Nat) (l0 : List Int) (A1 : Option Addr) (c1 : Nat) (l1 : List Int) (r : Bool) (w : World) (hr0 : Kd.C (Kd.int .u8) w A0 l0.length l0) (hc0 : l0.length ≤ c0) (hr1 : Kd.C (Kd.int .u8) w A1 l1.length l1) (hc1 : l1.length ≤ c1) (h : laws_FnPublish.f k l0 l1 = some r) :
    Calls Try.prog 4 #[.slice A0 l0.length c0, .slice A1 l1.length c1] w fun e w' => e = .returned (.bool r) ∧ Below w.heap.size w w' := by
 have hu26 := Try.underlying26
 have hu30 := Try.underlying30
 have HR0 := AM hr0
 have HC0 := AM hc0
 clear hr0 hc0
 have HR1 := AM hr1
 have HC1 := AM hc1
 clear hr1 hc1
 have HB := AM (Below.refl w.heap.size w)
 have H : (if (l0.length : Int) > 1048576 then (laws_FnPublish.j0 k l0 l1 true) else (laws_FnPublish.j0 k l0 l1 (decide ((l1.length : Int) > 1048576)))) = some r := h
 clear h
 have HC3 := AM H
 clear H
 go_enter Try.func4, Try.ntmps4
 go_upto_region 1 with (fail)
 go_cut [16] (fun v16 wc => ∃ (kq : Nat) (x16_2 : Bool), v16 = .bool x16_2 ∧ Aside0 (laws_FnPublish.j0 kq l0 l1 x16_2 = some r) ∧ Aside0 (kq ≤ k) ∧ Aside0 (Below w.heap.size w wc))
 case first =>
  have H := HC3.out
  clear HC3
  by_cases c4 : (l0.length : Int) > 1048576
  ·
   rw [if_pos c4] at H
   have c4b0 : decide (1048576 < (l0.length : Int)) = true := decide_eq_true c4
   have c4b1 : decide (1048576 < l0.length) = true := decide_eq_true (by omega)
   clear c4
   (first | rw [c4b0] | (simp only [i64_w, i32_w]; rw [c4b0]) | skip)
   have H' := AM H
   clear H
   go_wp2
   go_meet
   case rel => exact ⟨_, (true), (by first | rfl | (simp; done) | (simp [*]; done)), H', ⟨by first | omega | exact Nat.le_refl _⟩, ⟨bX HB.out⟩⟩
  rw [if_neg c4] at H
  have c4b0 : decide (1048576 < (l0.length : Int)) = false := decide_eq_false c4
  have c4b1 : decide (1048576 < l0.length) = false := decide_eq_false (by omega)
  clear c4
  (first | rw [c4b0] | (simp only [i64_w, i32_w]; rw [c4b0]) | skip)
  have H' := AM H
  clear H
  go_wp2
  go_meet
  case rel => exact ⟨_, (decide ((l1.length : Int) > 1048576)), (by first | rfl | (simp; done) | (simp [*]; done)), H', ⟨by first | omega | exact Nat.le_refl _⟩, ⟨bX HB.out⟩⟩
 case rest =>
  clear HC3
  (try clear c1); (try clear p2); (try clear c4); (try clear c4b0); (try clear c4b1)
  obtain ⟨kq, x16_2, rfl, HA, HJ2, HB⟩ := hcut
  cases kq with
  | zero => exact absurd HA.out (by simp [laws_FnPublish.j0])
  | succ kj2 =>
   have H := HA.out
   clear HA
   simp only [laws_FnPublish.j0] at H
   by_cases c5 : x16_2 = true
   ·
    subst c5
    have H1 : (some true) = some r := by rw [if_pos rfl] at H; exact H
    clear H
    have H := H1
    clear H1
    obtain rfl := Option.some.inj H
    go_wp2
    go_ret
    exact ⟨by first | rfl | (simp [*, errW_none, errW_some] <;> rfl), bX HB.out⟩
   replace c5 := Bool.eq_false_iff.mpr c5
   subst c5
   have H1 : ((spec_DrawTopicPublish.f kj2 l0).bind fun bt101 => ((impl_TopicPublish.f kj2 bt101.1 bt101.2.1 bt101.2.2.1 bt101.2.2.2.1 bt101.2.2.2.2).bind fun bt111 => ((spec_DrawTopicEnd.f kj2 l1).bind fun bt125 => ((spec_TopicPublish.f kj2 bt101.1 bt101.2.1 bt101.2.2.1 bt101.2.2.2.1 bt101.2.2.2.2).bind fun bt134 => ((laws_lwTopics.f kj2 bt111.1 bt111.2.1 bt111.2.2.1 bt111.2.2.2.1 bt111.2.2.2.2.1 bt111.2.2.2.2.2.1 bt111.2.2.2.2.2.2 bt134.1 bt134.2.1 bt134.2.2.1 bt134.2.2.2.1 bt134.2.2.2.2.1 bt134.2.2.2.2.2.1 bt134.2.2.2.2.2.2).bind fun t147 => (if t147 = true then ((impl_TopicEnd.f kj2 bt125.1 bt125.2.1 bt125.2.2.1 bt125.2.2.2).bind fun t148 => ((spec_TopicEnd.f kj2 bt125.1 bt125.2.1 bt125.2.2.1 bt125.2.2.2).bind fun t149 => (if t148 = t149 then ((impl_TopicRight.f kj2 bt125.1 bt125.2.1 bt125.2.2.1 bt125.2.2.2).bind fun t150 => ((spec_TopicRight.f kj2 bt125.1 bt125.2.1 bt125.2.2.1 bt125.2.2.2).bind fun t151 => (laws_FnPublish.j1 kj2 bt101.2.2.2.2 (t150 != t151) bt101.1 bt101.2.1 bt101.2.2.1 bt101.2.2.2.1 bt111.1 bt111.2.1 bt111.2.2.1 bt111.2.2.2.1 bt111.2.2.2.2.1 bt111.2.2.2.2.2.1 bt111.2.2.2.2.2.2))) else (laws_FnPublish.j1 kj2 bt101.2.2.2.2 true bt101.1 bt101.2.1 bt101.2.2.1 bt101.2.2.2.1 bt111.1 bt111.2.1 bt111.2.2.1 bt111.2.2.2.1 bt111.2.2.2.2.1 bt111.2.2.2.2.2.1 bt111.2.2.2.2.2.2)))) else (laws_FnPublish.j1 kj2 bt101.2.2.2.2 true bt101.1 bt101.2.1 bt101.2.2.1 bt101.2.2.2.1 bt111.1 bt111.2.1 bt111.2.2.1 bt111.2.2.2.1 bt111.2.2.2.2.1 bt111.2.2.2.2.2.1 bt111.2.2.2.2.2.2))))))) = some r := by rw [if_neg (show ¬ (false = true) by decide)] at H; exact H
   clear H
   have H := H1
   clear H1
   replace H := Option.bind_eq_some_iff.mp H
   obtain ⟨⟨t101, t102, t103, t106, t109⟩, A60, H⟩ := H
   try dsimp only at H
   have A6 := AM A60
   clear A60
   replace H := Option.bind_eq_some_iff.mp H
   obtain ⟨⟨t111, t112, t113, t116, t119, t122, t123⟩, A70, H⟩ := H
   try dsimp only at H
   have A7 := AM A70
   clear A70
   replace H := Option.bind_eq_some_iff.mp H
   obtain ⟨⟨t125, t126, t127, t130⟩, A80, H⟩ := H
   try dsimp only at H
   have A8 := AM A80
   clear A80
   have HC9 := AM H
   clear H
   go_upto_region 6 with (first | ((with_reducible refine gate_callee (f := 11) rfl ?_); refine goesL_ (some 19) rfl rfl Try.func11 (by kernel_rfl) rfl #[.slice A0 l0.length c0] rfl (by (try simp only [mA, mB, mC]); first | done | rfl | (simp only [mD, mE]; rfl)) ?_; (with_reducible refine (spec_DrawTopicPublish.calls kj2 _ _ l0 t101 t102 t103 t106 t109 _ ?side1 ?side2 A6.out).mono ?_); (case side1 => repeat (first | exact (cB HR0.out HB.out) | (with_reducible first | apply cA | apply cN | apply cD))); (case side2 => exact HC0.out); rintro e w10 ⟨v104, v107, rfl, ho0, ho1, hb⟩; refine ⟨_, rfl, ?_⟩; have _ := AM (Kd.Q_lower ho0 (bZ (bX HB.out))); have _ := AM (Kd.R_lower ho1 (bZ (bX HB.out))); have _ := AM (below_step (bX HB.out) hb); clear HB; rename_i HO105 HO108 HB; (try clear hb); (try clear hk); (try clear ho0); (try clear ho1)) | ((with_reducible refine gate_dst (N := 5) rfl ?_); (try (refine gate_guard (by rfl) ?_; dsimp only)); refine box_event (by rfl) (N := 5) (by rfl) (cs := #[.string (⟨#[]⟩ : ByteArray), .int .i64 0, .slice none 0 0, .slice none 0 0]) (t := 26) (by first | (go_simp; done) | (go_simp; rfl)) ?_; intro gb110 hg w11 hbox hb; have _ := AM (Kd.Q_below (qX HO105.out) hb); have _ := AM (Kd.R_below (rX HO108.out) hb); have _ := AM (below_step (bX HB.out) hb); have _ := AM (hbox); have n4_ := AM ((by rw [hg]; exact (bZ (bX HB.out)) : w.heap.size ≤ gb110)); clear HO105 HO108 HB; rename_i HO105 HO108 HB BK110; have GW110 := n4_; have GE110 := n4_; clear n4_; clear hb hbox hg; have hcz12 := q4 BK110.out; have hfz12 := fZ BK110.out; obtain ⟨Ao13, co13, eo13, _⟩ := Kd.Q_slice HO105.out; subst eo13; obtain ⟨Ao14, co14, eo14⟩ := Kd.R_slice HO108.out; subst eo14) | ((with_reducible refine gate_callee (f := 12) rfl ?_); refine goesL_ (some 24) rfl rfl Try.func12 (by kernel_rfl) rfl #[.agg #[.string t101, .int .i64 t102, .slice Ao13 t103.length co13, .slice Ao14 t106.length co14], .string t109] rfl (by (try simp only [mA, mB, mC]); first | done | rfl | (simp only [mD, mE]; rfl)) ?_; (with_reducible refine (impl_TopicPublish.calls kj2 t101 t102 _ _ t103 _ _ t106 t109 t111 t112 t113 t116 t119 t122 t123 _ ?side1 ?side2 ?side3 ?side4 A7.out).mono ?_); (case side1 => refine (Kd.Q_reads' (e := 9) (base := w.heap.size) (ok := fun k_ => True) (n := t103.length) (c := co13) ?_).2.2; exact (by (with_reducible repeat (first | apply Kd.Q_alloc | apply Kd.Q_drewN | apply Kd.Q_drew)); exact (Qf4 HO105.out BK110.out (by decide) (fun _ h_ => h_.1)))); (case side2 => exact (Kd.Q_reads' HO105.out).2.1); (case side3 => refine (Kd.R_reads' (e := 36) (base := w.heap.size) (ok := fun k_ => True) (n := t106.length) (c := co14) ?_).2.2; exact (by (with_reducible repeat (first | apply rA | apply rN | apply rD)); exact (Rf4 HO108.out BK110.out (by decide) (fun _ h_ => h_.1)))); (case side4 => exact (Kd.R_reads' HO108.out).2.1); rintro e w15 ⟨v114, v117, v120, rfl, ho0, ho1, ho2, hb⟩; refine ⟨_, rfl, ?_⟩; have _ := AM (Kd.Q_mono (Kd.Q_told (Kd.Q_told (Kd.Q_old (by (with_reducible repeat (first | apply Kd.Q_alloc | apply Kd.Q_drewN | apply Kd.Q_drew)); exact (Qf4 HO105.out BK110.out (by decide) (fun _ h_ => h_.1))) hb) (Kd.R_base ho0)) (Kd.R_base ho2)) (fun _ h_ => h_.1)); have _ := AM (Kd.R_elder' (by (with_reducible repeat (first | apply rA | apply rN | apply rD)); exact (Rf4 HO108.out BK110.out (by decide) (fun _ h_ => h_.1))) (Kd.R_base ho1) hb); have _ := AM (Kd.R_lower (Kd.R_new' ho0 (Kd.Q_lt (by (with_reducible repeat (first | apply Kd.Q_alloc | apply Kd.Q_drewN | apply Kd.Q_drew)); exact (Qf4 HO105.out BK110.out (by decide) (fun _ h_ => h_.1))))) (bZ (bX HB.out))); have _ := AM (Kd.R_lower (Kd.R_new' ho1 (Kd.R_lt (by (with_reducible repeat (first | apply rA | apply rN | apply rD)); exact (Rf4 HO108.out BK110.out (by decide) (fun _ h_ => h_.1))))) (bZ (bX HB.out))); have _ := AM (Kd.R_lower (Kd.R_new' ho2 (Kd.Q_lt (by (with_reducible repeat (first | apply Kd.Q_alloc | apply Kd.Q_drewN | apply Kd.Q_drew)); exact (Qf4 HO105.out BK110.out (by decide) (fun _ h_ => h_.1))))) (bZ (bX HB.out))); have _ := AM (blk_below (g := gb110) (o := .cells #[.string t101, .int .i64 t102, .slice Ao13 t103.length co13, .slice Ao14 t106.length co14] 26 (0, 0)) (by refine kP (cs := #[.string t101, .int .i64 t102, .slice Ao13 t103.length co13, .slice none 0 0]) 3 ?_; refine kP (cs := #[.string t101, .int .i64 t102, .slice none 0 0, .slice none 0 0]) 2 ?_; refine kP (cs := #[.string t101, .int .i64 0, .slice none 0 0, .slice none 0 0]) 1 ?_; refine kP (cs := #[.string (⟨#[]⟩ : ByteArray), .int .i64 0, .slice none 0 0, .slice none 0 0]) 0 ?_; (with_reducible repeat (first | apply kN | apply kD | apply kA)); exact BK110.out) hb); have _ := AM (below_step (bX HB.out) hb); clear HO105 HO108 BK110 HB; rename_i HO105 HO108 HO115 HO118 HO121 BK110 HB; (try clear hb); (try clear hk); (try clear ho0); (try clear ho1); (try clear ho2)) | ((with_reducible refine gate_dst (N := 7) rfl ?_); (try (refine gate_guard (by rfl) ?_; dsimp only)); refine box_event (by rfl) (N := 7) (by rfl) (cs := #[.string (⟨#[]⟩ : ByteArray), .int .i64 0, .slice none 0 0, .slice none 0 0, .slice none 0 0, .int .i64 0, .int .i64 0]) (t := 30) (by first | (go_simp; done) | (go_simp; rfl)) ?_; intro gb124 hg w16 hbox hb; have _ := AM (Kd.Q_below (qX HO105.out) hb); have _ := AM (Kd.R_below (rX HO108.out) hb); have _ := AM (Kd.R_below (rX HO115.out) hb); have _ := AM (Kd.R_below (rX HO118.out) hb); have _ := AM (Kd.R_below (rX HO121.out) hb); have _ := AM (nB BK110.out hb); have _ := AM (below_step (bX HB.out) hb); have _ := AM (hbox); have n8_ := AM ((by rw [hg]; exact (bZ (bX HB.out)) : w.heap.size ≤ gb124)); have _ := AM (lX hg BK110.out); have _ := AM (lX hg BK110.out).symm; clear HO105 HO108 HO115 HO118 HO121 BK110 HB; rename_i HO105 HO108 HO115 HO118 HO121 BK110 HB BK124 NB110_124 NB124_110; have GW124 := n8_; have GE124 := n8_; clear n8_; clear hb hbox hg; have hnb17 := NB124_110.out; have hnc17 := NB110_124.out; have hcz18 := q7 BK124.out; have hfz18 := fZ BK124.out; obtain ⟨Ao19, co19, eo19⟩ := Kd.R_slice HO115.out; subst eo19; obtain ⟨Ao20, co20, eo20⟩ := Kd.R_slice HO118.out; subst eo20; obtain ⟨Ao21, co21, eo21⟩ := Kd.R_slice HO121.out; subst eo21) | ((with_reducible refine gate_callee (f := 13) rfl ?_); refine goesL_ (some 26) rfl rfl Try.func13 (by kernel_rfl) rfl #[.slice A1 l1.length c1] rfl (by (try simp only [mA, mB, mC]); first | done | rfl | (simp only [mD, mE]; rfl)) ?_; (with_reducible refine (spec_DrawTopicEnd.calls kj2 _ _ l1 t125 t126 t127 t130 _ ?side1 ?side2 A8.out).mono ?_); (case side1 => exact cB HR1.out (bX HB.out)); (case side2 => exact HC1.out); rintro e w22 ⟨v128, v131, rfl, ho0, ho1, hb⟩; refine ⟨_, rfl, ?_⟩; have _ := AM (Kd.Q_elder' (by (with_reducible repeat (first | apply Kd.Q_alloc | apply Kd.Q_drewN | apply Kd.Q_drew)); exact (Qf7 HO105.out BK124.out (by decide) (fun _ h_ => h_.1))) (Kd.Q_base ho0) hb); have _ := AM (Kd.R_elder' (by (with_reducible repeat (first | apply rA | apply rN | apply rD)); exact (Rf7 HO108.out BK124.out (by decide) (fun _ h_ => h_.1))) (Kd.R_base ho1) hb); have _ := AM (Kd.R_elder' (by (with_reducible repeat (first | apply rA | apply rN | apply rD)); exact (Rf7 HO115.out BK124.out (by decide) (fun _ h_ => h_.1))) (Kd.Q_base ho0) hb); have _ := AM (Kd.R_elder' (by (with_reducible repeat (first | apply rA | apply rN | apply rD)); exact (Rf7 HO118.out BK124.out (by decide) (fun _ h_ => h_.1))) (Kd.R_base ho1) hb); have _ := AM (Kd.R_elder' (by (with_reducible repeat (first | apply rA | apply rN | apply rD)); exact (Rf7 HO121.out BK124.out (by decide) (fun _ h_ => h_.1))) (Kd.Q_base ho0) hb); have _ := AM (Kd.Q_lower (Kd.Q_new' (Kd.Q_new' (Kd.Q_new' ho0 (Kd.Q_lt (by (with_reducible repeat (first | apply Kd.Q_alloc | apply Kd.Q_drewN | apply Kd.Q_drew)); exact (Qf7 HO105.out BK124.out (by decide) (fun _ h_ => h_.1))))) (Kd.R_lt (by (with_reducible repeat (first | apply rA | apply rN | apply rD)); exact (Rf7 HO115.out BK124.out (by decide) (fun _ h_ => h_.1))))) (Kd.R_lt (by (with_reducible repeat (first | apply rA | apply rN | apply rD)); exact (Rf7 HO121.out BK124.out (by decide) (fun _ h_ => h_.1))))) (bZ (bX HB.out))); have _ := AM (Kd.R_lower (Kd.R_new' (Kd.R_new' ho1 (Kd.R_lt (by (with_reducible repeat (first | apply rA | apply rN | apply rD)); exact (Rf7 HO108.out BK124.out (by decide) (fun _ h_ => h_.1))))) (Kd.R_lt (by (with_reducible repeat (first | apply rA | apply rN | apply rD)); exact (Rf7 HO118.out BK124.out (by decide) (fun _ h_ => h_.1))))) (bZ (bX HB.out))); have _ := AM (blk_below (g := gb110) (o := .cells #[.string t101, .int .i64 t102, .slice Ao13 t103.length co13, .slice Ao14 t106.length co14] 26 (0, 0)) (by (iterate 7 refine kF NB110_124.out ?_); (with_reducible repeat (first | apply kN | apply kD | apply kA)); exact BK110.out) hb); have _ := AM (blk_below (g := gb124) (o := .cells #[.string t111, .int .i64 t112, .slice Ao19 t113.length co19, .slice Ao20 t116.length co20, .slice Ao21 t119.length co21, .int .i64 t122, .int .i64 t123] 30 (0, 0)) (by refine kP (cs := #[.string t111, .int .i64 t112, .slice Ao19 t113.length co19, .slice Ao20 t116.length co20, .slice Ao21 t119.length co21, .int .i64 t122, .int .i64 0]) 6 ?_; refine kP (cs := #[.string t111, .int .i64 t112, .slice Ao19 t113.length co19, .slice Ao20 t116.length co20, .slice Ao21 t119.length co21, .int .i64 0, .int .i64 0]) 5 ?_; refine kP (cs := #[.string t111, .int .i64 t112, .slice Ao19 t113.length co19, .slice Ao20 t116.length co20, .slice none 0 0, .int .i64 0, .int .i64 0]) 4 ?_; refine kP (cs := #[.string t111, .int .i64 t112, .slice Ao19 t113.length co19, .slice none 0 0, .slice none 0 0, .int .i64 0, .int .i64 0]) 3 ?_; refine kP (cs := #[.string t111, .int .i64 t112, .slice none 0 0, .slice none 0 0, .slice none 0 0, .int .i64 0, .int .i64 0]) 2 ?_; refine kP (cs := #[.string t111, .int .i64 0, .slice none 0 0, .slice none 0 0, .slice none 0 0, .int .i64 0, .int .i64 0]) 1 ?_; refine kP (cs := #[.string (⟨#[]⟩ : ByteArray), .int .i64 0, .slice none 0 0, .slice none 0 0, .slice none 0 0, .int .i64 0, .int .i64 0]) 0 ?_; (with_reducible repeat (first | apply kN | apply kD | apply kA)); exact BK124.out) hb); have _ := AM (below_step (bX HB.out) hb); clear HO105 HO108 HO115 HO118 HO121 BK110 BK124 HB; rename_i HO105 HO108 HO115 HO118 HO121 HO129 HO132 BK110 BK124 HB; (try clear hb); (try clear hk); (try clear ho0); (try clear ho1)) | ((with_reducible refine gate_dst (N := 8) rfl ?_); (try (refine gate_guard (by rfl) ?_; dsimp only)); refine box_event (by rfl) (N := 8) (by rfl) (cs := #[.string (⟨#[]⟩ : ByteArray), .int .i64 0, .slice none 0 0, .slice none 0 0]) (t := 26) (by first | (go_simp; done) | (go_simp; rfl)) ?_; intro gb133 hg w23 hbox hb; have _ := AM (Kd.Q_below (qX HO105.out) hb); have _ := AM (Kd.R_below (rX HO108.out) hb); have _ := AM (Kd.R_below (rX HO115.out) hb); have _ := AM (Kd.R_below (rX HO118.out) hb); have _ := AM (Kd.R_below (rX HO121.out) hb); have _ := AM (Kd.Q_below (qX HO129.out) hb); have _ := AM (Kd.R_below (rX HO132.out) hb); have _ := AM (nB BK110.out hb); have _ := AM (nB BK124.out hb); have _ := AM (below_step (bX HB.out) hb); have _ := AM (hbox); have n11_ := AM ((by rw [hg]; exact (bZ (bX HB.out)) : w.heap.size ≤ gb133)); have _ := AM (lX hg BK110.out); have _ := AM (lX hg BK110.out).symm; have _ := AM (lX hg BK124.out); have _ := AM (lX hg BK124.out).symm; clear HO105 HO108 HO115 HO118 HO121 HO129 HO132 BK110 BK124 HB; rename_i HO105 HO108 HO115 HO118 HO121 HO129 HO132 BK110 BK124 HB BK133 NB110_133 NB133_110 NB124_133 NB133_124; have GW133 := n11_; have GE133 := n11_; clear n11_; clear hb hbox hg; have hnb24 := NB133_110.out; have hnc24 := NB110_133.out; have hnb25 := NB133_124.out; have hnc25 := NB124_133.out; have hcz26 := q4 BK133.out; have hfz26 := fZ BK133.out; obtain ⟨Ao27, co27, eo27, _⟩ := Kd.Q_slice HO129.out; subst eo27; obtain ⟨Ao28, co28, eo28⟩ := Kd.R_slice HO132.out; subst eo28))
   (try simp only [Act.put, List.setIfInBounds_toArray, List.set_cons_zero, List.set_cons_succ])
   go_cut [46] (fun v46 wc => ∃ (kq : Nat) (x46_8 : Bool), v46 = .bool x46_8 ∧ Aside0 (laws_FnPublish.j1 kq t109 x46_8 t101 t102 t103 t106 t111 t112 t113 t116 t119 t122 t123 = some r) ∧ Aside0 (kq ≤ kj2) ∧ Aside0 (Kd.Q Kd.string 9 wc w.heap.size (fun k_ => some k_ ≠ ((.slice Ao19 t113.length co19) : Value).ownBlock ∧ some k_ ≠ ((.slice Ao21 t119.length co21) : Value).ownBlock ∧ some k_ ≠ ((.slice Ao27 t127.length co27) : Value).ownBlock) (.slice Ao13 t103.length co13) t103) ∧ Aside0 (Kd.R k36 36 wc w.heap.size (fun k_ => some k_ ≠ ((.slice Ao20 t116.length co20) : Value).ownBlock ∧ some k_ ≠ ((.slice Ao28 t130.length co28) : Value).ownBlock) (.slice Ao14 t106.length co14) t106) ∧ Aside0 (Kd.R Kd.string 9 wc w.heap.size (fun k_ => some k_ ≠ ((.slice Ao13 t103.length co13) : Value).ownBlock ∧ some k_ ≠ ((.slice Ao21 t119.length co21) : Value).ownBlock ∧ some k_ ≠ ((.slice Ao27 t127.length co27) : Value).ownBlock) (.slice Ao19 t113.length co19) t113) ∧ Aside0 (Kd.R k36 36 wc w.heap.size (fun k_ => some k_ ≠ ((.slice Ao14 t106.length co14) : Value).ownBlock ∧ some k_ ≠ ((.slice Ao28 t130.length co28) : Value).ownBlock) (.slice Ao20 t116.length co20) t116) ∧ Aside0 (Kd.R Kd.string 9 wc w.heap.size (fun k_ => some k_ ≠ ((.slice Ao13 t103.length co13) : Value).ownBlock ∧ some k_ ≠ ((.slice Ao19 t113.length co19) : Value).ownBlock ∧ some k_ ≠ ((.slice Ao27 t127.length co27) : Value).ownBlock) (.slice Ao21 t119.length co21) t119) ∧ Aside0 (Kd.Q Kd.string 9 wc w.heap.size (fun k_ => some k_ ≠ ((.slice Ao13 t103.length co13) : Value).ownBlock ∧ some k_ ≠ ((.slice Ao19 t113.length co19) : Value).ownBlock ∧ some k_ ≠ ((.slice Ao21 t119.length co21) : Value).ownBlock) (.slice Ao27 t127.length co27) t127) ∧ Aside0 (Kd.R k36 36 wc w.heap.size (fun k_ => some k_ ≠ ((.slice Ao14 t106.length co14) : Value).ownBlock ∧ some k_ ≠ ((.slice Ao20 t116.length co20) : Value).ownBlock) (.slice Ao28 t130.length co28) t130) ∧ Aside0 (wc.heap[gb110]? = some (.cells #[.string t101, .int .i64 t102, (.slice Ao13 t103.length co13), (.slice Ao14 t106.length co14)] 26 (0, 0))) ∧ Aside0 (wc.heap[gb124]? = some (.cells #[.string t111, .int .i64 t112, (.slice Ao19 t113.length co19), (.slice Ao20 t116.length co20), (.slice Ao21 t119.length co21), .int .i64 t122, .int .i64 t123] 30 (0, 0))) ∧ Aside0 (wc.heap[gb133]? = some (.cells #[.string t125, .int .i64 t126, (.slice Ao27 t127.length co27), (.slice Ao28 t130.length co28)] 26 (0, 0))) ∧ Aside0 (Below w.heap.size w wc))
   case first =>
    have H := HC9.out
    clear HC9
    replace H := Option.bind_eq_some_iff.mp H
    obtain ⟨⟨t134, t135, t136, t139, t142, t145, t146⟩, A290, H⟩ := H
    try dsimp only at H
    have A29 := AM A290
    clear A290
    replace H := Option.bind_eq_some_iff.mp H
    obtain ⟨t147, A300, H⟩ := H
    replace H : (if t147 = true then ((impl_TopicEnd.f kj2 t125 t126 t127 t130).bind fun t148 => ((spec_TopicEnd.f kj2 t125 t126 t127 t130).bind fun t149 => (if t148 = t149 then ((impl_TopicRight.f kj2 t125 t126 t127 t130).bind fun t150 => ((spec_TopicRight.f kj2 t125 t126 t127 t130).bind fun t151 => (laws_FnPublish.j1 kj2 t109 (t150 != t151) t101 t102 t103 t106 t111 t112 t113 t116 t119 t122 t123))) else (laws_FnPublish.j1 kj2 t109 true t101 t102 t103 t106 t111 t112 t113 t116 t119 t122 t123)))) else (laws_FnPublish.j1 kj2 t109 true t101 t102 t103 t106 t111 t112 t113 t116 t119 t122 t123)) = some r := H
    have A30 := AM A300
    clear A300
    by_cases c31 : t147 = true
    ·
     subst c31
     have H1 : ((impl_TopicEnd.f kj2 t125 t126 t127 t130).bind fun t148 => ((spec_TopicEnd.f kj2 t125 t126 t127 t130).bind fun t149 => (if t148 = t149 then ((impl_TopicRight.f kj2 t125 t126 t127 t130).bind fun t150 => ((spec_TopicRight.f kj2 t125 t126 t127 t130).bind fun t151 => (laws_FnPublish.j1 kj2 t109 (t150 != t151) t101 t102 t103 t106 t111 t112 t113 t116 t119 t122 t123))) else (laws_FnPublish.j1 kj2 t109 true t101 t102 t103 t106 t111 t112 t113 t116 t119 t122 t123)))) = some r := by rw [if_pos rfl] at H; exact H
     clear H
     have H := H1
     clear H1
     replace H := Option.bind_eq_some_iff.mp H
     obtain ⟨t148, A320, H⟩ := H
     replace H : ((spec_TopicEnd.f kj2 t125 t126 t127 t130).bind fun t149 => (if t148 = t149 then ((impl_TopicRight.f kj2 t125 t126 t127 t130).bind fun t150 => ((spec_TopicRight.f kj2 t125 t126 t127 t130).bind fun t151 => (laws_FnPublish.j1 kj2 t109 (t150 != t151) t101 t102 t103 t106 t111 t112 t113 t116 t119 t122 t123))) else (laws_FnPublish.j1 kj2 t109 true t101 t102 t103 t106 t111 t112 t113 t116 t119 t122 t123))) = some r := H
     have A32 := AM A320
     clear A320
     replace H := Option.bind_eq_some_iff.mp H
     obtain ⟨t149, A330, H⟩ := H
     replace H : (if t148 = t149 then ((impl_TopicRight.f kj2 t125 t126 t127 t130).bind fun t150 => ((spec_TopicRight.f kj2 t125 t126 t127 t130).bind fun t151 => (laws_FnPublish.j1 kj2 t109 (t150 != t151) t101 t102 t103 t106 t111 t112 t113 t116 t119 t122 t123))) else (laws_FnPublish.j1 kj2 t109 true t101 t102 t103 t106 t111 t112 t113 t116 t119 t122 t123)) = some r := H
     have A33 := AM A330
     clear A330
     by_cases c34 : t148 = t149
     ·
      rw [if_pos c34] at H
      have c34b0 : (t148 == t149) = true := beq_iff_eq.mpr c34
      have c34b1 : (t148 != t149) = false := bne_eq_false_iff_eq.mpr c34
      clear c34
      (first | rw [c34b0] | (simp only [i64_w, i32_w]; rw [c34b0]) | skip)
      replace H := Option.bind_eq_some_iff.mp H
      obtain ⟨t150, A350, H⟩ := H
      replace H : ((spec_TopicRight.f kj2 t125 t126 t127 t130).bind fun t151 => (laws_FnPublish.j1 kj2 t109 (t150 != t151) t101 t102 t103 t106 t111 t112 t113 t116 t119 t122 t123)) = some r := H
      have A35 := AM A350
      clear A350
      replace H := Option.bind_eq_some_iff.mp H
      obtain ⟨t151, A360, H⟩ := H
      replace H : (laws_FnPublish.j1 kj2 t109 (t150 != t151) t101 t102 t103 t106 t111 t112 t113 t116 t119 t122 t123) = some r := H
      have A36 := AM A360
      clear A360
      have H' := AM H
      clear H
      try go_wp2
      have n0_ : Aside0 (Kd.Q Kd.string 9 ((((w23.setCell ⟨gb133, 0, none⟩ (.string t125)).setCell ⟨gb133, 1, none⟩ (.int .i64 t126)).setCell ⟨gb133, 2, none⟩ (.slice Ao27 t127.length co27)).setCell ⟨gb133, 3, none⟩ (.slice Ao28 t130.length co28)) w.heap.size (fun k_ => some k_ ≠ (.slice Ao19 t113.length co19 : Value).ownBlock ∧ some k_ ≠ (.slice Ao21 t119.length co21 : Value).ownBlock ∧ some k_ ≠ (.slice Ao27 t127.length co27 : Value).ownBlock) (.slice Ao13 t103.length co13) t103) := ⟨by (with_reducible repeat (first | apply Kd.Q_alloc | apply Kd.Q_drewN | apply Kd.Q_drew)); exact Qf4 HO105.out BK133.out (by decide) (fun _ hk => ⟨hk.1.1.1.2, ⟨hk.1.1.2, hk.1.2⟩⟩)⟩
      have n1_ : Aside0 (Kd.R k36 36 ((((w23.setCell ⟨gb133, 0, none⟩ (.string t125)).setCell ⟨gb133, 1, none⟩ (.int .i64 t126)).setCell ⟨gb133, 2, none⟩ (.slice Ao27 t127.length co27)).setCell ⟨gb133, 3, none⟩ (.slice Ao28 t130.length co28)) w.heap.size (fun k_ => some k_ ≠ (.slice Ao20 t116.length co20 : Value).ownBlock ∧ some k_ ≠ (.slice Ao28 t130.length co28 : Value).ownBlock) (.slice Ao14 t106.length co14) t106) := ⟨by (with_reducible repeat (first | apply rA | apply rN | apply rD)); exact Rf4 HO108.out BK133.out (by decide) (fun _ hk => ⟨hk.1.1.2, hk.1.2⟩)⟩
      have n2_ : Aside0 (Kd.R Kd.string 9 ((((w23.setCell ⟨gb133, 0, none⟩ (.string t125)).setCell ⟨gb133, 1, none⟩ (.int .i64 t126)).setCell ⟨gb133, 2, none⟩ (.slice Ao27 t127.length co27)).setCell ⟨gb133, 3, none⟩ (.slice Ao28 t130.length co28)) w.heap.size (fun k_ => some k_ ≠ (.slice Ao13 t103.length co13 : Value).ownBlock ∧ some k_ ≠ (.slice Ao21 t119.length co21 : Value).ownBlock ∧ some k_ ≠ (.slice Ao27 t127.length co27 : Value).ownBlock) (.slice Ao19 t113.length co19) t113) := ⟨by (with_reducible repeat (first | apply rA | apply rN | apply rD)); exact Rf4 HO115.out BK133.out (by decide) (fun _ hk => ⟨hk.1.1.2, ⟨hk.1.1.1, hk.1.2⟩⟩)⟩
      have n3_ : Aside0 (Kd.R k36 36 ((((w23.setCell ⟨gb133, 0, none⟩ (.string t125)).setCell ⟨gb133, 1, none⟩ (.int .i64 t126)).setCell ⟨gb133, 2, none⟩ (.slice Ao27 t127.length co27)).setCell ⟨gb133, 3, none⟩ (.slice Ao28 t130.length co28)) w.heap.size (fun k_ => some k_ ≠ (.slice Ao14 t106.length co14 : Value).ownBlock ∧ some k_ ≠ (.slice Ao28 t130.length co28 : Value).ownBlock) (.slice Ao20 t116.length co20) t116) := ⟨by (with_reducible repeat (first | apply rA | apply rN | apply rD)); exact Rf4 HO118.out BK133.out (by decide) (fun _ hk => ⟨hk.1.1.2, hk.1.2⟩)⟩
      have n4_ : Aside0 (Kd.R Kd.string 9 ((((w23.setCell ⟨gb133, 0, none⟩ (.string t125)).setCell ⟨gb133, 1, none⟩ (.int .i64 t126)).setCell ⟨gb133, 2, none⟩ (.slice Ao27 t127.length co27)).setCell ⟨gb133, 3, none⟩ (.slice Ao28 t130.length co28)) w.heap.size (fun k_ => some k_ ≠ (.slice Ao13 t103.length co13 : Value).ownBlock ∧ some k_ ≠ (.slice Ao19 t113.length co19 : Value).ownBlock ∧ some k_ ≠ (.slice Ao27 t127.length co27 : Value).ownBlock) (.slice Ao21 t119.length co21) t119) := ⟨by (with_reducible repeat (first | apply rA | apply rN | apply rD)); exact Rf4 HO121.out BK133.out (by decide) (fun _ hk => ⟨hk.1.1.2, ⟨hk.1.1.1, hk.1.2⟩⟩)⟩
      have n5_ : Aside0 (Kd.Q Kd.string 9 ((((w23.setCell ⟨gb133, 0, none⟩ (.string t125)).setCell ⟨gb133, 1, none⟩ (.int .i64 t126)).setCell ⟨gb133, 2, none⟩ (.slice Ao27 t127.length co27)).setCell ⟨gb133, 3, none⟩ (.slice Ao28 t130.length co28)) w.heap.size (fun k_ => some k_ ≠ (.slice Ao13 t103.length co13 : Value).ownBlock ∧ some k_ ≠ (.slice Ao19 t113.length co19 : Value).ownBlock ∧ some k_ ≠ (.slice Ao21 t119.length co21 : Value).ownBlock) (.slice Ao27 t127.length co27) t127) := ⟨by (with_reducible repeat (first | apply Kd.Q_alloc | apply Kd.Q_drewN | apply Kd.Q_drew)); exact Qf4 HO129.out BK133.out (by decide) (fun _ hk => ⟨hk.1.1.1.2, ⟨hk.1.1.2, hk.1.2⟩⟩)⟩
      have n6_ : Aside0 (Kd.R k36 36 ((((w23.setCell ⟨gb133, 0, none⟩ (.string t125)).setCell ⟨gb133, 1, none⟩ (.int .i64 t126)).setCell ⟨gb133, 2, none⟩ (.slice Ao27 t127.length co27)).setCell ⟨gb133, 3, none⟩ (.slice Ao28 t130.length co28)) w.heap.size (fun k_ => some k_ ≠ (.slice Ao14 t106.length co14 : Value).ownBlock ∧ some k_ ≠ (.slice Ao20 t116.length co20 : Value).ownBlock) (.slice Ao28 t130.length co28) t130) := ⟨by (with_reducible repeat (first | apply rA | apply rN | apply rD)); exact Rf4 HO132.out BK133.out (by decide) (fun _ hk => ⟨hk.1.1.2, hk.1.2⟩)⟩
      have n7_ : Aside0 (((((w23.setCell ⟨gb133, 0, none⟩ (.string t125)).setCell ⟨gb133, 1, none⟩ (.int .i64 t126)).setCell ⟨gb133, 2, none⟩ (.slice Ao27 t127.length co27)).setCell ⟨gb133, 3, none⟩ (.slice Ao28 t130.length co28)).heap[gb110]? = some (.cells #[.string t101, .int .i64 t102, .slice Ao13 t103.length co13, .slice Ao14 t106.length co14] 26 (0, 0))) := ⟨by (iterate 4 refine kF NB110_133.out ?_); (with_reducible repeat (first | apply kN | apply kD | apply kA)); exact BK110.out⟩
      have n8_ : Aside0 (((((w23.setCell ⟨gb133, 0, none⟩ (.string t125)).setCell ⟨gb133, 1, none⟩ (.int .i64 t126)).setCell ⟨gb133, 2, none⟩ (.slice Ao27 t127.length co27)).setCell ⟨gb133, 3, none⟩ (.slice Ao28 t130.length co28)).heap[gb124]? = some (.cells #[.string t111, .int .i64 t112, .slice Ao19 t113.length co19, .slice Ao20 t116.length co20, .slice Ao21 t119.length co21, .int .i64 t122, .int .i64 t123] 30 (0, 0))) := ⟨by (iterate 4 refine kF NB124_133.out ?_); (with_reducible repeat (first | apply kN | apply kD | apply kA)); exact BK124.out⟩
      have n9_ : Aside0 (((((w23.setCell ⟨gb133, 0, none⟩ (.string t125)).setCell ⟨gb133, 1, none⟩ (.int .i64 t126)).setCell ⟨gb133, 2, none⟩ (.slice Ao27 t127.length co27)).setCell ⟨gb133, 3, none⟩ (.slice Ao28 t130.length co28)).heap[gb133]? = some (.cells #[.string t125, .int .i64 t126, .slice Ao27 t127.length co27, .slice Ao28 t130.length co28] 26 (0, 0))) := ⟨by refine kP (cs := #[.string t125, .int .i64 t126, .slice Ao27 t127.length co27, .slice none 0 0]) 3 ?_; refine kP (cs := #[.string t125, .int .i64 t126, .slice none 0 0, .slice none 0 0]) 2 ?_; refine kP (cs := #[.string t125, .int .i64 0, .slice none 0 0, .slice none 0 0]) 1 ?_; refine kP (cs := #[.string (⟨#[]⟩ : ByteArray), .int .i64 0, .slice none 0 0, .slice none 0 0]) 0 ?_; (with_reducible repeat (first | apply kN | apply kD | apply kA)); exact BK133.out⟩
      have n10_ : Aside0 (Below w.heap.size w ((((w23.setCell ⟨gb133, 0, none⟩ (.string t125)).setCell ⟨gb133, 1, none⟩ (.int .i64 t126)).setCell ⟨gb133, 2, none⟩ (.slice Ao27 t127.length co27)).setCell ⟨gb133, 3, none⟩ (.slice Ao28 t130.length co28))) := ⟨bX HB.out⟩
      (try clear HO105)
      (try clear HO108)
      (try clear HO115)
      (try clear HO118)
      (try clear HO121)
      (try clear HO129)
      (try clear HO132)
      (try clear BK110)
      (try clear BK124)
      (try clear BK133)
      (try clear HB)
      generalize ((((w23.setCell ⟨gb133, 0, none⟩ (.string t125)).setCell ⟨gb133, 1, none⟩ (.int .i64 t126)).setCell ⟨gb133, 2, none⟩ (.slice Ao27 t127.length co27)).setCell ⟨gb133, 3, none⟩ (.slice Ao28 t130.length co28)) = w37 at n0_ n1_ n2_ n3_ n4_ n5_ n6_ n7_ n8_ n9_ n10_ ⊢
      have HO105 := n0_
      have HO108 := n1_
      have HO115 := n2_
      have HO118 := n3_
      have HO121 := n4_
      have HO129 := n5_
      have HO132 := n6_
      have BK110 := n7_
      have BK124 := n8_
      have BK133 := n9_
      have HB := n10_
      clear n0_ n1_ n2_ n3_ n4_ n5_ n6_ n7_ n8_ n9_ n10_
      have _ := AM (Kd.Q_drew HO105.out)
      have _ := AM (rD HO108.out)
      have _ := AM (rD HO115.out)
      have _ := AM (rD HO118.out)
      have _ := AM (rD HO121.out)
      have _ := AM (Kd.Q_drew HO129.out)
      have _ := AM (rD HO132.out)
      have _ := AM (kD BK110.out)
      have _ := AM (kD BK124.out)
      have _ := AM (kD BK133.out)
      have _ := AM (bD HB.out)
      clear HO105 HO108 HO115 HO118 HO121 HO129 HO132 BK110 BK124 BK133 HB
      rename_i HO105 HO108 HO115 HO118 HO121 HO129 HO132 BK110 BK124 BK133 HB
      refine start_ (n := 20) (S := fun w' => w'.cell? ⟨gb124, 0, none⟩ = some (.string t111) ∧ w'.cell? ⟨gb124, 1, none⟩ = some (.int .i64 t112) ∧ w'.cell? ⟨gb124, 2, none⟩ = some (.slice Ao19 t113.length co19) ∧ w'.cell? ⟨gb124, 3, none⟩ = some (.slice Ao20 t116.length co20) ∧ w'.cell? ⟨gb124, 4, none⟩ = some (.slice Ao21 t119.length co21) ∧ w'.cell? ⟨gb124, 5, none⟩ = some (.int .i64 t122) ∧ w'.cell? ⟨gb124, 6, none⟩ = some (.int .i64 t123) ∧ w'.cell? ⟨gb110, 0, none⟩ = some (.string t101) ∧ w'.cell? ⟨gb110, 1, none⟩ = some (.int .i64 t102) ∧ w'.cell? ⟨gb110, 2, none⟩ = some (.slice Ao13 t103.length co13) ∧ w'.cell? ⟨gb110, 3, none⟩ = some (.slice Ao14 t106.length co14) ∧ w'.cell? ⟨gb133, 0, none⟩ = some (.string t125) ∧ w'.cell? ⟨gb133, 1, none⟩ = some (.int .i64 t126) ∧ w'.cell? ⟨gb133, 2, none⟩ = some (.slice Ao27 t127.length co27) ∧ w'.cell? ⟨gb133, 3, none⟩ = some (.slice Ao28 t130.length co28)) (ds := []) (upTo 0 20) (by kernel_rfl) rfl rfl ⟨(kC BK124.out 0).trans rfl, (kC BK124.out 1).trans rfl, (kC BK124.out 2).trans rfl, (kC BK124.out 3).trans rfl, (kC BK124.out 4).trans rfl, (kC BK124.out 5).trans rfl, (kC BK124.out 6).trans rfl, (kC BK110.out 0).trans rfl, (kC BK110.out 1).trans rfl, (kC BK110.out 2).trans rfl, (kC BK110.out 3).trans rfl, (kC BK133.out 0).trans rfl, (kC BK133.out 1).trans rfl, (kC BK133.out 2).trans rfl, (kC BK133.out 3).trans rfl⟩ (fun hHeld => ?_); refine with_tabW laws_FnPublish.tab6 laws_FnPublish.bits6 (fun HT_ HW_ => ?_)
      generalize w37.drew = w38 at HO105 HO108 HO115 HO118 HO121 HO129 HO132 BK110 BK124 BK133 HB hHeld ⊢
      refine pF2 2 29 laws_FnPublish.b0 ?_
      refine pT2 0 27 laws_FnPublish.b1 ?_ hHeld
      refine pT2 1 28 (upTo 3 20) ?_ hHeld
      refine one_ (i := 3) (N := some 30) (upTo 4 20) rfl rfl (one_of HT_.out (by kernel_rfl)) (by decide) (fun K hK => ?_)
      refine goes_ Try.func14 (by kernel_rfl) rfl #[.agg #[.string t101, .int .i64 t102, .slice Ao13 t103.length co13, .slice Ao14 t106.length co14], .string t109] (by rfl) rfl rfl (by (try simp only [mA, mB, mC]); first | done | rfl | (simp only [mD, mE]; rfl)) ?_
      with_reducible refine (spec_TopicPublish.calls kj2 t101 t102 _ _ t103 _ _ t106 t109 t134 t135 t136 t139 t142 t145 t146 _ ?side1 ?side2 ?side3 ?side4 A29.out).mono ?_
      (case side1 => repeat (first | exact (Kd.Q_reads' HO105.out).2.2 | (with_reducible first | apply cA | apply cN | apply cD)))
      (case side2 => exact (Kd.Q_reads' HO105.out).2.1)
      (case side3 => repeat (first | exact (Kd.R_reads' HO108.out).2.2 | (with_reducible first | apply cA | apply cN | apply cD)))
      (case side4 => exact (Kd.R_reads' HO108.out).2.1)
      rintro e w39 ⟨v137, v140, v143, rfl, ho0, ho1, ho2, hb⟩
      refine ⟨_, rfl, ?_⟩
      have _ := AM (Kd.Q_mono (Kd.Q_told (Kd.Q_told (Kd.Q_old (qX HO105.out) hb) (Kd.R_base ho0)) (Kd.R_base ho2)) (fun _ h_ => h_.1))
      have _ := AM (Kd.R_elder' (rX HO108.out) (Kd.R_base ho1) hb)
      have _ := AM (Kd.R_mono (Kd.R_told (Kd.R_told (Kd.R_old (rX HO115.out) hb) (Kd.R_base ho0)) (Kd.R_base ho2)) (fun _ h_ => h_.1))
      have _ := AM (Kd.R_elder' (rX HO118.out) (Kd.R_base ho1) hb)
      have _ := AM (Kd.R_mono (Kd.R_told (Kd.R_told (Kd.R_old (rX HO121.out) hb) (Kd.R_base ho0)) (Kd.R_base ho2)) (fun _ h_ => h_.1))
      have _ := AM (Kd.Q_mono (Kd.Q_told (Kd.Q_told (Kd.Q_old (qX HO129.out) hb) (Kd.R_base ho0)) (Kd.R_base ho2)) (fun _ h_ => h_.1))
      have _ := AM (Kd.R_elder' (rX HO132.out) (Kd.R_base ho1) hb)
      have _ := AM (Kd.R_lower (Kd.R_new' (Kd.R_new' (Kd.R_new' (Kd.R_new' ho0 (Kd.Q_lt (qX HO105.out))) (Kd.R_lt (rX HO115.out))) (Kd.R_lt (rX HO121.out))) (Kd.Q_lt (qX HO129.out))) (bZ (bX HB.out)))
      have _ := AM (Kd.R_lower (Kd.R_new' (Kd.R_new' (Kd.R_new' ho1 (Kd.R_lt (rX HO108.out))) (Kd.R_lt (rX HO118.out))) (Kd.R_lt (rX HO132.out))) (bZ (bX HB.out)))
      have _ := AM (Kd.R_lower (Kd.R_new' (Kd.R_new' (Kd.R_new' (Kd.R_new' ho2 (Kd.Q_lt (qX HO105.out))) (Kd.R_lt (rX HO115.out))) (Kd.R_lt (rX HO121.out))) (Kd.Q_lt (qX HO129.out))) (bZ (bX HB.out)))
      have _ := AM (nB BK110.out hb)
      have _ := AM (nB BK124.out hb)
      have _ := AM (nB BK133.out hb)
      have _ := AM (below_step (bX HB.out) hb)
      clear HO105 HO108 HO115 HO118 HO121 HO129 HO132 BK110 BK124 BK133 HB
      rename_i HO105 HO108 HO115 HO118 HO121 HO129 HO132 HO138 HO141 HO144 BK110 BK124 BK133 HB
      (try clear hb)
      (try clear hk)
      (try clear ho0)
      (try clear ho1)
      (try clear ho2)
      obtain ⟨Ao40, co40, eo40⟩ := Kd.R_slice HO138.out
      (first | subst eo40 | (injection eo40 with f1_ f2_ f3_; have f4_ := f1_.symm; have f5_ := f3_.symm; clear f1_ f2_ f3_; subst f4_; subst f5_))
      obtain ⟨Ao41, co41, eo41⟩ := Kd.R_slice HO141.out
      (first | subst eo41 | (injection eo41 with f1_ f2_ f3_; have f4_ := f1_.symm; have f5_ := f3_.symm; clear f1_ f2_ f3_; subst f4_; subst f5_))
      obtain ⟨Ao42, co42, eo42⟩ := Kd.R_slice HO144.out
      (first | subst eo42 | (injection eo42 with f1_ f2_ f3_; have f4_ := f1_.symm; have f5_ := f3_.symm; clear f1_ f2_ f3_; subst f4_; subst f5_))
      refine hK.out _ _ ⟨(kC BK124.out 0).trans rfl, (kC BK124.out 1).trans rfl, (kC BK124.out 2).trans rfl, (kC BK124.out 3).trans rfl, (kC BK124.out 4).trans rfl, (kC BK124.out 5).trans rfl, (kC BK124.out 6).trans rfl, (kC BK110.out 0).trans rfl, (kC BK110.out 1).trans rfl, (kC BK110.out 2).trans rfl, (kC BK110.out 3).trans rfl, (kC BK133.out 0).trans rfl, (kC BK133.out 1).trans rfl, (kC BK133.out 2).trans rfl, (kC BK133.out 3).trans rfl⟩ (fun hHeld => ?_)
      clear hK K
      refine norm_ (a' := ?_) ?_ ?_
      rotate_left
      ·
       show Act.put _ (some 30) _ = _
       simp only [Act.put, sA, sB, sC, i64_w, i32_w]
       rfl
      refine one_ (i := 4) (N := some 31) (upTo 5 20) rfl rfl (one_of HT_.out (by kernel_rfl)) (by decide) (fun K hK => ?_)
      refine goes_ Try.func7 (by kernel_rfl) rfl #[.agg #[.string t111, .int .i64 t112, .slice Ao19 t113.length co19, .slice Ao20 t116.length co20, .slice Ao21 t119.length co21, .int .i64 t122, .int .i64 t123], .agg #[.string t134, .int .i64 t135, .slice Ao40 t136.length co40, .slice Ao41 t139.length co41, .slice Ao42 t142.length co42, .int .i64 t145, .int .i64 t146]] (by rfl) rfl rfl (by (try simp only [mA, mB, mC]); first | done | rfl | (simp only [mD, mE]; rfl)) ?_
      with_reducible refine (laws_lwTopics.calls kj2 t111 t112 _ _ t113 _ _ t116 _ _ t119 t122 t123 t134 t135 _ _ t136 _ _ t139 _ _ t142 t145 t146 true _ ?side1 ?side2 ?side3 ?side4 ?side5 ?side6 ?side7 ?side8 ?side9 ?side10 ?side11 ?side12 A30.out).mono ?_
      (case side1 => repeat (first | exact (Kd.R_reads' HO115.out).2.2 | (with_reducible first | apply cA | apply cN | apply cD)))
      (case side2 => exact (Kd.R_reads' HO115.out).2.1)
      (case side3 => repeat (first | exact (Kd.R_reads' HO118.out).2.2 | (with_reducible first | apply cA | apply cN | apply cD)))
      (case side4 => exact (Kd.R_reads' HO118.out).2.1)
      (case side5 => repeat (first | exact (Kd.R_reads' HO121.out).2.2 | (with_reducible first | apply cA | apply cN | apply cD)))
      (case side6 => exact (Kd.R_reads' HO121.out).2.1)
      (case side7 => repeat (first | exact (Kd.R_reads' HO138.out).2.2 | (with_reducible first | apply cA | apply cN | apply cD)))
      (case side8 => exact (Kd.R_reads' HO138.out).2.1)
      (case side9 => repeat (first | exact (Kd.R_reads' HO141.out).2.2 | (with_reducible first | apply cA | apply cN | apply cD)))
      (case side10 => exact (Kd.R_reads' HO141.out).2.1)
      (case side11 => repeat (first | exact (Kd.R_reads' HO144.out).2.2 | (with_reducible first | apply cA | apply cN | apply cD)))
      (case side12 => exact (Kd.R_reads' HO144.out).2.1)
      rintro e w43 ⟨rfl, hb⟩
      refine ⟨_, rfl, ?_⟩
      have _ := AM (Kd.Q_below (qX HO105.out) hb)
      have _ := AM (Kd.R_below (rX HO108.out) hb)
      have _ := AM (Kd.R_below (rX HO115.out) hb)
      have _ := AM (Kd.R_below (rX HO118.out) hb)
      have _ := AM (Kd.R_below (rX HO121.out) hb)
      have _ := AM (Kd.Q_below (qX HO129.out) hb)
      have _ := AM (Kd.R_below (rX HO132.out) hb)
      have _ := AM (Kd.R_below (rX HO138.out) hb)
      have _ := AM (Kd.R_below (rX HO141.out) hb)
      have _ := AM (Kd.R_below (rX HO144.out) hb)
      have _ := AM (nB BK110.out hb)
      have _ := AM (nB BK124.out hb)
      have _ := AM (nB BK133.out hb)
      have _ := AM (below_step (bX HB.out) hb)
      clear HO105 HO108 HO115 HO118 HO121 HO129 HO132 HO138 HO141 HO144 BK110 BK124 BK133 HB
      rename_i HO105 HO108 HO115 HO118 HO121 HO129 HO132 HO138 HO141 HO144 BK110 BK124 BK133 HB
      (try clear hb)
      (try clear hk)
      refine hK.out _ _ ⟨(kC BK124.out 0).trans rfl, (kC BK124.out 1).trans rfl, (kC BK124.out 2).trans rfl, (kC BK124.out 3).trans rfl, (kC BK124.out 4).trans rfl, (kC BK124.out 5).trans rfl, (kC BK124.out 6).trans rfl, (kC BK110.out 0).trans rfl, (kC BK110.out 1).trans rfl, (kC BK110.out 2).trans rfl, (kC BK110.out 3).trans rfl, (kC BK133.out 0).trans rfl, (kC BK133.out 1).trans rfl, (kC BK133.out 2).trans rfl, (kC BK133.out 3).trans rfl⟩ (fun hHeld => ?_)
      clear hK K
      refine norm_ (a' := ?_) ?_ ?_
      rotate_left
      ·
       show Act.put _ (some 31) _ = _
       simp only [Act.put, sA, sB, sC, i64_w, i32_w]
       rfl
      refine pF 5 6 20 32 ?_
      refine pF 6 7 20 33 ?_
      refine pT2 7 34 (upTo 8 20) ?_ hHeld
      refine pT2 9 36 laws_FnPublish.b2 ?_ hHeld
      refine one_ (i := 8) (N := some 35) (upTo 10 20) rfl rfl (one_of HT_.out (by kernel_rfl)) (by decide) (fun K hK => ?_)
      refine goes_ Try.func15 (by kernel_rfl) rfl #[.agg #[.string t125, .int .i64 t126, .slice Ao27 t127.length co27, .slice Ao28 t130.length co28]] (by rfl) rfl rfl (by (try simp only [mA, mB, mC]); first | done | rfl | (simp only [mD, mE]; rfl)) ?_
      with_reducible refine (impl_TopicEnd.calls kj2 t125 t126 _ _ t127 _ _ t130 t148 _ ?side1 ?side2 ?side3 ?side4 A32.out).mono ?_
      (case side1 => repeat (first | exact (Kd.Q_reads' HO129.out).2.2 | (with_reducible first | apply cA | apply cN | apply cD)))
      (case side2 => exact (Kd.Q_reads' HO129.out).2.1)
      (case side3 => repeat (first | exact (Kd.R_reads' HO132.out).2.2 | (with_reducible first | apply cA | apply cN | apply cD)))
      (case side4 => exact (Kd.R_reads' HO132.out).2.1)
      rintro e w44 ⟨rfl, hb⟩
      refine ⟨_, rfl, ?_⟩
      have _ := AM (Kd.Q_below (qX HO105.out) hb)
      have _ := AM (Kd.R_below (rX HO108.out) hb)
      have _ := AM (Kd.R_below (rX HO115.out) hb)
      have _ := AM (Kd.R_below (rX HO118.out) hb)
      have _ := AM (Kd.R_below (rX HO121.out) hb)
      have _ := AM (Kd.Q_below (qX HO129.out) hb)
      have _ := AM (Kd.R_below (rX HO132.out) hb)
      have _ := AM (Kd.R_below (rX HO138.out) hb)
      have _ := AM (Kd.R_below (rX HO141.out) hb)
      have _ := AM (Kd.R_below (rX HO144.out) hb)
      have _ := AM (nB BK110.out hb)
      have _ := AM (nB BK124.out hb)
      have _ := AM (nB BK133.out hb)
      have _ := AM (below_step (bX HB.out) hb)
      clear HO105 HO108 HO115 HO118 HO121 HO129 HO132 HO138 HO141 HO144 BK110 BK124 BK133 HB
      rename_i HO105 HO108 HO115 HO118 HO121 HO129 HO132 HO138 HO141 HO144 BK110 BK124 BK133 HB
      (try clear hb)
      (try clear hk)
      refine hK.out _ _ ⟨(kC BK124.out 0).trans rfl, (kC BK124.out 1).trans rfl, (kC BK124.out 2).trans rfl, (kC BK124.out 3).trans rfl, (kC BK124.out 4).trans rfl, (kC BK124.out 5).trans rfl, (kC BK124.out 6).trans rfl, (kC BK110.out 0).trans rfl, (kC BK110.out 1).trans rfl, (kC BK110.out 2).trans rfl, (kC BK110.out 3).trans rfl, (kC BK133.out 0).trans rfl, (kC BK133.out 1).trans rfl, (kC BK133.out 2).trans rfl, (kC BK133.out 3).trans rfl⟩ (fun hHeld => ?_)
      clear hK K
      refine norm_ (a' := ?_) ?_ ?_
      rotate_left
      ·
       show Act.put _ (some 35) _ = _
       simp only [Act.put, sA, sB, sC, i64_w, i32_w]
       rfl
      refine one_ (i := 10) (N := some 37) (upTo 11 20) rfl rfl (one_of HT_.out (by kernel_rfl)) (by decide) (fun K hK => ?_)
      refine goes_ Try.func9 (by kernel_rfl) rfl #[.agg #[.string t125, .int .i64 t126, .slice Ao27 t127.length co27, .slice Ao28 t130.length co28]] (by rfl) rfl rfl (by (try simp only [mA, mB, mC]); first | done | rfl | (simp only [mD, mE]; rfl)) ?_
      with_reducible refine (spec_TopicEnd.calls kj2 t125 t126 _ _ t127 _ _ t130 t149 _ ?side1 ?side2 ?side3 ?side4 A33.out).mono ?_
      (case side1 => repeat (first | exact (Kd.Q_reads' HO129.out).2.2 | (with_reducible first | apply cA | apply cN | apply cD)))
      (case side2 => exact (Kd.Q_reads' HO129.out).2.1)
      (case side3 => repeat (first | exact (Kd.R_reads' HO132.out).2.2 | (with_reducible first | apply cA | apply cN | apply cD)))
      (case side4 => exact (Kd.R_reads' HO132.out).2.1)
      rintro e w45 ⟨rfl, hb⟩
      refine ⟨_, rfl, ?_⟩
      have _ := AM (Kd.Q_below (qX HO105.out) hb)
      have _ := AM (Kd.R_below (rX HO108.out) hb)
      have _ := AM (Kd.R_below (rX HO115.out) hb)
      have _ := AM (Kd.R_below (rX HO118.out) hb)
      have _ := AM (Kd.R_below (rX HO121.out) hb)
      have _ := AM (Kd.Q_below (qX HO129.out) hb)
      have _ := AM (Kd.R_below (rX HO132.out) hb)
      have _ := AM (Kd.R_below (rX HO138.out) hb)
      have _ := AM (Kd.R_below (rX HO141.out) hb)
      have _ := AM (Kd.R_below (rX HO144.out) hb)
      have _ := AM (nB BK110.out hb)
      have _ := AM (nB BK124.out hb)
      have _ := AM (nB BK133.out hb)
      have _ := AM (below_step (bX HB.out) hb)
      clear HO105 HO108 HO115 HO118 HO121 HO129 HO132 HO138 HO141 HO144 BK110 BK124 BK133 HB
      rename_i HO105 HO108 HO115 HO118 HO121 HO129 HO132 HO138 HO141 HO144 BK110 BK124 BK133 HB
      (try clear hb)
      (try clear hk)
      refine hK.out _ _ ⟨(kC BK124.out 0).trans rfl, (kC BK124.out 1).trans rfl, (kC BK124.out 2).trans rfl, (kC BK124.out 3).trans rfl, (kC BK124.out 4).trans rfl, (kC BK124.out 5).trans rfl, (kC BK124.out 6).trans rfl, (kC BK110.out 0).trans rfl, (kC BK110.out 1).trans rfl, (kC BK110.out 2).trans rfl, (kC BK110.out 3).trans rfl, (kC BK133.out 0).trans rfl, (kC BK133.out 1).trans rfl, (kC BK133.out 2).trans rfl, (kC BK133.out 3).trans rfl⟩ (fun hHeld => ?_)
      clear hK K
      refine norm_ (a' := ?_) ?_ ?_
      rotate_left
      ·
       show Act.put _ (some 37) _ = _
       simp only [Act.put, sA, sB, sC, i64_w, i32_w]
       rfl
      refine pF 11 12 20 38 ?_
      refine pF 12 13 20 39 ?_
      refine pF 13 14 20 40 ?_
      refine pT2 14 41 (upTo 15 20) ?_ hHeld
      refine pT2 16 43 laws_FnPublish.b3 ?_ hHeld
      refine one_ (i := 15) (N := some 42) (upTo 17 20) rfl rfl (one_of HT_.out (by kernel_rfl)) (by decide) (fun K hK => ?_)
      refine goes_ Try.func16 (by kernel_rfl) rfl #[.agg #[.string t125, .int .i64 t126, .slice Ao27 t127.length co27, .slice Ao28 t130.length co28]] (by rfl) rfl rfl (by (try simp only [mA, mB, mC]); first | done | rfl | (simp only [mD, mE]; rfl)) ?_
      with_reducible refine (impl_TopicRight.calls kj2 t125 t126 _ _ t127 _ _ t130 t150 _ ?side1 ?side2 ?side3 ?side4 A35.out).mono ?_
      (case side1 => repeat (first | exact (Kd.Q_reads' HO129.out).2.2 | (with_reducible first | apply cA | apply cN | apply cD)))
      (case side2 => exact (Kd.Q_reads' HO129.out).2.1)
      (case side3 => repeat (first | exact (Kd.R_reads' HO132.out).2.2 | (with_reducible first | apply cA | apply cN | apply cD)))
      (case side4 => exact (Kd.R_reads' HO132.out).2.1)
      rintro e w46 ⟨rfl, hb⟩
      refine ⟨_, rfl, ?_⟩
      have _ := AM (Kd.Q_below (qX HO105.out) hb)
      have _ := AM (Kd.R_below (rX HO108.out) hb)
      have _ := AM (Kd.R_below (rX HO115.out) hb)
      have _ := AM (Kd.R_below (rX HO118.out) hb)
      have _ := AM (Kd.R_below (rX HO121.out) hb)
      have _ := AM (Kd.Q_below (qX HO129.out) hb)
      have _ := AM (Kd.R_below (rX HO132.out) hb)
      have _ := AM (Kd.R_below (rX HO138.out) hb)
      have _ := AM (Kd.R_below (rX HO141.out) hb)
      have _ := AM (Kd.R_below (rX HO144.out) hb)
      have _ := AM (nB BK110.out hb)
      have _ := AM (nB BK124.out hb)
      have _ := AM (nB BK133.out hb)
      have _ := AM (below_step (bX HB.out) hb)
      clear HO105 HO108 HO115 HO118 HO121 HO129 HO132 HO138 HO141 HO144 BK110 BK124 BK133 HB
      rename_i HO105 HO108 HO115 HO118 HO121 HO129 HO132 HO138 HO141 HO144 BK110 BK124 BK133 HB
      (try clear hb)
      (try clear hk)
      refine hK.out _ _ ⟨(kC BK124.out 0).trans rfl, (kC BK124.out 1).trans rfl, (kC BK124.out 2).trans rfl, (kC BK124.out 3).trans rfl, (kC BK124.out 4).trans rfl, (kC BK124.out 5).trans rfl, (kC BK124.out 6).trans rfl, (kC BK110.out 0).trans rfl, (kC BK110.out 1).trans rfl, (kC BK110.out 2).trans rfl, (kC BK110.out 3).trans rfl, (kC BK133.out 0).trans rfl, (kC BK133.out 1).trans rfl, (kC BK133.out 2).trans rfl, (kC BK133.out 3).trans rfl⟩ (fun hHeld => ?_)
      clear hK K
      refine norm_ (a' := ?_) ?_ ?_
      rotate_left
      ·
       show Act.put _ (some 42) _ = _
       simp only [Act.put, sA, sB, sC, i64_w, i32_w]
       rfl
      refine one_ (i := 17) (N := some 44) (upTo 18 20) rfl rfl (one_of HT_.out (by kernel_rfl)) (by decide) (fun K hK => ?_)
      refine goes_ Try.func17 (by kernel_rfl) rfl #[.agg #[.string t125, .int .i64 t126, .slice Ao27 t127.length co27, .slice Ao28 t130.length co28]] (by rfl) rfl rfl (by (try simp only [mA, mB, mC]); first | done | rfl | (simp only [mD, mE]; rfl)) ?_
      with_reducible refine (spec_TopicRight.calls kj2 t125 t126 _ _ t127 _ _ t130 t151 _ ?side1 ?side2 ?side3 ?side4 A36.out).mono ?_
      (case side1 => repeat (first | exact (Kd.Q_reads' HO129.out).2.2 | (with_reducible first | apply cA | apply cN | apply cD)))
      (case side2 => exact (Kd.Q_reads' HO129.out).2.1)
      (case side3 => repeat (first | exact (Kd.R_reads' HO132.out).2.2 | (with_reducible first | apply cA | apply cN | apply cD)))
      (case side4 => exact (Kd.R_reads' HO132.out).2.1)
      rintro e w47 ⟨rfl, hb⟩
      refine ⟨_, rfl, ?_⟩
      have _ := AM (Kd.Q_below (qX HO105.out) hb)
      have _ := AM (Kd.R_below (rX HO108.out) hb)
      have _ := AM (Kd.R_below (rX HO115.out) hb)
      have _ := AM (Kd.R_below (rX HO118.out) hb)
      have _ := AM (Kd.R_below (rX HO121.out) hb)
      have _ := AM (Kd.Q_below (qX HO129.out) hb)
      have _ := AM (Kd.R_below (rX HO132.out) hb)
      have _ := AM (Kd.R_below (rX HO138.out) hb)
      have _ := AM (Kd.R_below (rX HO141.out) hb)
      have _ := AM (Kd.R_below (rX HO144.out) hb)
      have _ := AM (nB BK110.out hb)
      have _ := AM (nB BK124.out hb)
      have _ := AM (nB BK133.out hb)
      have _ := AM (below_step (bX HB.out) hb)
      clear HO105 HO108 HO115 HO118 HO121 HO129 HO132 HO138 HO141 HO144 BK110 BK124 BK133 HB
      rename_i HO105 HO108 HO115 HO118 HO121 HO129 HO132 HO138 HO141 HO144 BK110 BK124 BK133 HB
      (try clear hb)
      (try clear hk)
      refine hK.out _ _ ⟨(kC BK124.out 0).trans rfl, (kC BK124.out 1).trans rfl, (kC BK124.out 2).trans rfl, (kC BK124.out 3).trans rfl, (kC BK124.out 4).trans rfl, (kC BK124.out 5).trans rfl, (kC BK124.out 6).trans rfl, (kC BK110.out 0).trans rfl, (kC BK110.out 1).trans rfl, (kC BK110.out 2).trans rfl, (kC BK110.out 3).trans rfl, (kC BK133.out 0).trans rfl, (kC BK133.out 1).trans rfl, (kC BK133.out 2).trans rfl, (kC BK133.out 3).trans rfl⟩ (fun hHeld => ?_)
      clear hK K
      refine norm_ (a' := ?_) ?_ ?_
      rotate_left
      ·
       show Act.put _ (some 44) _ = _
       simp only [Act.put, sA, sB, sC, i64_w, i32_w]
       rfl
      refine pF 18 19 20 45 ?_
      refine pF 19 20 20 46 ?_
      refine done_ (done_of HT_.out (by kernel_rfl)) ?_
      try go_wp2
      go_meet
      case rel => exact ⟨_, ((t150 != t151)), (by first | rfl | (simp; done) | (simp [*]; done)), H', ⟨by have := HJ2.out; first | omega | exact Nat.le_refl _⟩, ⟨by (with_reducible repeat (first | apply Kd.Q_alloc | apply Kd.Q_drewN | apply Kd.Q_drew)); exact Kd.Q_mono HO105.out (fun _ hk => ⟨hk.1.1.1, ⟨hk.1.1.2.1, hk.1.1.2.2⟩⟩)⟩, ⟨by (with_reducible repeat (first | apply rA | apply rN | apply rD)); exact Kd.R_mono HO108.out (fun _ hk => ⟨hk.1.1, hk.1.2⟩)⟩, ⟨by (with_reducible repeat (first | apply rA | apply rN | apply rD)); exact Kd.R_mono HO115.out (fun _ hk => ⟨hk.1.1.1, ⟨hk.1.1.2.1, hk.1.1.2.2⟩⟩)⟩, ⟨by (with_reducible repeat (first | apply rA | apply rN | apply rD)); exact Kd.R_mono HO118.out (fun _ hk => ⟨hk.1.1, hk.1.2⟩)⟩, ⟨by (with_reducible repeat (first | apply rA | apply rN | apply rD)); exact Kd.R_mono HO121.out (fun _ hk => ⟨hk.1.1.1, ⟨hk.1.1.2.1, hk.1.1.2.2⟩⟩)⟩, ⟨by (with_reducible repeat (first | apply Kd.Q_alloc | apply Kd.Q_drewN | apply Kd.Q_drew)); exact Kd.Q_mono HO129.out (fun _ hk => ⟨hk.1.1.1, ⟨hk.1.1.2.1, hk.1.1.2.2⟩⟩)⟩, ⟨by (with_reducible repeat (first | apply rA | apply rN | apply rD)); exact Kd.R_mono HO132.out (fun _ hk => ⟨hk.1.1, hk.1.2⟩)⟩, ⟨kX BK110.out⟩, ⟨kX BK124.out⟩, ⟨kX BK133.out⟩, ⟨bX HB.out⟩⟩
     rw [if_neg c34] at H
     have c34b0 : (t148 == t149) = false := beq_eq_false_iff_ne.mpr c34
     have c34b1 : (t148 != t149) = true := bne_iff_ne.mpr c34
     (first | rw [c34b0] | (simp only [i64_w, i32_w]; rw [c34b0]) | skip)
     have H' := AM H
     clear H
     try go_wp2
     have n0_ : Aside0 (Kd.Q Kd.string 9 ((((w23.setCell ⟨gb133, 0, none⟩ (.string t125)).setCell ⟨gb133, 1, none⟩ (.int .i64 t126)).setCell ⟨gb133, 2, none⟩ (.slice Ao27 t127.length co27)).setCell ⟨gb133, 3, none⟩ (.slice Ao28 t130.length co28)) w.heap.size (fun k_ => some k_ ≠ (.slice Ao19 t113.length co19 : Value).ownBlock ∧ some k_ ≠ (.slice Ao21 t119.length co21 : Value).ownBlock ∧ some k_ ≠ (.slice Ao27 t127.length co27 : Value).ownBlock) (.slice Ao13 t103.length co13) t103) := ⟨by (with_reducible repeat (first | apply Kd.Q_alloc | apply Kd.Q_drewN | apply Kd.Q_drew)); exact Qf4 HO105.out BK133.out (by decide) (fun _ hk => ⟨hk.1.1.1.2, ⟨hk.1.1.2, hk.1.2⟩⟩)⟩
     have n1_ : Aside0 (Kd.R k36 36 ((((w23.setCell ⟨gb133, 0, none⟩ (.string t125)).setCell ⟨gb133, 1, none⟩ (.int .i64 t126)).setCell ⟨gb133, 2, none⟩ (.slice Ao27 t127.length co27)).setCell ⟨gb133, 3, none⟩ (.slice Ao28 t130.length co28)) w.heap.size (fun k_ => some k_ ≠ (.slice Ao20 t116.length co20 : Value).ownBlock ∧ some k_ ≠ (.slice Ao28 t130.length co28 : Value).ownBlock) (.slice Ao14 t106.length co14) t106) := ⟨by (with_reducible repeat (first | apply rA | apply rN | apply rD)); exact Rf4 HO108.out BK133.out (by decide) (fun _ hk => ⟨hk.1.1.2, hk.1.2⟩)⟩
     have n2_ : Aside0 (Kd.R Kd.string 9 ((((w23.setCell ⟨gb133, 0, none⟩ (.string t125)).setCell ⟨gb133, 1, none⟩ (.int .i64 t126)).setCell ⟨gb133, 2, none⟩ (.slice Ao27 t127.length co27)).setCell ⟨gb133, 3, none⟩ (.slice Ao28 t130.length co28)) w.heap.size (fun k_ => some k_ ≠ (.slice Ao13 t103.length co13 : Value).ownBlock ∧ some k_ ≠ (.slice Ao21 t119.length co21 : Value).ownBlock ∧ some k_ ≠ (.slice Ao27 t127.length co27 : Value).ownBlock) (.slice Ao19 t113.length co19) t113) := ⟨by (with_reducible repeat (first | apply rA | apply rN | apply rD)); exact Rf4 HO115.out BK133.out (by decide) (fun _ hk => ⟨hk.1.1.2, ⟨hk.1.1.1, hk.1.2⟩⟩)⟩
     have n3_ : Aside0 (Kd.R k36 36 ((((w23.setCell ⟨gb133, 0, none⟩ (.string t125)).setCell ⟨gb133, 1, none⟩ (.int .i64 t126)).setCell ⟨gb133, 2, none⟩ (.slice Ao27 t127.length co27)).setCell ⟨gb133, 3, none⟩ (.slice Ao28 t130.length co28)) w.heap.size (fun k_ => some k_ ≠ (.slice Ao14 t106.length co14 : Value).ownBlock ∧ some k_ ≠ (.slice Ao28 t130.length co28 : Value).ownBlock) (.slice Ao20 t116.length co20) t116) := ⟨by (with_reducible repeat (first | apply rA | apply rN | apply rD)); exact Rf4 HO118.out BK133.out (by decide) (fun _ hk => ⟨hk.1.1.2, hk.1.2⟩)⟩
     have n4_ : Aside0 (Kd.R Kd.string 9 ((((w23.setCell ⟨gb133, 0, none⟩ (.string t125)).setCell ⟨gb133, 1, none⟩ (.int .i64 t126)).setCell ⟨gb133, 2, none⟩ (.slice Ao27 t127.length co27)).setCell ⟨gb133, 3, none⟩ (.slice Ao28 t130.length co28)) w.heap.size (fun k_ => some k_ ≠ (.slice Ao13 t103.length co13 : Value).ownBlock ∧ some k_ ≠ (.slice Ao19 t113.length co19 : Value).ownBlock ∧ some k_ ≠ (.slice Ao27 t127.length co27 : Value).ownBlock) (.slice Ao21 t119.length co21) t119) := ⟨by (with_reducible repeat (first | apply rA | apply rN | apply rD)); exact Rf4 HO121.out BK133.out (by decide) (fun _ hk => ⟨hk.1.1.2, ⟨hk.1.1.1, hk.1.2⟩⟩)⟩
     have n5_ : Aside0 (Kd.Q Kd.string 9 ((((w23.setCell ⟨gb133, 0, none⟩ (.string t125)).setCell ⟨gb133, 1, none⟩ (.int .i64 t126)).setCell ⟨gb133, 2, none⟩ (.slice Ao27 t127.length co27)).setCell ⟨gb133, 3, none⟩ (.slice Ao28 t130.length co28)) w.heap.size (fun k_ => some k_ ≠ (.slice Ao13 t103.length co13 : Value).ownBlock ∧ some k_ ≠ (.slice Ao19 t113.length co19 : Value).ownBlock ∧ some k_ ≠ (.slice Ao21 t119.length co21 : Value).ownBlock) (.slice Ao27 t127.length co27) t127) := ⟨by (with_reducible repeat (first | apply Kd.Q_alloc | apply Kd.Q_drewN | apply Kd.Q_drew)); exact Qf4 HO129.out BK133.out (by decide) (fun _ hk => ⟨hk.1.1.1.2, ⟨hk.1.1.2, hk.1.2⟩⟩)⟩
     have n6_ : Aside0 (Kd.R k36 36 ((((w23.setCell ⟨gb133, 0, none⟩ (.string t125)).setCell ⟨gb133, 1, none⟩ (.int .i64 t126)).setCell ⟨gb133, 2, none⟩ (.slice Ao27 t127.length co27)).setCell ⟨gb133, 3, none⟩ (.slice Ao28 t130.length co28)) w.heap.size (fun k_ => some k_ ≠ (.slice Ao14 t106.length co14 : Value).ownBlock ∧ some k_ ≠ (.slice Ao20 t116.length co20 : Value).ownBlock) (.slice Ao28 t130.length co28) t130) := ⟨by (with_reducible repeat (first | apply rA | apply rN | apply rD)); exact Rf4 HO132.out BK133.out (by decide) (fun _ hk => ⟨hk.1.1.2, hk.1.2⟩)⟩
     have n7_ : Aside0 (((((w23.setCell ⟨gb133, 0, none⟩ (.string t125)).setCell ⟨gb133, 1, none⟩ (.int .i64 t126)).setCell ⟨gb133, 2, none⟩ (.slice Ao27 t127.length co27)).setCell ⟨gb133, 3, none⟩ (.slice Ao28 t130.length co28)).heap[gb110]? = some (.cells #[.string t101, .int .i64 t102, .slice Ao13 t103.length co13, .slice Ao14 t106.length co14] 26 (0, 0))) := ⟨by (iterate 4 refine kF NB110_133.out ?_); (with_reducible repeat (first | apply kN | apply kD | apply kA)); exact BK110.out⟩
     have n8_ : Aside0 (((((w23.setCell ⟨gb133, 0, none⟩ (.string t125)).setCell ⟨gb133, 1, none⟩ (.int .i64 t126)).setCell ⟨gb133, 2, none⟩ (.slice Ao27 t127.length co27)).setCell ⟨gb133, 3, none⟩ (.slice Ao28 t130.length co28)).heap[gb124]? = some (.cells #[.string t111, .int .i64 t112, .slice Ao19 t113.length co19, .slice Ao20 t116.length co20, .slice Ao21 t119.length co21, .int .i64 t122, .int .i64 t123] 30 (0, 0))) := ⟨by (iterate 4 refine kF NB124_133.out ?_); (with_reducible repeat (first | apply kN | apply kD | apply kA)); exact BK124.out⟩
     have n9_ : Aside0 (((((w23.setCell ⟨gb133, 0, none⟩ (.string t125)).setCell ⟨gb133, 1, none⟩ (.int .i64 t126)).setCell ⟨gb133, 2, none⟩ (.slice Ao27 t127.length co27)).setCell ⟨gb133, 3, none⟩ (.slice Ao28 t130.length co28)).heap[gb133]? = some (.cells #[.string t125, .int .i64 t126, .slice Ao27 t127.length co27, .slice Ao28 t130.length co28] 26 (0, 0))) := ⟨by refine kP (cs := #[.string t125, .int .i64 t126, .slice Ao27 t127.length co27, .slice none 0 0]) 3 ?_; refine kP (cs := #[.string t125, .int .i64 t126, .slice none 0 0, .slice none 0 0]) 2 ?_; refine kP (cs := #[.string t125, .int .i64 0, .slice none 0 0, .slice none 0 0]) 1 ?_; refine kP (cs := #[.string (⟨#[]⟩ : ByteArray), .int .i64 0, .slice none 0 0, .slice none 0 0]) 0 ?_; (with_reducible repeat (first | apply kN | apply kD | apply kA)); exact BK133.out⟩
     have n10_ : Aside0 (Below w.heap.size w ((((w23.setCell ⟨gb133, 0, none⟩ (.string t125)).setCell ⟨gb133, 1, none⟩ (.int .i64 t126)).setCell ⟨gb133, 2, none⟩ (.slice Ao27 t127.length co27)).setCell ⟨gb133, 3, none⟩ (.slice Ao28 t130.length co28))) := ⟨bX HB.out⟩
     (try clear HO105)
     (try clear HO108)
     (try clear HO115)
     (try clear HO118)
     (try clear HO121)
     (try clear HO129)
     (try clear HO132)
     (try clear BK110)
     (try clear BK124)
     (try clear BK133)
     (try clear HB)
     generalize ((((w23.setCell ⟨gb133, 0, none⟩ (.string t125)).setCell ⟨gb133, 1, none⟩ (.int .i64 t126)).setCell ⟨gb133, 2, none⟩ (.slice Ao27 t127.length co27)).setCell ⟨gb133, 3, none⟩ (.slice Ao28 t130.length co28)) = w48 at n0_ n1_ n2_ n3_ n4_ n5_ n6_ n7_ n8_ n9_ n10_ ⊢
     have HO105 := n0_
     have HO108 := n1_
     have HO115 := n2_
     have HO118 := n3_
     have HO121 := n4_
     have HO129 := n5_
     have HO132 := n6_
     have BK110 := n7_
     have BK124 := n8_
     have BK133 := n9_
     have HB := n10_
     clear n0_ n1_ n2_ n3_ n4_ n5_ n6_ n7_ n8_ n9_ n10_
     have _ := AM (Kd.Q_drew HO105.out)
     have _ := AM (rD HO108.out)
     have _ := AM (rD HO115.out)
     have _ := AM (rD HO118.out)
     have _ := AM (rD HO121.out)
     have _ := AM (Kd.Q_drew HO129.out)
     have _ := AM (rD HO132.out)
     have _ := AM (kD BK110.out)
     have _ := AM (kD BK124.out)
     have _ := AM (kD BK133.out)
     have _ := AM (bD HB.out)
     clear HO105 HO108 HO115 HO118 HO121 HO129 HO132 BK110 BK124 BK133 HB
     rename_i HO105 HO108 HO115 HO118 HO121 HO129 HO132 BK110 BK124 BK133 HB
     refine start_ (n := 20) (S := fun w' => w'.cell? ⟨gb124, 0, none⟩ = some (.string t111) ∧ w'.cell? ⟨gb124, 1, none⟩ = some (.int .i64 t112) ∧ w'.cell? ⟨gb124, 2, none⟩ = some (.slice Ao19 t113.length co19) ∧ w'.cell? ⟨gb124, 3, none⟩ = some (.slice Ao20 t116.length co20) ∧ w'.cell? ⟨gb124, 4, none⟩ = some (.slice Ao21 t119.length co21) ∧ w'.cell? ⟨gb124, 5, none⟩ = some (.int .i64 t122) ∧ w'.cell? ⟨gb124, 6, none⟩ = some (.int .i64 t123) ∧ w'.cell? ⟨gb110, 0, none⟩ = some (.string t101) ∧ w'.cell? ⟨gb110, 1, none⟩ = some (.int .i64 t102) ∧ w'.cell? ⟨gb110, 2, none⟩ = some (.slice Ao13 t103.length co13) ∧ w'.cell? ⟨gb110, 3, none⟩ = some (.slice Ao14 t106.length co14) ∧ w'.cell? ⟨gb133, 0, none⟩ = some (.string t125) ∧ w'.cell? ⟨gb133, 1, none⟩ = some (.int .i64 t126) ∧ w'.cell? ⟨gb133, 2, none⟩ = some (.slice Ao27 t127.length co27) ∧ w'.cell? ⟨gb133, 3, none⟩ = some (.slice Ao28 t130.length co28)) (ds := []) (upTo 0 20) (by kernel_rfl) rfl rfl ⟨(kC BK124.out 0).trans rfl, (kC BK124.out 1).trans rfl, (kC BK124.out 2).trans rfl, (kC BK124.out 3).trans rfl, (kC BK124.out 4).trans rfl, (kC BK124.out 5).trans rfl, (kC BK124.out 6).trans rfl, (kC BK110.out 0).trans rfl, (kC BK110.out 1).trans rfl, (kC BK110.out 2).trans rfl, (kC BK110.out 3).trans rfl, (kC BK133.out 0).trans rfl, (kC BK133.out 1).trans rfl, (kC BK133.out 2).trans rfl, (kC BK133.out 3).trans rfl⟩ (fun hHeld => ?_); refine with_tabW laws_FnPublish.tab6 laws_FnPublish.bits6 (fun HT_ HW_ => ?_)
     generalize w48.drew = w49 at HO105 HO108 HO115 HO118 HO121 HO129 HO132 BK110 BK124 BK133 HB hHeld ⊢
     refine pF2 2 29 laws_FnPublish.b0 ?_
     refine pT2 0 27 laws_FnPublish.b1 ?_ hHeld
     refine pT2 1 28 (upTo 3 20) ?_ hHeld
     refine one_ (i := 3) (N := some 30) (upTo 4 20) rfl rfl (one_of HT_.out (by kernel_rfl)) (by decide) (fun K hK => ?_)
     refine goes_ Try.func14 (by kernel_rfl) rfl #[.agg #[.string t101, .int .i64 t102, .slice Ao13 t103.length co13, .slice Ao14 t106.length co14], .string t109] (by rfl) rfl rfl (by (try simp only [mA, mB, mC]); first | done | rfl | (simp only [mD, mE]; rfl)) ?_
     with_reducible refine (spec_TopicPublish.calls kj2 t101 t102 _ _ t103 _ _ t106 t109 t134 t135 t136 t139 t142 t145 t146 _ ?side1 ?side2 ?side3 ?side4 A29.out).mono ?_
     (case side1 => repeat (first | exact (Kd.Q_reads' HO105.out).2.2 | (with_reducible first | apply cA | apply cN | apply cD)))
     (case side2 => exact (Kd.Q_reads' HO105.out).2.1)
     (case side3 => repeat (first | exact (Kd.R_reads' HO108.out).2.2 | (with_reducible first | apply cA | apply cN | apply cD)))
     (case side4 => exact (Kd.R_reads' HO108.out).2.1)
     rintro e w50 ⟨v137, v140, v143, rfl, ho0, ho1, ho2, hb⟩
     refine ⟨_, rfl, ?_⟩
     have _ := AM (Kd.Q_mono (Kd.Q_told (Kd.Q_told (Kd.Q_old (qX HO105.out) hb) (Kd.R_base ho0)) (Kd.R_base ho2)) (fun _ h_ => h_.1))
     have _ := AM (Kd.R_elder' (rX HO108.out) (Kd.R_base ho1) hb)
     have _ := AM (Kd.R_mono (Kd.R_told (Kd.R_told (Kd.R_old (rX HO115.out) hb) (Kd.R_base ho0)) (Kd.R_base ho2)) (fun _ h_ => h_.1))
     have _ := AM (Kd.R_elder' (rX HO118.out) (Kd.R_base ho1) hb)
     have _ := AM (Kd.R_mono (Kd.R_told (Kd.R_told (Kd.R_old (rX HO121.out) hb) (Kd.R_base ho0)) (Kd.R_base ho2)) (fun _ h_ => h_.1))
     have _ := AM (Kd.Q_mono (Kd.Q_told (Kd.Q_told (Kd.Q_old (qX HO129.out) hb) (Kd.R_base ho0)) (Kd.R_base ho2)) (fun _ h_ => h_.1))
     have _ := AM (Kd.R_elder' (rX HO132.out) (Kd.R_base ho1) hb)
     have _ := AM (Kd.R_lower (Kd.R_new' (Kd.R_new' (Kd.R_new' (Kd.R_new' ho0 (Kd.Q_lt (qX HO105.out))) (Kd.R_lt (rX HO115.out))) (Kd.R_lt (rX HO121.out))) (Kd.Q_lt (qX HO129.out))) (bZ (bX HB.out)))
     have _ := AM (Kd.R_lower (Kd.R_new' (Kd.R_new' (Kd.R_new' ho1 (Kd.R_lt (rX HO108.out))) (Kd.R_lt (rX HO118.out))) (Kd.R_lt (rX HO132.out))) (bZ (bX HB.out)))
     have _ := AM (Kd.R_lower (Kd.R_new' (Kd.R_new' (Kd.R_new' (Kd.R_new' ho2 (Kd.Q_lt (qX HO105.out))) (Kd.R_lt (rX HO115.out))) (Kd.R_lt (rX HO121.out))) (Kd.Q_lt (qX HO129.out))) (bZ (bX HB.out)))
     have _ := AM (nB BK110.out hb)
     have _ := AM (nB BK124.out hb)
     have _ := AM (nB BK133.out hb)
     have _ := AM (below_step (bX HB.out) hb)
     clear HO105 HO108 HO115 HO118 HO121 HO129 HO132 BK110 BK124 BK133 HB
     rename_i HO105 HO108 HO115 HO118 HO121 HO129 HO132 HO138 HO141 HO144 BK110 BK124 BK133 HB
     (try clear hb)
     (try clear hk)
     (try clear ho0)
     (try clear ho1)
     (try clear ho2)
     obtain ⟨Ao51, co51, eo51⟩ := Kd.R_slice HO138.out
     (first | subst eo51 | (injection eo51 with f1_ f2_ f3_; have f4_ := f1_.symm; have f5_ := f3_.symm; clear f1_ f2_ f3_; subst f4_; subst f5_))
     obtain ⟨Ao52, co52, eo52⟩ := Kd.R_slice HO141.out
     (first | subst eo52 | (injection eo52 with f1_ f2_ f3_; have f4_ := f1_.symm; have f5_ := f3_.symm; clear f1_ f2_ f3_; subst f4_; subst f5_))
     obtain ⟨Ao53, co53, eo53⟩ := Kd.R_slice HO144.out
     (first | subst eo53 | (injection eo53 with f1_ f2_ f3_; have f4_ := f1_.symm; have f5_ := f3_.symm; clear f1_ f2_ f3_; subst f4_; subst f5_))
     refine hK.out _ _ ⟨(kC BK124.out 0).trans rfl, (kC BK124.out 1).trans rfl, (kC BK124.out 2).trans rfl, (kC BK124.out 3).trans rfl, (kC BK124.out 4).trans rfl, (kC BK124.out 5).trans rfl, (kC BK124.out 6).trans rfl, (kC BK110.out 0).trans rfl, (kC BK110.out 1).trans rfl, (kC BK110.out 2).trans rfl, (kC BK110.out 3).trans rfl, (kC BK133.out 0).trans rfl, (kC BK133.out 1).trans rfl, (kC BK133.out 2).trans rfl, (kC BK133.out 3).trans rfl⟩ (fun hHeld => ?_)
     clear hK K
     refine norm_ (a' := ?_) ?_ ?_
     rotate_left
     ·
      show Act.put _ (some 30) _ = _
      simp only [Act.put, sA, sB, sC, i64_w, i32_w]
      rfl
     refine one_ (i := 4) (N := some 31) (upTo 5 20) rfl rfl (one_of HT_.out (by kernel_rfl)) (by decide) (fun K hK => ?_)
     refine goes_ Try.func7 (by kernel_rfl) rfl #[.agg #[.string t111, .int .i64 t112, .slice Ao19 t113.length co19, .slice Ao20 t116.length co20, .slice Ao21 t119.length co21, .int .i64 t122, .int .i64 t123], .agg #[.string t134, .int .i64 t135, .slice Ao51 t136.length co51, .slice Ao52 t139.length co52, .slice Ao53 t142.length co53, .int .i64 t145, .int .i64 t146]] (by rfl) rfl rfl (by (try simp only [mA, mB, mC]); first | done | rfl | (simp only [mD, mE]; rfl)) ?_
     with_reducible refine (laws_lwTopics.calls kj2 t111 t112 _ _ t113 _ _ t116 _ _ t119 t122 t123 t134 t135 _ _ t136 _ _ t139 _ _ t142 t145 t146 true _ ?side1 ?side2 ?side3 ?side4 ?side5 ?side6 ?side7 ?side8 ?side9 ?side10 ?side11 ?side12 A30.out).mono ?_
     (case side1 => repeat (first | exact (Kd.R_reads' HO115.out).2.2 | (with_reducible first | apply cA | apply cN | apply cD)))
     (case side2 => exact (Kd.R_reads' HO115.out).2.1)
     (case side3 => repeat (first | exact (Kd.R_reads' HO118.out).2.2 | (with_reducible first | apply cA | apply cN | apply cD)))
     (case side4 => exact (Kd.R_reads' HO118.out).2.1)
     (case side5 => repeat (first | exact (Kd.R_reads' HO121.out).2.2 | (with_reducible first | apply cA | apply cN | apply cD)))
     (case side6 => exact (Kd.R_reads' HO121.out).2.1)
     (case side7 => repeat (first | exact (Kd.R_reads' HO138.out).2.2 | (with_reducible first | apply cA | apply cN | apply cD)))
     (case side8 => exact (Kd.R_reads' HO138.out).2.1)
     (case side9 => repeat (first | exact (Kd.R_reads' HO141.out).2.2 | (with_reducible first | apply cA | apply cN | apply cD)))
     (case side10 => exact (Kd.R_reads' HO141.out).2.1)
     (case side11 => repeat (first | exact (Kd.R_reads' HO144.out).2.2 | (with_reducible first | apply cA | apply cN | apply cD)))
     (case side12 => exact (Kd.R_reads' HO144.out).2.1)
     rintro e w54 ⟨rfl, hb⟩
     refine ⟨_, rfl, ?_⟩
     have _ := AM (Kd.Q_below (qX HO105.out) hb)
     have _ := AM (Kd.R_below (rX HO108.out) hb)
     have _ := AM (Kd.R_below (rX HO115.out) hb)
     have _ := AM (Kd.R_below (rX HO118.out) hb)
     have _ := AM (Kd.R_below (rX HO121.out) hb)
     have _ := AM (Kd.Q_below (qX HO129.out) hb)
     have _ := AM (Kd.R_below (rX HO132.out) hb)
     have _ := AM (Kd.R_below (rX HO138.out) hb)
     have _ := AM (Kd.R_below (rX HO141.out) hb)
     have _ := AM (Kd.R_below (rX HO144.out) hb)
     have _ := AM (nB BK110.out hb)
     have _ := AM (nB BK124.out hb)
     have _ := AM (nB BK133.out hb)
     have _ := AM (below_step (bX HB.out) hb)
     clear HO105 HO108 HO115 HO118 HO121 HO129 HO132 HO138 HO141 HO144 BK110 BK124 BK133 HB
     rename_i HO105 HO108 HO115 HO118 HO121 HO129 HO132 HO138 HO141 HO144 BK110 BK124 BK133 HB
     (try clear hb)
     (try clear hk)
     refine hK.out _ _ ⟨(kC BK124.out 0).trans rfl, (kC BK124.out 1).trans rfl, (kC BK124.out 2).trans rfl, (kC BK124.out 3).trans rfl, (kC BK124.out 4).trans rfl, (kC BK124.out 5).trans rfl, (kC BK124.out 6).trans rfl, (kC BK110.out 0).trans rfl, (kC BK110.out 1).trans rfl, (kC BK110.out 2).trans rfl, (kC BK110.out 3).trans rfl, (kC BK133.out 0).trans rfl, (kC BK133.out 1).trans rfl, (kC BK133.out 2).trans rfl, (kC BK133.out 3).trans rfl⟩ (fun hHeld => ?_)
     clear hK K
     refine norm_ (a' := ?_) ?_ ?_
     rotate_left
     ·
      show Act.put _ (some 31) _ = _
      simp only [Act.put, sA, sB, sC, i64_w, i32_w]
      rfl
     refine pF 5 6 20 32 ?_
     refine pF 6 7 20 33 ?_
     refine pT2 7 34 (upTo 8 20) ?_ hHeld
     refine pT2 9 36 laws_FnPublish.b2 ?_ hHeld
     refine one_ (i := 8) (N := some 35) (upTo 10 20) rfl rfl (one_of HT_.out (by kernel_rfl)) (by decide) (fun K hK => ?_)
     refine goes_ Try.func15 (by kernel_rfl) rfl #[.agg #[.string t125, .int .i64 t126, .slice Ao27 t127.length co27, .slice Ao28 t130.length co28]] (by rfl) rfl rfl (by (try simp only [mA, mB, mC]); first | done | rfl | (simp only [mD, mE]; rfl)) ?_
     with_reducible refine (impl_TopicEnd.calls kj2 t125 t126 _ _ t127 _ _ t130 t148 _ ?side1 ?side2 ?side3 ?side4 A32.out).mono ?_
     (case side1 => repeat (first | exact (Kd.Q_reads' HO129.out).2.2 | (with_reducible first | apply cA | apply cN | apply cD)))
     (case side2 => exact (Kd.Q_reads' HO129.out).2.1)
     (case side3 => repeat (first | exact (Kd.R_reads' HO132.out).2.2 | (with_reducible first | apply cA | apply cN | apply cD)))
     (case side4 => exact (Kd.R_reads' HO132.out).2.1)
     rintro e w55 ⟨rfl, hb⟩
     refine ⟨_, rfl, ?_⟩
     have _ := AM (Kd.Q_below (qX HO105.out) hb)
     have _ := AM (Kd.R_below (rX HO108.out) hb)
     have _ := AM (Kd.R_below (rX HO115.out) hb)
     have _ := AM (Kd.R_below (rX HO118.out) hb)
     have _ := AM (Kd.R_below (rX HO121.out) hb)
     have _ := AM (Kd.Q_below (qX HO129.out) hb)
     have _ := AM (Kd.R_below (rX HO132.out) hb)
     have _ := AM (Kd.R_below (rX HO138.out) hb)
     have _ := AM (Kd.R_below (rX HO141.out) hb)
     have _ := AM (Kd.R_below (rX HO144.out) hb)
     have _ := AM (nB BK110.out hb)
     have _ := AM (nB BK124.out hb)
     have _ := AM (nB BK133.out hb)
     have _ := AM (below_step (bX HB.out) hb)
     clear HO105 HO108 HO115 HO118 HO121 HO129 HO132 HO138 HO141 HO144 BK110 BK124 BK133 HB
     rename_i HO105 HO108 HO115 HO118 HO121 HO129 HO132 HO138 HO141 HO144 BK110 BK124 BK133 HB
     (try clear hb)
     (try clear hk)
     refine hK.out _ _ ⟨(kC BK124.out 0).trans rfl, (kC BK124.out 1).trans rfl, (kC BK124.out 2).trans rfl, (kC BK124.out 3).trans rfl, (kC BK124.out 4).trans rfl, (kC BK124.out 5).trans rfl, (kC BK124.out 6).trans rfl, (kC BK110.out 0).trans rfl, (kC BK110.out 1).trans rfl, (kC BK110.out 2).trans rfl, (kC BK110.out 3).trans rfl, (kC BK133.out 0).trans rfl, (kC BK133.out 1).trans rfl, (kC BK133.out 2).trans rfl, (kC BK133.out 3).trans rfl⟩ (fun hHeld => ?_)
     clear hK K
     refine norm_ (a' := ?_) ?_ ?_
     rotate_left
     ·
      show Act.put _ (some 35) _ = _
      simp only [Act.put, sA, sB, sC, i64_w, i32_w]
      rfl
     refine one_ (i := 10) (N := some 37) (upTo 11 20) rfl rfl (one_of HT_.out (by kernel_rfl)) (by decide) (fun K hK => ?_)
     refine goes_ Try.func9 (by kernel_rfl) rfl #[.agg #[.string t125, .int .i64 t126, .slice Ao27 t127.length co27, .slice Ao28 t130.length co28]] (by rfl) rfl rfl (by (try simp only [mA, mB, mC]); first | done | rfl | (simp only [mD, mE]; rfl)) ?_
     with_reducible refine (spec_TopicEnd.calls kj2 t125 t126 _ _ t127 _ _ t130 t149 _ ?side1 ?side2 ?side3 ?side4 A33.out).mono ?_
     (case side1 => repeat (first | exact (Kd.Q_reads' HO129.out).2.2 | (with_reducible first | apply cA | apply cN | apply cD)))
     (case side2 => exact (Kd.Q_reads' HO129.out).2.1)
     (case side3 => repeat (first | exact (Kd.R_reads' HO132.out).2.2 | (with_reducible first | apply cA | apply cN | apply cD)))
     (case side4 => exact (Kd.R_reads' HO132.out).2.1)
     rintro e w56 ⟨rfl, hb⟩
     refine ⟨_, rfl, ?_⟩
     have _ := AM (Kd.Q_below (qX HO105.out) hb)
     have _ := AM (Kd.R_below (rX HO108.out) hb)
     have _ := AM (Kd.R_below (rX HO115.out) hb)
     have _ := AM (Kd.R_below (rX HO118.out) hb)
     have _ := AM (Kd.R_below (rX HO121.out) hb)
     have _ := AM (Kd.Q_below (qX HO129.out) hb)
     have _ := AM (Kd.R_below (rX HO132.out) hb)
     have _ := AM (Kd.R_below (rX HO138.out) hb)
     have _ := AM (Kd.R_below (rX HO141.out) hb)
     have _ := AM (Kd.R_below (rX HO144.out) hb)
     have _ := AM (nB BK110.out hb)
     have _ := AM (nB BK124.out hb)
     have _ := AM (nB BK133.out hb)
     have _ := AM (below_step (bX HB.out) hb)
     clear HO105 HO108 HO115 HO118 HO121 HO129 HO132 HO138 HO141 HO144 BK110 BK124 BK133 HB
     rename_i HO105 HO108 HO115 HO118 HO121 HO129 HO132 HO138 HO141 HO144 BK110 BK124 BK133 HB
     (try clear hb)
     (try clear hk)
     refine hK.out _ _ ⟨(kC BK124.out 0).trans rfl, (kC BK124.out 1).trans rfl, (kC BK124.out 2).trans rfl, (kC BK124.out 3).trans rfl, (kC BK124.out 4).trans rfl, (kC BK124.out 5).trans rfl, (kC BK124.out 6).trans rfl, (kC BK110.out 0).trans rfl, (kC BK110.out 1).trans rfl, (kC BK110.out 2).trans rfl, (kC BK110.out 3).trans rfl, (kC BK133.out 0).trans rfl, (kC BK133.out 1).trans rfl, (kC BK133.out 2).trans rfl, (kC BK133.out 3).trans rfl⟩ (fun hHeld => ?_)
     clear hK K
     refine norm_ (a' := ?_) ?_ ?_
     rotate_left
     ·
      show Act.put _ (some 37) _ = _
      simp only [Act.put, sA, sB, sC, i64_w, i32_w]
      rfl
     refine pF 11 12 20 38 ?_
     refine pF 12 13 20 39 ?_
     refine pF 13 14 20 40 ?_
     refine pU 14 15 20 41 ?_
     refine pU 15 16 20 42 ?_
     refine pU 16 17 20 43 ?_
     refine pU 17 18 20 44 ?_
     refine pU 18 19 20 45 ?_
     refine pF 19 20 20 46 ?_
     refine done_ (done_of HT_.out (by kernel_rfl)) ?_
     try go_wp2
     go_meet
     case rel => exact ⟨_, (true), (by first | rfl | (simp; done) | (simp [*]; done)), H', ⟨by have := HJ2.out; first | omega | exact Nat.le_refl _⟩, ⟨by (with_reducible repeat (first | apply Kd.Q_alloc | apply Kd.Q_drewN | apply Kd.Q_drew)); exact Kd.Q_mono HO105.out (fun _ hk => ⟨hk.1.1.1, ⟨hk.1.1.2.1, hk.1.1.2.2⟩⟩)⟩, ⟨by (with_reducible repeat (first | apply rA | apply rN | apply rD)); exact Kd.R_mono HO108.out (fun _ hk => ⟨hk.1.1, hk.1.2⟩)⟩, ⟨by (with_reducible repeat (first | apply rA | apply rN | apply rD)); exact Kd.R_mono HO115.out (fun _ hk => ⟨hk.1.1.1, ⟨hk.1.1.2.1, hk.1.1.2.2⟩⟩)⟩, ⟨by (with_reducible repeat (first | apply rA | apply rN | apply rD)); exact Kd.R_mono HO118.out (fun _ hk => ⟨hk.1.1, hk.1.2⟩)⟩, ⟨by (with_reducible repeat (first | apply rA | apply rN | apply rD)); exact Kd.R_mono HO121.out (fun _ hk => ⟨hk.1.1.1, ⟨hk.1.1.2.1, hk.1.1.2.2⟩⟩)⟩, ⟨by (with_reducible repeat (first | apply Kd.Q_alloc | apply Kd.Q_drewN | apply Kd.Q_drew)); exact Kd.Q_mono HO129.out (fun _ hk => ⟨hk.1.1.1, ⟨hk.1.1.2.1, hk.1.1.2.2⟩⟩)⟩, ⟨by (with_reducible repeat (first | apply rA | apply rN | apply rD)); exact Kd.R_mono HO132.out (fun _ hk => ⟨hk.1.1, hk.1.2⟩)⟩, ⟨kX BK110.out⟩, ⟨kX BK124.out⟩, ⟨kX BK133.out⟩, ⟨bX HB.out⟩⟩
    replace c31 := Bool.eq_false_iff.mpr c31
    subst c31
    have H1 : (laws_FnPublish.j1 kj2 t109 true t101 t102 t103 t106 t111 t112 t113 t116 t119 t122 t123) = some r := by rw [if_neg (show ¬ (false = true) by decide)] at H; exact H
    clear H
    have H := H1
    clear H1
    have H' := AM H
    clear H
    try go_wp2
    have n0_ : Aside0 (Kd.Q Kd.string 9 ((((w23.setCell ⟨gb133, 0, none⟩ (.string t125)).setCell ⟨gb133, 1, none⟩ (.int .i64 t126)).setCell ⟨gb133, 2, none⟩ (.slice Ao27 t127.length co27)).setCell ⟨gb133, 3, none⟩ (.slice Ao28 t130.length co28)) w.heap.size (fun k_ => some k_ ≠ (.slice Ao19 t113.length co19 : Value).ownBlock ∧ some k_ ≠ (.slice Ao21 t119.length co21 : Value).ownBlock ∧ some k_ ≠ (.slice Ao27 t127.length co27 : Value).ownBlock) (.slice Ao13 t103.length co13) t103) := ⟨by (with_reducible repeat (first | apply Kd.Q_alloc | apply Kd.Q_drewN | apply Kd.Q_drew)); exact Qf4 HO105.out BK133.out (by decide) (fun _ hk => ⟨hk.1.1.1.2, ⟨hk.1.1.2, hk.1.2⟩⟩)⟩
    have n1_ : Aside0 (Kd.R k36 36 ((((w23.setCell ⟨gb133, 0, none⟩ (.string t125)).setCell ⟨gb133, 1, none⟩ (.int .i64 t126)).setCell ⟨gb133, 2, none⟩ (.slice Ao27 t127.length co27)).setCell ⟨gb133, 3, none⟩ (.slice Ao28 t130.length co28)) w.heap.size (fun k_ => some k_ ≠ (.slice Ao20 t116.length co20 : Value).ownBlock ∧ some k_ ≠ (.slice Ao28 t130.length co28 : Value).ownBlock) (.slice Ao14 t106.length co14) t106) := ⟨by (with_reducible repeat (first | apply rA | apply rN | apply rD)); exact Rf4 HO108.out BK133.out (by decide) (fun _ hk => ⟨hk.1.1.2, hk.1.2⟩)⟩
    have n2_ : Aside0 (Kd.R Kd.string 9 ((((w23.setCell ⟨gb133, 0, none⟩ (.string t125)).setCell ⟨gb133, 1, none⟩ (.int .i64 t126)).setCell ⟨gb133, 2, none⟩ (.slice Ao27 t127.length co27)).setCell ⟨gb133, 3, none⟩ (.slice Ao28 t130.length co28)) w.heap.size (fun k_ => some k_ ≠ (.slice Ao13 t103.length co13 : Value).ownBlock ∧ some k_ ≠ (.slice Ao21 t119.length co21 : Value).ownBlock ∧ some k_ ≠ (.slice Ao27 t127.length co27 : Value).ownBlock) (.slice Ao19 t113.length co19) t113) := ⟨by (with_reducible repeat (first | apply rA | apply rN | apply rD)); exact Rf4 HO115.out BK133.out (by decide) (fun _ hk => ⟨hk.1.1.2, ⟨hk.1.1.1, hk.1.2⟩⟩)⟩
    have n3_ : Aside0 (Kd.R k36 36 ((((w23.setCell ⟨gb133, 0, none⟩ (.string t125)).setCell ⟨gb133, 1, none⟩ (.int .i64 t126)).setCell ⟨gb133, 2, none⟩ (.slice Ao27 t127.length co27)).setCell ⟨gb133, 3, none⟩ (.slice Ao28 t130.length co28)) w.heap.size (fun k_ => some k_ ≠ (.slice Ao14 t106.length co14 : Value).ownBlock ∧ some k_ ≠ (.slice Ao28 t130.length co28 : Value).ownBlock) (.slice Ao20 t116.length co20) t116) := ⟨by (with_reducible repeat (first | apply rA | apply rN | apply rD)); exact Rf4 HO118.out BK133.out (by decide) (fun _ hk => ⟨hk.1.1.2, hk.1.2⟩)⟩
    have n4_ : Aside0 (Kd.R Kd.string 9 ((((w23.setCell ⟨gb133, 0, none⟩ (.string t125)).setCell ⟨gb133, 1, none⟩ (.int .i64 t126)).setCell ⟨gb133, 2, none⟩ (.slice Ao27 t127.length co27)).setCell ⟨gb133, 3, none⟩ (.slice Ao28 t130.length co28)) w.heap.size (fun k_ => some k_ ≠ (.slice Ao13 t103.length co13 : Value).ownBlock ∧ some k_ ≠ (.slice Ao19 t113.length co19 : Value).ownBlock ∧ some k_ ≠ (.slice Ao27 t127.length co27 : Value).ownBlock) (.slice Ao21 t119.length co21) t119) := ⟨by (with_reducible repeat (first | apply rA | apply rN | apply rD)); exact Rf4 HO121.out BK133.out (by decide) (fun _ hk => ⟨hk.1.1.2, ⟨hk.1.1.1, hk.1.2⟩⟩)⟩
    have n5_ : Aside0 (Kd.Q Kd.string 9 ((((w23.setCell ⟨gb133, 0, none⟩ (.string t125)).setCell ⟨gb133, 1, none⟩ (.int .i64 t126)).setCell ⟨gb133, 2, none⟩ (.slice Ao27 t127.length co27)).setCell ⟨gb133, 3, none⟩ (.slice Ao28 t130.length co28)) w.heap.size (fun k_ => some k_ ≠ (.slice Ao13 t103.length co13 : Value).ownBlock ∧ some k_ ≠ (.slice Ao19 t113.length co19 : Value).ownBlock ∧ some k_ ≠ (.slice Ao21 t119.length co21 : Value).ownBlock) (.slice Ao27 t127.length co27) t127) := ⟨by (with_reducible repeat (first | apply Kd.Q_alloc | apply Kd.Q_drewN | apply Kd.Q_drew)); exact Qf4 HO129.out BK133.out (by decide) (fun _ hk => ⟨hk.1.1.1.2, ⟨hk.1.1.2, hk.1.2⟩⟩)⟩
    have n6_ : Aside0 (Kd.R k36 36 ((((w23.setCell ⟨gb133, 0, none⟩ (.string t125)).setCell ⟨gb133, 1, none⟩ (.int .i64 t126)).setCell ⟨gb133, 2, none⟩ (.slice Ao27 t127.length co27)).setCell ⟨gb133, 3, none⟩ (.slice Ao28 t130.length co28)) w.heap.size (fun k_ => some k_ ≠ (.slice Ao14 t106.length co14 : Value).ownBlock ∧ some k_ ≠ (.slice Ao20 t116.length co20 : Value).ownBlock) (.slice Ao28 t130.length co28) t130) := ⟨by (with_reducible repeat (first | apply rA | apply rN | apply rD)); exact Rf4 HO132.out BK133.out (by decide) (fun _ hk => ⟨hk.1.1.2, hk.1.2⟩)⟩
    have n7_ : Aside0 (((((w23.setCell ⟨gb133, 0, none⟩ (.string t125)).setCell ⟨gb133, 1, none⟩ (.int .i64 t126)).setCell ⟨gb133, 2, none⟩ (.slice Ao27 t127.length co27)).setCell ⟨gb133, 3, none⟩ (.slice Ao28 t130.length co28)).heap[gb110]? = some (.cells #[.string t101, .int .i64 t102, .slice Ao13 t103.length co13, .slice Ao14 t106.length co14] 26 (0, 0))) := ⟨by (iterate 4 refine kF NB110_133.out ?_); (with_reducible repeat (first | apply kN | apply kD | apply kA)); exact BK110.out⟩
    have n8_ : Aside0 (((((w23.setCell ⟨gb133, 0, none⟩ (.string t125)).setCell ⟨gb133, 1, none⟩ (.int .i64 t126)).setCell ⟨gb133, 2, none⟩ (.slice Ao27 t127.length co27)).setCell ⟨gb133, 3, none⟩ (.slice Ao28 t130.length co28)).heap[gb124]? = some (.cells #[.string t111, .int .i64 t112, .slice Ao19 t113.length co19, .slice Ao20 t116.length co20, .slice Ao21 t119.length co21, .int .i64 t122, .int .i64 t123] 30 (0, 0))) := ⟨by (iterate 4 refine kF NB124_133.out ?_); (with_reducible repeat (first | apply kN | apply kD | apply kA)); exact BK124.out⟩
    have n9_ : Aside0 (((((w23.setCell ⟨gb133, 0, none⟩ (.string t125)).setCell ⟨gb133, 1, none⟩ (.int .i64 t126)).setCell ⟨gb133, 2, none⟩ (.slice Ao27 t127.length co27)).setCell ⟨gb133, 3, none⟩ (.slice Ao28 t130.length co28)).heap[gb133]? = some (.cells #[.string t125, .int .i64 t126, .slice Ao27 t127.length co27, .slice Ao28 t130.length co28] 26 (0, 0))) := ⟨by refine kP (cs := #[.string t125, .int .i64 t126, .slice Ao27 t127.length co27, .slice none 0 0]) 3 ?_; refine kP (cs := #[.string t125, .int .i64 t126, .slice none 0 0, .slice none 0 0]) 2 ?_; refine kP (cs := #[.string t125, .int .i64 0, .slice none 0 0, .slice none 0 0]) 1 ?_; refine kP (cs := #[.string (⟨#[]⟩ : ByteArray), .int .i64 0, .slice none 0 0, .slice none 0 0]) 0 ?_; (with_reducible repeat (first | apply kN | apply kD | apply kA)); exact BK133.out⟩
    have n10_ : Aside0 (Below w.heap.size w ((((w23.setCell ⟨gb133, 0, none⟩ (.string t125)).setCell ⟨gb133, 1, none⟩ (.int .i64 t126)).setCell ⟨gb133, 2, none⟩ (.slice Ao27 t127.length co27)).setCell ⟨gb133, 3, none⟩ (.slice Ao28 t130.length co28))) := ⟨bX HB.out⟩
    (try clear HO105)
    (try clear HO108)
    (try clear HO115)
    (try clear HO118)
    (try clear HO121)
    (try clear HO129)
    (try clear HO132)
    (try clear BK110)
    (try clear BK124)
    (try clear BK133)
    (try clear HB)
    generalize ((((w23.setCell ⟨gb133, 0, none⟩ (.string t125)).setCell ⟨gb133, 1, none⟩ (.int .i64 t126)).setCell ⟨gb133, 2, none⟩ (.slice Ao27 t127.length co27)).setCell ⟨gb133, 3, none⟩ (.slice Ao28 t130.length co28)) = w57 at n0_ n1_ n2_ n3_ n4_ n5_ n6_ n7_ n8_ n9_ n10_ ⊢
    have HO105 := n0_
    have HO108 := n1_
    have HO115 := n2_
    have HO118 := n3_
    have HO121 := n4_
    have HO129 := n5_
    have HO132 := n6_
    have BK110 := n7_
    have BK124 := n8_
    have BK133 := n9_
    have HB := n10_
    clear n0_ n1_ n2_ n3_ n4_ n5_ n6_ n7_ n8_ n9_ n10_
    have _ := AM (Kd.Q_drew HO105.out)
    have _ := AM (rD HO108.out)
    have _ := AM (rD HO115.out)
    have _ := AM (rD HO118.out)
    have _ := AM (rD HO121.out)
    have _ := AM (Kd.Q_drew HO129.out)
    have _ := AM (rD HO132.out)
    have _ := AM (kD BK110.out)
    have _ := AM (kD BK124.out)
    have _ := AM (kD BK133.out)
    have _ := AM (bD HB.out)
    clear HO105 HO108 HO115 HO118 HO121 HO129 HO132 BK110 BK124 BK133 HB
    rename_i HO105 HO108 HO115 HO118 HO121 HO129 HO132 BK110 BK124 BK133 HB
    refine start_ (n := 20) (S := fun w' => w'.cell? ⟨gb124, 0, none⟩ = some (.string t111) ∧ w'.cell? ⟨gb124, 1, none⟩ = some (.int .i64 t112) ∧ w'.cell? ⟨gb124, 2, none⟩ = some (.slice Ao19 t113.length co19) ∧ w'.cell? ⟨gb124, 3, none⟩ = some (.slice Ao20 t116.length co20) ∧ w'.cell? ⟨gb124, 4, none⟩ = some (.slice Ao21 t119.length co21) ∧ w'.cell? ⟨gb124, 5, none⟩ = some (.int .i64 t122) ∧ w'.cell? ⟨gb124, 6, none⟩ = some (.int .i64 t123) ∧ w'.cell? ⟨gb110, 0, none⟩ = some (.string t101) ∧ w'.cell? ⟨gb110, 1, none⟩ = some (.int .i64 t102) ∧ w'.cell? ⟨gb110, 2, none⟩ = some (.slice Ao13 t103.length co13) ∧ w'.cell? ⟨gb110, 3, none⟩ = some (.slice Ao14 t106.length co14)) (ds := []) (upTo 0 20) (by kernel_rfl) rfl rfl ⟨(kC BK124.out 0).trans rfl, (kC BK124.out 1).trans rfl, (kC BK124.out 2).trans rfl, (kC BK124.out 3).trans rfl, (kC BK124.out 4).trans rfl, (kC BK124.out 5).trans rfl, (kC BK124.out 6).trans rfl, (kC BK110.out 0).trans rfl, (kC BK110.out 1).trans rfl, (kC BK110.out 2).trans rfl, (kC BK110.out 3).trans rfl⟩ (fun hHeld => ?_); refine with_tabW laws_FnPublish.tab6 laws_FnPublish.bits6 (fun HT_ HW_ => ?_)
    generalize w57.drew = w58 at HO105 HO108 HO115 HO118 HO121 HO129 HO132 BK110 BK124 BK133 HB hHeld ⊢
    refine pF2 2 29 laws_FnPublish.b0 ?_
    refine pT2 0 27 laws_FnPublish.b1 ?_ hHeld
    refine pT2 1 28 (upTo 3 20) ?_ hHeld
    refine one_ (i := 3) (N := some 30) (upTo 4 20) rfl rfl (one_of HT_.out (by kernel_rfl)) (by decide) (fun K hK => ?_)
    refine goes_ Try.func14 (by kernel_rfl) rfl #[.agg #[.string t101, .int .i64 t102, .slice Ao13 t103.length co13, .slice Ao14 t106.length co14], .string t109] (by rfl) rfl rfl (by (try simp only [mA, mB, mC]); first | done | rfl | (simp only [mD, mE]; rfl)) ?_
    with_reducible refine (spec_TopicPublish.calls kj2 t101 t102 _ _ t103 _ _ t106 t109 t134 t135 t136 t139 t142 t145 t146 _ ?side1 ?side2 ?side3 ?side4 A29.out).mono ?_
    (case side1 => repeat (first | exact (Kd.Q_reads' HO105.out).2.2 | (with_reducible first | apply cA | apply cN | apply cD)))
    (case side2 => exact (Kd.Q_reads' HO105.out).2.1)
    (case side3 => repeat (first | exact (Kd.R_reads' HO108.out).2.2 | (with_reducible first | apply cA | apply cN | apply cD)))
    (case side4 => exact (Kd.R_reads' HO108.out).2.1)
    rintro e w59 ⟨v137, v140, v143, rfl, ho0, ho1, ho2, hb⟩
    refine ⟨_, rfl, ?_⟩
    have _ := AM (Kd.Q_mono (Kd.Q_told (Kd.Q_told (Kd.Q_old (qX HO105.out) hb) (Kd.R_base ho0)) (Kd.R_base ho2)) (fun _ h_ => h_.1))
    have _ := AM (Kd.R_elder' (rX HO108.out) (Kd.R_base ho1) hb)
    have _ := AM (Kd.R_mono (Kd.R_told (Kd.R_told (Kd.R_old (rX HO115.out) hb) (Kd.R_base ho0)) (Kd.R_base ho2)) (fun _ h_ => h_.1))
    have _ := AM (Kd.R_elder' (rX HO118.out) (Kd.R_base ho1) hb)
    have _ := AM (Kd.R_mono (Kd.R_told (Kd.R_told (Kd.R_old (rX HO121.out) hb) (Kd.R_base ho0)) (Kd.R_base ho2)) (fun _ h_ => h_.1))
    have _ := AM (Kd.Q_mono (Kd.Q_told (Kd.Q_told (Kd.Q_old (qX HO129.out) hb) (Kd.R_base ho0)) (Kd.R_base ho2)) (fun _ h_ => h_.1))
    have _ := AM (Kd.R_elder' (rX HO132.out) (Kd.R_base ho1) hb)
    have _ := AM (Kd.R_lower (Kd.R_new' (Kd.R_new' (Kd.R_new' (Kd.R_new' ho0 (Kd.Q_lt (qX HO105.out))) (Kd.R_lt (rX HO115.out))) (Kd.R_lt (rX HO121.out))) (Kd.Q_lt (qX HO129.out))) (bZ (bX HB.out)))
    have _ := AM (Kd.R_lower (Kd.R_new' (Kd.R_new' (Kd.R_new' ho1 (Kd.R_lt (rX HO108.out))) (Kd.R_lt (rX HO118.out))) (Kd.R_lt (rX HO132.out))) (bZ (bX HB.out)))
    have _ := AM (Kd.R_lower (Kd.R_new' (Kd.R_new' (Kd.R_new' (Kd.R_new' ho2 (Kd.Q_lt (qX HO105.out))) (Kd.R_lt (rX HO115.out))) (Kd.R_lt (rX HO121.out))) (Kd.Q_lt (qX HO129.out))) (bZ (bX HB.out)))
    have _ := AM (nB BK110.out hb)
    have _ := AM (nB BK124.out hb)
    have _ := AM (nB BK133.out hb)
    have _ := AM (below_step (bX HB.out) hb)
    clear HO105 HO108 HO115 HO118 HO121 HO129 HO132 BK110 BK124 BK133 HB
    rename_i HO105 HO108 HO115 HO118 HO121 HO129 HO132 HO138 HO141 HO144 BK110 BK124 BK133 HB
    (try clear hb)
    (try clear hk)
    (try clear ho0)
    (try clear ho1)
    (try clear ho2)
    obtain ⟨Ao60, co60, eo60⟩ := Kd.R_slice HO138.out
    (first | subst eo60 | (injection eo60 with f1_ f2_ f3_; have f4_ := f1_.symm; have f5_ := f3_.symm; clear f1_ f2_ f3_; subst f4_; subst f5_))
    obtain ⟨Ao61, co61, eo61⟩ := Kd.R_slice HO141.out
    (first | subst eo61 | (injection eo61 with f1_ f2_ f3_; have f4_ := f1_.symm; have f5_ := f3_.symm; clear f1_ f2_ f3_; subst f4_; subst f5_))
    obtain ⟨Ao62, co62, eo62⟩ := Kd.R_slice HO144.out
    (first | subst eo62 | (injection eo62 with f1_ f2_ f3_; have f4_ := f1_.symm; have f5_ := f3_.symm; clear f1_ f2_ f3_; subst f4_; subst f5_))
    refine hK.out _ _ ⟨(kC BK124.out 0).trans rfl, (kC BK124.out 1).trans rfl, (kC BK124.out 2).trans rfl, (kC BK124.out 3).trans rfl, (kC BK124.out 4).trans rfl, (kC BK124.out 5).trans rfl, (kC BK124.out 6).trans rfl, (kC BK110.out 0).trans rfl, (kC BK110.out 1).trans rfl, (kC BK110.out 2).trans rfl, (kC BK110.out 3).trans rfl⟩ (fun hHeld => ?_)
    clear hK K
    refine norm_ (a' := ?_) ?_ ?_
    rotate_left
    ·
     show Act.put _ (some 30) _ = _
     simp only [Act.put, sA, sB, sC, i64_w, i32_w]
     rfl
    refine one_ (i := 4) (N := some 31) (upTo 5 20) rfl rfl (one_of HT_.out (by kernel_rfl)) (by decide) (fun K hK => ?_)
    refine goes_ Try.func7 (by kernel_rfl) rfl #[.agg #[.string t111, .int .i64 t112, .slice Ao19 t113.length co19, .slice Ao20 t116.length co20, .slice Ao21 t119.length co21, .int .i64 t122, .int .i64 t123], .agg #[.string t134, .int .i64 t135, .slice Ao60 t136.length co60, .slice Ao61 t139.length co61, .slice Ao62 t142.length co62, .int .i64 t145, .int .i64 t146]] (by rfl) rfl rfl (by (try simp only [mA, mB, mC]); first | done | rfl | (simp only [mD, mE]; rfl)) ?_
    with_reducible refine (laws_lwTopics.calls kj2 t111 t112 _ _ t113 _ _ t116 _ _ t119 t122 t123 t134 t135 _ _ t136 _ _ t139 _ _ t142 t145 t146 false _ ?side1 ?side2 ?side3 ?side4 ?side5 ?side6 ?side7 ?side8 ?side9 ?side10 ?side11 ?side12 A30.out).mono ?_
    (case side1 => repeat (first | exact (Kd.R_reads' HO115.out).2.2 | (with_reducible first | apply cA | apply cN | apply cD)))
    (case side2 => exact (Kd.R_reads' HO115.out).2.1)
    (case side3 => repeat (first | exact (Kd.R_reads' HO118.out).2.2 | (with_reducible first | apply cA | apply cN | apply cD)))
    (case side4 => exact (Kd.R_reads' HO118.out).2.1)
    (case side5 => repeat (first | exact (Kd.R_reads' HO121.out).2.2 | (with_reducible first | apply cA | apply cN | apply cD)))
    (case side6 => exact (Kd.R_reads' HO121.out).2.1)
    (case side7 => repeat (first | exact (Kd.R_reads' HO138.out).2.2 | (with_reducible first | apply cA | apply cN | apply cD)))
    (case side8 => exact (Kd.R_reads' HO138.out).2.1)
    (case side9 => repeat (first | exact (Kd.R_reads' HO141.out).2.2 | (with_reducible first | apply cA | apply cN | apply cD)))
    (case side10 => exact (Kd.R_reads' HO141.out).2.1)
    (case side11 => repeat (first | exact (Kd.R_reads' HO144.out).2.2 | (with_reducible first | apply cA | apply cN | apply cD)))
    (case side12 => exact (Kd.R_reads' HO144.out).2.1)
    rintro e w63 ⟨rfl, hb⟩
    refine ⟨_, rfl, ?_⟩
    have _ := AM (Kd.Q_below (qX HO105.out) hb)
    have _ := AM (Kd.R_below (rX HO108.out) hb)
    have _ := AM (Kd.R_below (rX HO115.out) hb)
    have _ := AM (Kd.R_below (rX HO118.out) hb)
    have _ := AM (Kd.R_below (rX HO121.out) hb)
    have _ := AM (Kd.Q_below (qX HO129.out) hb)
    have _ := AM (Kd.R_below (rX HO132.out) hb)
    have _ := AM (Kd.R_below (rX HO138.out) hb)
    have _ := AM (Kd.R_below (rX HO141.out) hb)
    have _ := AM (Kd.R_below (rX HO144.out) hb)
    have _ := AM (nB BK110.out hb)
    have _ := AM (nB BK124.out hb)
    have _ := AM (nB BK133.out hb)
    have _ := AM (below_step (bX HB.out) hb)
    clear HO105 HO108 HO115 HO118 HO121 HO129 HO132 HO138 HO141 HO144 BK110 BK124 BK133 HB
    rename_i HO105 HO108 HO115 HO118 HO121 HO129 HO132 HO138 HO141 HO144 BK110 BK124 BK133 HB
    (try clear hb)
    (try clear hk)
    refine hK.out _ _ ⟨(kC BK124.out 0).trans rfl, (kC BK124.out 1).trans rfl, (kC BK124.out 2).trans rfl, (kC BK124.out 3).trans rfl, (kC BK124.out 4).trans rfl, (kC BK124.out 5).trans rfl, (kC BK124.out 6).trans rfl, (kC BK110.out 0).trans rfl, (kC BK110.out 1).trans rfl, (kC BK110.out 2).trans rfl, (kC BK110.out 3).trans rfl⟩ (fun hHeld => ?_)
    clear hK K
    refine norm_ (a' := ?_) ?_ ?_
    rotate_left
    ·
     show Act.put _ (some 31) _ = _
     simp only [Act.put, sA, sB, sC, i64_w, i32_w]
     rfl
    refine pF 5 6 20 32 ?_
    refine pF 6 7 20 33 ?_
    refine pU 7 8 20 34 ?_
    refine pU 8 9 20 35 ?_
    refine pU 9 10 20 36 ?_
    refine pU 10 11 20 37 ?_
    refine pU 11 12 20 38 ?_
    refine pF 12 13 20 39 ?_
    refine pF 13 14 20 40 ?_
    refine pU 14 15 20 41 ?_
    refine pU 15 16 20 42 ?_
    refine pU 16 17 20 43 ?_
    refine pU 17 18 20 44 ?_
    refine pU 18 19 20 45 ?_
    refine pF 19 20 20 46 ?_
    refine done_ (done_of HT_.out (by kernel_rfl)) ?_
    try go_wp2
    go_meet
    case rel => exact ⟨_, (true), (by first | rfl | (simp; done) | (simp [*]; done)), H', ⟨by have := HJ2.out; first | omega | exact Nat.le_refl _⟩, ⟨by (with_reducible repeat (first | apply Kd.Q_alloc | apply Kd.Q_drewN | apply Kd.Q_drew)); exact Kd.Q_mono HO105.out (fun _ hk => ⟨hk.1.1.1, ⟨hk.1.1.2.1, hk.1.1.2.2⟩⟩)⟩, ⟨by (with_reducible repeat (first | apply rA | apply rN | apply rD)); exact Kd.R_mono HO108.out (fun _ hk => ⟨hk.1.1, hk.1.2⟩)⟩, ⟨by (with_reducible repeat (first | apply rA | apply rN | apply rD)); exact Kd.R_mono HO115.out (fun _ hk => ⟨hk.1.1.1, ⟨hk.1.1.2.1, hk.1.1.2.2⟩⟩)⟩, ⟨by (with_reducible repeat (first | apply rA | apply rN | apply rD)); exact Kd.R_mono HO118.out (fun _ hk => ⟨hk.1.1, hk.1.2⟩)⟩, ⟨by (with_reducible repeat (first | apply rA | apply rN | apply rD)); exact Kd.R_mono HO121.out (fun _ hk => ⟨hk.1.1.1, ⟨hk.1.1.2.1, hk.1.1.2.2⟩⟩)⟩, ⟨by (with_reducible repeat (first | apply Kd.Q_alloc | apply Kd.Q_drewN | apply Kd.Q_drew)); exact Kd.Q_mono HO129.out (fun _ hk => ⟨hk.1.1.1, ⟨hk.1.1.2.1, hk.1.1.2.2⟩⟩)⟩, ⟨by (with_reducible repeat (first | apply rA | apply rN | apply rD)); exact Kd.R_mono HO132.out (fun _ hk => ⟨hk.1.1, hk.1.2⟩)⟩, ⟨kX BK110.out⟩, ⟨kX BK124.out⟩, ⟨kX BK133.out⟩, ⟨bX HB.out⟩⟩
   case rest =>
    clear HC9
    (try clear c1); (try clear p2); (try clear c3); (try clear c7); (try clear c9); (try clear c14); (try clear c15); (try clear c31)
    obtain ⟨kq, x46_8, rfl, HA, HJ8, HO_111002, HO_111003, HO_125002, HO_125003, HO_125004, HO_134002, HO_134003, BK110, BK124, BK133, HB⟩ := hcut
    cases kq with
    | zero => exact absurd HA.out (by simp [laws_FnPublish.j1])
    | succ kj8 =>
     have H := HA.out
     clear HA
     simp only [laws_FnPublish.j1] at H
     by_cases c64 : x46_8 = true
     ·
      subst c64
      have H1 : (none) = some r := by rw [if_pos rfl] at H; exact H
      clear H
      have H := H1
      clear H1
      exact absurd H (by simp)
     replace c64 := Bool.eq_false_iff.mpr c64
     subst c64
     have H1 : (if t123 = 0 then ((spec_TopicEnd.f kj8 t101 t102 t103 t106).bind fun t152 => (if t122 = t152 then ((some (([] : List ByteArray) : List ByteArray)).bind fun y153 => (if y153.length + t103.length < 8796093022208 then ((some (y153 ++ t103 : List ByteArray)).bind fun y156 => ((some (([t109] : List ByteArray) : List ByteArray)).bind fun y159 => (if y156.length + y159.length < 8796093022208 then ((laws_lwTexts.f kj8 t113 (y156 ++ y159)).bind fun t165 => (if t165 = true then ((laws_lwGroups.f kj8 t116 t106).bind fun t166 => (if t166 = true then (some (t112 == t102)) else (none))) else (none))) else (none)))) else (none))) else (none))) else (some true)) = some r := by rw [if_neg (show ¬ (false = true) by decide)] at H; exact H
     clear H
     have H := H1
     clear H1
     by_cases c65 : t123 = 0
     ·
      rw [if_pos c65] at H
      have c65b0 : (t123 == 0) = true := beq_iff_eq.mpr c65
      have c65b1 : (t123 != 0) = false := bne_eq_false_iff_eq.mpr c65
      clear c65
      replace H := Option.bind_eq_some_iff.mp H
      obtain ⟨t152, A660, H⟩ := H
      replace H : (if t122 = t152 then ((some (([] : List ByteArray) : List ByteArray)).bind fun y153 => (if y153.length + t103.length < 8796093022208 then ((some (y153 ++ t103 : List ByteArray)).bind fun y156 => ((some (([t109] : List ByteArray) : List ByteArray)).bind fun y159 => (if y156.length + y159.length < 8796093022208 then ((laws_lwTexts.f kj8 t113 (y156 ++ y159)).bind fun t165 => (if t165 = true then ((laws_lwGroups.f kj8 t116 t106).bind fun t166 => (if t166 = true then (some (t112 == t102)) else (none))) else (none))) else (none)))) else (none))) else (none)) = some r := H
      have A66 := AM A660
      clear A660
      by_cases c67 : t122 = t152
      ·
       rw [if_pos c67] at H
       have c67b0 : (t122 == t152) = true := beq_iff_eq.mpr c67
       have c67b1 : (t122 != t152) = false := bne_eq_false_iff_eq.mpr c67
       clear c67
       obtain ⟨y153, hy153⟩ : ∃ y_ : List ByteArray, y_ = (([] : List ByteArray)) := ⟨_, rfl⟩
       replace H : (if y153.length + t103.length < 8796093022208 then ((some (y153 ++ t103 : List ByteArray)).bind fun y156 => ((some (([t109] : List ByteArray) : List ByteArray)).bind fun y159 => (if y156.length + y159.length < 8796093022208 then ((laws_lwTexts.f kj8 t113 (y156 ++ y159)).bind fun t165 => (if t165 = true then ((laws_lwGroups.f kj8 t116 t106).bind fun t166 => (if t166 = true then (some (t112 == t102)) else (none))) else (none))) else (none)))) else (none)) = some r := by first | (rw [hy153]; with_reducible exact H) | (have H2_ := (Option.bind_some _ _).symm.trans H; rw [hy153]; with_reducible exact H2_) | (have H2_ := (Option.bind_some _ _).symm.trans H; with_reducible exact H2_) | with_reducible exact H | (rw [hy153]; exact H) | exact H
       have Ny153 := AM hy153
       clear hy153
       by_cases c68 : y153.length + t103.length < 8796093022208
       ·
        rw [if_pos c68] at H
        have LMc68 := AM c68
        clear c68
        obtain ⟨y156, hy156⟩ : ∃ y_ : List ByteArray, y_ = (y153 ++ t103) := ⟨_, rfl⟩
        replace H : ((some (([t109] : List ByteArray) : List ByteArray)).bind fun y159 => (if y156.length + y159.length < 8796093022208 then ((laws_lwTexts.f kj8 t113 (y156 ++ y159)).bind fun t165 => (if t165 = true then ((laws_lwGroups.f kj8 t116 t106).bind fun t166 => (if t166 = true then (some (t112 == t102)) else (none))) else (none))) else (none))) = some r := by first | (rw [hy156]; with_reducible exact H) | (have H2_ := (Option.bind_some _ _).symm.trans H; rw [hy156]; with_reducible exact H2_) | (have H2_ := (Option.bind_some _ _).symm.trans H; with_reducible exact H2_) | with_reducible exact H | (rw [hy156]; exact H) | exact H
        have Ny156 := AM hy156
        clear hy156
        obtain ⟨y159, hy159⟩ : ∃ y_ : List ByteArray, y_ = (([t109] : List ByteArray)) := ⟨_, rfl⟩
        replace H : (if y156.length + y159.length < 8796093022208 then ((laws_lwTexts.f kj8 t113 (y156 ++ y159)).bind fun t165 => (if t165 = true then ((laws_lwGroups.f kj8 t116 t106).bind fun t166 => (if t166 = true then (some (t112 == t102)) else (none))) else (none))) else (none)) = some r := by first | (rw [hy159]; with_reducible exact H) | (have H2_ := (Option.bind_some _ _).symm.trans H; rw [hy159]; with_reducible exact H2_) | (have H2_ := (Option.bind_some _ _).symm.trans H; with_reducible exact H2_) | with_reducible exact H | (rw [hy159]; exact H) | exact H
        have Ny159 := AM hy159
        clear hy159
        by_cases c69 : y156.length + y159.length < 8796093022208
        ·
         rw [if_pos c69] at H
         have LMc69 := AM c69
         clear c69
         obtain ⟨y162, hy162⟩ : ∃ y_ : List ByteArray, y_ = (y156 ++ y159) := ⟨_, rfl⟩
         replace H : ((laws_lwTexts.f kj8 t113 y162).bind fun t165 => (if t165 = true then ((laws_lwGroups.f kj8 t116 t106).bind fun t166 => (if t166 = true then (some (t112 == t102)) else (none))) else (none))) = some r := by first | (rw [hy162]; with_reducible exact H) | (have H2_ := (Option.bind_some _ _).symm.trans H; rw [hy162]; with_reducible exact H2_) | (have H2_ := (Option.bind_some _ _).symm.trans H; with_reducible exact H2_) | with_reducible exact H | (rw [hy162]; exact H) | exact H
         have Ny162 := AM hy162
         clear hy162
         replace H := Option.bind_eq_some_iff.mp H
         obtain ⟨t165, A700, H⟩ := H
         replace H : (if t165 = true then ((laws_lwGroups.f kj8 t116 t106).bind fun t166 => (if t166 = true then (some (t112 == t102)) else (none))) else (none)) = some r := H
         have A70 := AM A700
         clear A700
         by_cases c71 : t165 = true
         ·
          subst c71
          have H1 : ((laws_lwGroups.f kj8 t116 t106).bind fun t166 => (if t166 = true then (some (t112 == t102)) else (none))) = some r := by rw [if_pos rfl] at H; exact H
          clear H
          have H := H1
          clear H1
          replace H := Option.bind_eq_some_iff.mp H
          obtain ⟨t166, A720, H⟩ := H
          replace H : (if t166 = true then (some (t112 == t102)) else (none)) = some r := H
          have A72 := AM A720
          clear A720
          by_cases c73 : t166 = true
          ·
           subst c73
           have H1 : (some (t112 == t102)) = some r := by rw [if_pos rfl] at H; exact H
           clear H
           have H := H1
           clear H1
           obtain rfl := Option.some.inj H
           try go_wp2
           have _ := AM (Kd.Q_drew HO_111002.out)
           have _ := AM (rD HO_111003.out)
           have _ := AM (rD HO_125002.out)
           have _ := AM (rD HO_125003.out)
           have _ := AM (rD HO_125004.out)
           have _ := AM (Kd.Q_drew HO_134002.out)
           have _ := AM (rD HO_134003.out)
           have _ := AM (kD BK110.out)
           have _ := AM (kD BK124.out)
           have _ := AM (kD BK133.out)
           have _ := AM (bD HB.out)
           clear HO_111002 HO_111003 HO_125002 HO_125003 HO_125004 HO_134002 HO_134003 BK110 BK124 BK133 HB
           rename_i HO_111002 HO_111003 HO_125002 HO_125003 HO_125004 HO_134002 HO_134003 BK110 BK124 BK133 HB
           refine start_ (n := 40) (S := fun w' => w'.cell? ⟨gb124, 0, none⟩ = some (.string t111) ∧ w'.cell? ⟨gb124, 1, none⟩ = some (.int .i64 t112) ∧ w'.cell? ⟨gb124, 2, none⟩ = some (.slice Ao19 t113.length co19) ∧ w'.cell? ⟨gb124, 3, none⟩ = some (.slice Ao20 t116.length co20) ∧ w'.cell? ⟨gb124, 4, none⟩ = some (.slice Ao21 t119.length co21) ∧ w'.cell? ⟨gb124, 5, none⟩ = some (.int .i64 t122) ∧ w'.cell? ⟨gb124, 6, none⟩ = some (.int .i64 t123) ∧ w'.cell? ⟨gb110, 0, none⟩ = some (.string t101) ∧ w'.cell? ⟨gb110, 1, none⟩ = some (.int .i64 t102) ∧ w'.cell? ⟨gb110, 2, none⟩ = some (.slice Ao13 t103.length co13) ∧ w'.cell? ⟨gb110, 3, none⟩ = some (.slice Ao14 t106.length co14)) (ds := []) (upTo 0 40) (by kernel_rfl) rfl rfl ⟨(kC BK124.out 0).trans rfl, (kC BK124.out 1).trans rfl, (kC BK124.out 2).trans rfl, (kC BK124.out 3).trans rfl, (kC BK124.out 4).trans rfl, (kC BK124.out 5).trans rfl, (kC BK124.out 6).trans rfl, (kC BK110.out 0).trans rfl, (kC BK110.out 1).trans rfl, (kC BK110.out 2).trans rfl, (kC BK110.out 3).trans rfl⟩ (fun hHeld => ?_); refine with_tabW laws_FnPublish.tab8 laws_FnPublish.bits8 (fun HT_ HW_ => ?_)
           generalize wc.drew = w74 at HO_111002 HO_111003 HO_125002 HO_125003 HO_125004 HO_134002 HO_134003 BK110 BK124 BK133 HB hHeld ⊢
           refine pF 0 1 40 47 ?_
           refine pT2 1 48 (upTo 2 40) ?_ hHeld
           refine pF 2 3 40 49 ?_
           refine pF 3 4 40 50 ?_
           refine pF 4 5 40 51 ?_
           refine pT2 5 52 (upTo 6 40) ?_ hHeld
           refine pT2 6 53 (upTo 7 40) ?_ hHeld
           refine one_ (i := 7) (N := some 54) (upTo 8 40) rfl rfl (one_of HT_.out (by kernel_rfl)) (by decide) (fun K hK => ?_)
           refine goes_ Try.func9 (by kernel_rfl) rfl #[.agg #[.string t101, .int .i64 t102, .slice Ao13 t103.length co13, .slice Ao14 t106.length co14]] (by rfl) rfl rfl (by (try simp only [mA, mB, mC]); first | done | rfl | (simp only [mD, mE]; rfl)) ?_
           with_reducible refine (spec_TopicEnd.calls kj8 t101 t102 _ _ t103 _ _ t106 t152 _ ?side1 ?side2 ?side3 ?side4 A66.out).mono ?_
           (case side1 => repeat (first | exact (Kd.Q_reads' HO_111002.out).2.2 | (with_reducible first | apply cA | apply cN | apply cD)))
           (case side2 => exact (Kd.Q_reads' HO_111002.out).2.1)
           (case side3 => repeat (first | exact (Kd.R_reads' HO_111003.out).2.2 | (with_reducible first | apply cA | apply cN | apply cD)))
           (case side4 => exact (Kd.R_reads' HO_111003.out).2.1)
           rintro e w75 ⟨rfl, hb⟩
           refine ⟨_, rfl, ?_⟩
           have _ := AM (Kd.Q_below (qX HO_111002.out) hb)
           have _ := AM (Kd.R_below (rX HO_111003.out) hb)
           have _ := AM (Kd.R_below (rX HO_125002.out) hb)
           have _ := AM (Kd.R_below (rX HO_125003.out) hb)
           have _ := AM (Kd.R_below (rX HO_125004.out) hb)
           have _ := AM (Kd.Q_below (qX HO_134002.out) hb)
           have _ := AM (Kd.R_below (rX HO_134003.out) hb)
           have _ := AM (nB BK110.out hb)
           have _ := AM (nB BK124.out hb)
           have _ := AM (nB BK133.out hb)
           have _ := AM (below_step (bX HB.out) hb)
           clear HO_111002 HO_111003 HO_125002 HO_125003 HO_125004 HO_134002 HO_134003 BK110 BK124 BK133 HB
           rename_i HO_111002 HO_111003 HO_125002 HO_125003 HO_125004 HO_134002 HO_134003 BK110 BK124 BK133 HB
           (try clear hb)
           (try clear hk)
           refine hK.out _ _ ⟨(kC BK124.out 0).trans rfl, (kC BK124.out 1).trans rfl, (kC BK124.out 2).trans rfl, (kC BK124.out 3).trans rfl, (kC BK124.out 4).trans rfl, (kC BK124.out 5).trans rfl, (kC BK124.out 6).trans rfl, (kC BK110.out 0).trans rfl, (kC BK110.out 1).trans rfl, (kC BK110.out 2).trans rfl, (kC BK110.out 3).trans rfl⟩ (fun hHeld => ?_)
           clear hK K
           refine norm_ (a' := ?_) ?_ ?_
           rotate_left
           ·
            show Act.put _ (some 54) _ = _
            simp only [Act.put, sA, sB, sC, i64_w, i32_w]
            rfl
           refine pF 8 9 40 55 ?_
           refine pF 9 10 40 56 ?_
           refine pF 10 11 40 57 ?_
           refine pF 11 12 40 58 ?_
           refine pF2 14 61 laws_FnPublish.b4 ?_
           refine pF2 17 64 laws_FnPublish.b5 ?_
           refine pT2 12 59 laws_FnPublish.b6 ?_ hHeld
           refine pT2 15 62 laws_FnPublish.b7 ?_ hHeld
           refine join_ (σ := Value × Value × Value) 21 (upTo 19 40) (fun s_ => [(60, s_.1), (63, s_.2.1), (65, s_.2.2)]) (fun s_ w' => (w'.cell? ⟨gb124, 0, none⟩ = some (.string t111) ∧ w'.cell? ⟨gb124, 1, none⟩ = some (.int .i64 t112) ∧ w'.cell? ⟨gb124, 2, none⟩ = some (.slice Ao19 t113.length co19) ∧ w'.cell? ⟨gb124, 3, none⟩ = some (.slice Ao20 t116.length co20) ∧ w'.cell? ⟨gb124, 4, none⟩ = some (.slice Ao21 t119.length co21) ∧ w'.cell? ⟨gb124, 5, none⟩ = some (.int .i64 t122) ∧ w'.cell? ⟨gb124, 6, none⟩ = some (.int .i64 t123) ∧ w'.cell? ⟨gb110, 0, none⟩ = some (.string t101) ∧ w'.cell? ⟨gb110, 1, none⟩ = some (.int .i64 t102) ∧ w'.cell? ⟨gb110, 2, none⟩ = some (.slice Ao13 t103.length co13) ∧ w'.cell? ⟨gb110, 3, none⟩ = some (.slice Ao14 t106.length co14)) ∧ (Kd.R Kd.string 9 w' w.heap.size (fun k_ => some k_ ≠ (s_.2.2 : Value).ownBlock ∧ some k_ ≠ (.slice Ao13 t103.length co13 : Value).ownBlock ∧ some k_ ≠ (.slice Ao19 t113.length co19 : Value).ownBlock ∧ some k_ ≠ (.slice Ao21 t119.length co21 : Value).ownBlock ∧ some k_ ≠ (.slice Ao27 t127.length co27 : Value).ownBlock) s_.2.1 y156) ∧ (Kd.R Kd.string 9 w' w.heap.size (fun k_ => some k_ ≠ (s_.2.1 : Value).ownBlock ∧ some k_ ≠ (.slice Ao13 t103.length co13 : Value).ownBlock ∧ some k_ ≠ (.slice Ao19 t113.length co19 : Value).ownBlock ∧ some k_ ≠ (.slice Ao21 t119.length co21 : Value).ownBlock ∧ some k_ ≠ (.slice Ao27 t127.length co27 : Value).ownBlock) s_.2.2 y159) ∧ (Kd.Q Kd.string 9 w' w.heap.size (fun k_ => some k_ ≠ (s_.2.1 : Value).ownBlock ∧ some k_ ≠ (s_.2.2 : Value).ownBlock ∧ some k_ ≠ (.slice Ao19 t113.length co19 : Value).ownBlock ∧ some k_ ≠ (.slice Ao21 t119.length co21 : Value).ownBlock ∧ some k_ ≠ (.slice Ao27 t127.length co27 : Value).ownBlock) (.slice Ao13 t103.length co13) t103) ∧ (Kd.R k36 36 w' w.heap.size (fun k_ => some k_ ≠ (.slice Ao20 t116.length co20 : Value).ownBlock ∧ some k_ ≠ (.slice Ao28 t130.length co28 : Value).ownBlock) (.slice Ao14 t106.length co14) t106) ∧ (Kd.R Kd.string 9 w' w.heap.size (fun k_ => some k_ ≠ (s_.2.1 : Value).ownBlock ∧ some k_ ≠ (s_.2.2 : Value).ownBlock ∧ some k_ ≠ (.slice Ao13 t103.length co13 : Value).ownBlock ∧ some k_ ≠ (.slice Ao21 t119.length co21 : Value).ownBlock ∧ some k_ ≠ (.slice Ao27 t127.length co27 : Value).ownBlock) (.slice Ao19 t113.length co19) t113) ∧ (Kd.R k36 36 w' w.heap.size (fun k_ => some k_ ≠ (.slice Ao14 t106.length co14 : Value).ownBlock ∧ some k_ ≠ (.slice Ao28 t130.length co28 : Value).ownBlock) (.slice Ao20 t116.length co20) t116) ∧ (Kd.R Kd.string 9 w' w.heap.size (fun k_ => some k_ ≠ (s_.2.1 : Value).ownBlock ∧ some k_ ≠ (s_.2.2 : Value).ownBlock ∧ some k_ ≠ (.slice Ao13 t103.length co13 : Value).ownBlock ∧ some k_ ≠ (.slice Ao19 t113.length co19 : Value).ownBlock ∧ some k_ ≠ (.slice Ao27 t127.length co27 : Value).ownBlock) (.slice Ao21 t119.length co21) t119) ∧ (Kd.Q Kd.string 9 w' w.heap.size (fun k_ => some k_ ≠ (s_.2.1 : Value).ownBlock ∧ some k_ ≠ (s_.2.2 : Value).ownBlock ∧ some k_ ≠ (.slice Ao13 t103.length co13 : Value).ownBlock ∧ some k_ ≠ (.slice Ao19 t113.length co19 : Value).ownBlock ∧ some k_ ≠ (.slice Ao21 t119.length co21 : Value).ownBlock) (.slice Ao27 t127.length co27) t127) ∧ (Kd.R k36 36 w' w.heap.size (fun k_ => some k_ ≠ (.slice Ao14 t106.length co14 : Value).ownBlock ∧ some k_ ≠ (.slice Ao20 t116.length co20 : Value).ownBlock) (.slice Ao28 t130.length co28) t130) ∧ (w'.heap[gb110]? = some (.cells #[.string t101, .int .i64 t102, .slice Ao13 t103.length co13, .slice Ao14 t106.length co14] 26 (0, 0))) ∧ (w'.heap[gb124]? = some (.cells #[.string t111, .int .i64 t112, .slice Ao19 t113.length co19, .slice Ao20 t116.length co20, .slice Ao21 t119.length co21, .int .i64 t122, .int .i64 t123] 30 (0, 0))) ∧ (w'.heap[gb133]? = some (.cells #[.string t125, .int .i64 t126, .slice Ao27 t127.length co27, .slice Ao28 t130.length co28] 26 (0, 0))) ∧ (Below w.heap.size w w')) ?_ ?_
           rotate_left
           ·
            intro hCont
            refine two_ (i := 13) (j := 18) (Ni := some 60) (Nj := some 65) laws_FnPublish.b8 laws_FnPublish.b9 rfl rfl rfl rfl (two_of HT_.out (by kernel_rfl)) (by decide) (by decide) (fun K hK => ?_) (fun K hK => ?_)
            ·
             skip
             refine Kd.R_lit_step Kd.string _ 9 ?hg (N := 60) ?hd (xs := ([] : List ByteArray)) (inner := []) (ok := fun _ => True) (okp := fun _ => True) ?hr ?hp (fun _ hk => hk) trivial (Below.refl _ _) (Nat.le_refl _) (by simp) ?_; (case hd => rfl); (case hg => rfl); (case hr => first | (go_simp; done) | (go_simp; rfl)); (case hp => exact (Reps.none _ _))
             intro v154 w76 ho77 hb hg_ hnew_
             clear hg_ hnew_
             (first | rw [← Ny153.out] at ho77 | (simp only [Int.reduceToNat] at ho77; rw [← Ny153.out] at ho77))
             have _ := AM (Kd.Q_elder' (qX HO_111002.out) (Kd.R_base ho77) hb)
             have _ := AM (Kd.R_below (rX HO_111003.out) hb)
             have _ := AM (Kd.R_elder' (rX HO_125002.out) (Kd.R_base ho77) hb)
             have _ := AM (Kd.R_below (rX HO_125003.out) hb)
             have _ := AM (Kd.R_elder' (rX HO_125004.out) (Kd.R_base ho77) hb)
             have _ := AM (Kd.Q_elder' (qX HO_134002.out) (Kd.R_base ho77) hb)
             have _ := AM (Kd.R_below (rX HO_134003.out) hb)
             have _ := AM (Kd.R_lower (Kd.R_new' (Kd.R_new' (Kd.R_new' (Kd.R_new' ho77 (Kd.Q_lt (qX HO_111002.out))) (Kd.R_lt (rX HO_125002.out))) (Kd.R_lt (rX HO_125004.out))) (Kd.Q_lt (qX HO_134002.out))) (bZ (bX HB.out)))
             have _ := AM (nB BK110.out hb)
             have _ := AM (nB BK124.out hb)
             have _ := AM (nB BK133.out hb)
             have _ := AM (below_step (bX HB.out) hb)
             clear HO_111002 HO_111003 HO_125002 HO_125003 HO_125004 HO_134002 HO_134003 BK110 BK124 BK133 HB
             rename_i HO_111002 HO_111003 HO_125002 HO_125003 HO_125004 HO_134002 HO_134003 HO155 BK110 BK124 BK133 HB
             clear hb ho77
             refine hK.out _ _ ⟨(kC BK124.out 0).trans rfl, (kC BK124.out 1).trans rfl, (kC BK124.out 2).trans rfl, (kC BK124.out 3).trans rfl, (kC BK124.out 4).trans rfl, (kC BK124.out 5).trans rfl, (kC BK124.out 6).trans rfl, (kC BK110.out 0).trans rfl, (kC BK110.out 1).trans rfl, (kC BK110.out 2).trans rfl, (kC BK110.out 3).trans rfl⟩ (fun hHeld => ?_)
             clear hK K
             refine norm_ (a' := ?_) ?_ ?_
             rotate_left
             ·
              show Act.put _ (some 60) _ = _
              simp only [Act.put, sA, sB, sC, i64_w, i32_w]
              rfl
             refine two_ (i := 16) (j := 18) (Ni := some 63) (Nj := some 65) (upTo 18 40) laws_FnPublish.b10 rfl rfl rfl rfl (two_of HT_.out (by kernel_rfl)) (by decide) (by decide) (fun K hK => ?_) (fun K hK => ?_)
             ·
              skip
              refine Kd.R_append_rows_step Kd.string (w0 := w) w.heap.size (by rfl) (.tmp 60) (.tmp 62) 23 9 (.string ⟨#[]⟩) 16 rfl Try.underlying23 info9 rfl (by decide) (by omega) v154 y153 t103 _ _ _ (fun k_ => some k_ ≠ (.slice Ao13 t103.length co13 : Value).ownBlock ∧ some k_ ≠ (.slice Ao19 t113.length co19 : Value).ownBlock ∧ some k_ ≠ (.slice Ao21 t119.length co21 : Value).ownBlock ∧ some k_ ≠ (.slice Ao27 t127.length co27 : Value).ownBlock) (fun _ => False) rfl rfl ?aO ?aR (fun _ _ h => h) (fun _ h => h.elim) ?aF ?aB ?aS ?aL ?_
              (case aR => repeat (first | exact (Kd.Q_reads' HO_111002.out).2.2 | (with_reducible first | apply cA | apply cN | apply cD)))
              (case aB => exact (bX HB.out))
              (case aF => exact (fun k_ hk => ⟨Kd.fresh' (Kd.Q_lt (qX HO_111002.out)) k_ hk, Kd.fresh' (Kd.R_lt (rX HO_125002.out)) k_ hk, Kd.fresh' (Kd.R_lt (rX HO_125004.out)) k_ hk, Kd.fresh' (Kd.Q_lt (qX HO_134002.out)) k_ hk⟩))
              (case aO => exact (by (with_reducible repeat (first | apply rA | apply rN | apply rD)); exact Kd.R_mono HO155.out (fun _ hk => ⟨hk.1.1.1.2, ⟨hk.1.1.2, ⟨hk.1.2, hk.2⟩⟩⟩)))
              (case aS => exact (bZ (bX HB.out)))
              (case aL => have := LMc68.out; omega)
              intro v157 w78 ho hb hg hat
              rw [← Ny156.out] at ho
              have _ := AM (Kd.Q_after (ok := (fun k_ => some k_ ≠ (.slice Ao19 t113.length co19 : Value).ownBlock ∧ some k_ ≠ (.slice Ao21 t119.length co21 : Value).ownBlock ∧ some k_ ≠ (.slice Ao27 t127.length co27 : Value).ownBlock)) (qX HO_111002.out) hg hat)
              have _ := AM (Kd.R_over' (rX HO_111003.out) (Kd.R_typed (rX HO155.out)) (by decide) hg)
              have _ := AM (Kd.R_after (ok := (fun k_ => some k_ ≠ (.slice Ao13 t103.length co13 : Value).ownBlock ∧ some k_ ≠ (.slice Ao21 t119.length co21 : Value).ownBlock ∧ some k_ ≠ (.slice Ao27 t127.length co27 : Value).ownBlock)) (rX HO_125002.out) hg hat)
              have _ := AM (Kd.R_over' (rX HO_125003.out) (Kd.R_typed (rX HO155.out)) (by decide) hg)
              have _ := AM (Kd.R_after (ok := (fun k_ => some k_ ≠ (.slice Ao13 t103.length co13 : Value).ownBlock ∧ some k_ ≠ (.slice Ao19 t113.length co19 : Value).ownBlock ∧ some k_ ≠ (.slice Ao27 t127.length co27 : Value).ownBlock)) (rX HO_125004.out) hg hat)
              have _ := AM (Kd.Q_after (ok := (fun k_ => some k_ ≠ (.slice Ao13 t103.length co13 : Value).ownBlock ∧ some k_ ≠ (.slice Ao19 t113.length co19 : Value).ownBlock ∧ some k_ ≠ (.slice Ao21 t119.length co21 : Value).ownBlock)) (qX HO_134002.out) hg hat)
              have _ := AM (Kd.R_over' (rX HO_134003.out) (Kd.R_typed (rX HO155.out)) (by decide) hg)
              have _ := AM (blk_grown (g := gb110) (o := .cells #[.string t101, .int .i64 t102, .slice Ao13 t103.length co13, .slice Ao14 t106.length co14] 26 (0, 0)) (kX BK110.out) hg (Kd.R_ne HO155.out BK110.out (by decide)))
              have _ := AM (blk_grown (g := gb124) (o := .cells #[.string t111, .int .i64 t112, .slice Ao19 t113.length co19, .slice Ao20 t116.length co20, .slice Ao21 t119.length co21, .int .i64 t122, .int .i64 t123] 30 (0, 0)) (kX BK124.out) hg (Kd.R_ne HO155.out BK124.out (by decide)))
              have _ := AM (blk_grown (g := gb133) (o := .cells #[.string t125, .int .i64 t126, .slice Ao27 t127.length co27, .slice Ao28 t130.length co28] 26 (0, 0)) (kX BK133.out) hg (Kd.R_ne HO155.out BK133.out (by decide)))
              have _ := AM (hb)
              have _ := AM (ho)
              clear HO_111002 HO_111003 HO_125002 HO_125003 HO_125004 HO_134002 HO_134003 BK110 BK124 BK133 HB HO155
              rename_i HO_111002 HO_111003 HO_125002 HO_125003 HO_125004 HO_134002 HO_134003 BK110 BK124 BK133 HB HO158
              clear ho hb hg hat
              refine hK.out _ _ ⟨(kC BK124.out 0).trans rfl, (kC BK124.out 1).trans rfl, (kC BK124.out 2).trans rfl, (kC BK124.out 3).trans rfl, (kC BK124.out 4).trans rfl, (kC BK124.out 5).trans rfl, (kC BK124.out 6).trans rfl, (kC BK110.out 0).trans rfl, (kC BK110.out 1).trans rfl, (kC BK110.out 2).trans rfl, (kC BK110.out 3).trans rfl⟩ (fun hHeld => ?_)
              clear hK K
              refine norm_ (a' := ?_) ?_ ?_
              rotate_left
              ·
               show Act.put _ (some 63) _ = _
               simp only [Act.put, sA, sB, sC, i64_w, i32_w]
               rfl
              refine one_ (i := 18) (N := some 65) (upTo 19 40) rfl rfl (one_of HT_.out (by kernel_rfl)) (by decide) (fun K hK => ?_)
              refine Kd.R_lit_step Kd.string _ 9 ?hg (N := 65) ?hd (xs := ([t109] : List ByteArray)) (inner := [.string t109]) (ok := fun _ => True) (okp := fun _ => True) ?hr ?hp (fun _ hk => hk) trivial (Below.refl _ _) (Nat.le_refl _) (by simp) ?_; (case hd => rfl); (case hg => rfl); (case hr => first | (go_simp; done) | (go_simp; rfl)); (case hp => exact (Reps.one (show Kd.M Kd.string _ _ _ t109 [.string t109] from rfl) (Reps.none _ _)))
              intro v160 w79 ho80 hb hg_ hnew_
              clear hg_ hnew_
              (first | rw [← Ny159.out] at ho80 | (simp only [Int.reduceToNat] at ho80; rw [← Ny159.out] at ho80))
              have _ := AM (Kd.Q_elder' (qX HO_111002.out) (Kd.R_base ho80) hb)
              have _ := AM (Kd.R_below (rX HO_111003.out) hb)
              have _ := AM (Kd.R_elder' (rX HO_125002.out) (Kd.R_base ho80) hb)
              have _ := AM (Kd.R_below (rX HO_125003.out) hb)
              have _ := AM (Kd.R_elder' (rX HO_125004.out) (Kd.R_base ho80) hb)
              have _ := AM (Kd.Q_elder' (qX HO_134002.out) (Kd.R_base ho80) hb)
              have _ := AM (Kd.R_below (rX HO_134003.out) hb)
              have _ := AM (Kd.R_elder' (rX HO158.out) (Kd.R_base ho80) hb)
              have _ := AM (Kd.R_lower (Kd.R_new' (Kd.R_new' (Kd.R_new' (Kd.R_new' (Kd.R_new' ho80 (Kd.Q_lt (qX HO_111002.out))) (Kd.R_lt (rX HO_125002.out))) (Kd.R_lt (rX HO_125004.out))) (Kd.Q_lt (qX HO_134002.out))) (Kd.R_lt (rX HO158.out))) (bZ (bX HB.out)))
              have _ := AM (nB BK110.out hb)
              have _ := AM (nB BK124.out hb)
              have _ := AM (nB BK133.out hb)
              have _ := AM (below_step (bX HB.out) hb)
              clear HO_111002 HO_111003 HO_125002 HO_125003 HO_125004 HO_134002 HO_134003 HO158 BK110 BK124 BK133 HB
              rename_i HO_111002 HO_111003 HO_125002 HO_125003 HO_125004 HO_134002 HO_134003 HO158 HO161 BK110 BK124 BK133 HB
              clear hb ho80
              refine hK.out _ _ ⟨(kC BK124.out 0).trans rfl, (kC BK124.out 1).trans rfl, (kC BK124.out 2).trans rfl, (kC BK124.out 3).trans rfl, (kC BK124.out 4).trans rfl, (kC BK124.out 5).trans rfl, (kC BK124.out 6).trans rfl, (kC BK110.out 0).trans rfl, (kC BK110.out 1).trans rfl, (kC BK110.out 2).trans rfl, (kC BK110.out 3).trans rfl⟩ (fun hHeld => ?_)
              clear hK K
              refine norm_ (a' := ?_) ?_ ?_
              rotate_left
              ·
               show Act.put _ (some 65) _ = _
               simp only [Act.put, sA, sB, sC, i64_w, i32_w]
               rfl
              exact norm_ (by simp only [putAll, Act.put, List.setIfInBounds_toArray, List.set_cons_zero, List.set_cons_succ]) (hCont (v154, v157, v160) _ ⟨hHeld, (by (with_reducible repeat (first | apply rA | apply rN | apply rD)); exact Kd.R_mono HO158.out (fun _ hk => ⟨hk.2, ⟨hk.1.1, ⟨hk.1.2.1, ⟨hk.1.2.2.1, hk.1.2.2.2⟩⟩⟩⟩)), (by (with_reducible repeat (first | apply rA | apply rN | apply rD)); exact Kd.R_mono HO161.out (fun _ hk => ⟨hk.2, ⟨hk.1.1.1.1.2, ⟨hk.1.1.1.2, ⟨hk.1.1.2, hk.1.2⟩⟩⟩⟩)), (by (with_reducible repeat (first | apply Kd.Q_alloc | apply Kd.Q_drewN | apply Kd.Q_drew)); exact Kd.Q_mono HO_111002.out (fun _ hk => ⟨hk.1.2, ⟨hk.2, ⟨hk.1.1.1, ⟨hk.1.1.2.1, hk.1.1.2.2⟩⟩⟩⟩)), (rX HO_111003.out), (by (with_reducible repeat (first | apply rA | apply rN | apply rD)); exact Kd.R_mono HO_125002.out (fun _ hk => ⟨hk.1.2, ⟨hk.2, ⟨hk.1.1.1, ⟨hk.1.1.2.1, hk.1.1.2.2⟩⟩⟩⟩)), (rX HO_125003.out), (by (with_reducible repeat (first | apply rA | apply rN | apply rD)); exact Kd.R_mono HO_125004.out (fun _ hk => ⟨hk.1.2, ⟨hk.2, ⟨hk.1.1.1, ⟨hk.1.1.2.1, hk.1.1.2.2⟩⟩⟩⟩)), (by (with_reducible repeat (first | apply Kd.Q_alloc | apply Kd.Q_drewN | apply Kd.Q_drew)); exact Kd.Q_mono HO_134002.out (fun _ hk => ⟨hk.1.2, ⟨hk.2, ⟨hk.1.1.1, ⟨hk.1.1.2.1, hk.1.1.2.2⟩⟩⟩⟩)), (rX HO_134003.out), (kX BK110.out), (kX BK124.out), (kX BK133.out), (bX HB.out)⟩)
             skip
             refine Kd.R_lit_step Kd.string _ 9 ?hg (N := 65) ?hd (xs := ([t109] : List ByteArray)) (inner := [.string t109]) (ok := fun _ => True) (okp := fun _ => True) ?hr ?hp (fun _ hk => hk) trivial (Below.refl _ _) (Nat.le_refl _) (by simp) ?_; (case hd => rfl); (case hg => rfl); (case hr => first | (go_simp; done) | (go_simp; rfl)); (case hp => exact (Reps.one (show Kd.M Kd.string _ _ _ t109 [.string t109] from rfl) (Reps.none _ _)))
             intro v160 w78 ho79 hb hg_ hnew_
             clear hg_ hnew_
             (first | rw [← Ny159.out] at ho79 | (simp only [Int.reduceToNat] at ho79; rw [← Ny159.out] at ho79))
             have _ := AM (Kd.Q_elder' (qX HO_111002.out) (Kd.R_base ho79) hb)
             have _ := AM (Kd.R_below (rX HO_111003.out) hb)
             have _ := AM (Kd.R_elder' (rX HO_125002.out) (Kd.R_base ho79) hb)
             have _ := AM (Kd.R_below (rX HO_125003.out) hb)
             have _ := AM (Kd.R_elder' (rX HO_125004.out) (Kd.R_base ho79) hb)
             have _ := AM (Kd.Q_elder' (qX HO_134002.out) (Kd.R_base ho79) hb)
             have _ := AM (Kd.R_below (rX HO_134003.out) hb)
             have _ := AM (Kd.R_elder' (rX HO155.out) (Kd.R_base ho79) hb)
             have _ := AM (Kd.R_lower (Kd.R_new' (Kd.R_new' (Kd.R_new' (Kd.R_new' (Kd.R_new' ho79 (Kd.Q_lt (qX HO_111002.out))) (Kd.R_lt (rX HO_125002.out))) (Kd.R_lt (rX HO_125004.out))) (Kd.Q_lt (qX HO_134002.out))) (Kd.R_lt (rX HO155.out))) (bZ (bX HB.out)))
             have _ := AM (nB BK110.out hb)
             have _ := AM (nB BK124.out hb)
             have _ := AM (nB BK133.out hb)
             have _ := AM (below_step (bX HB.out) hb)
             clear HO_111002 HO_111003 HO_125002 HO_125003 HO_125004 HO_134002 HO_134003 HO155 BK110 BK124 BK133 HB
             rename_i HO_111002 HO_111003 HO_125002 HO_125003 HO_125004 HO_134002 HO_134003 HO155 HO161 BK110 BK124 BK133 HB
             clear hb ho79
             refine hK.out _ _ ⟨(kC BK124.out 0).trans rfl, (kC BK124.out 1).trans rfl, (kC BK124.out 2).trans rfl, (kC BK124.out 3).trans rfl, (kC BK124.out 4).trans rfl, (kC BK124.out 5).trans rfl, (kC BK124.out 6).trans rfl, (kC BK110.out 0).trans rfl, (kC BK110.out 1).trans rfl, (kC BK110.out 2).trans rfl, (kC BK110.out 3).trans rfl⟩ (fun hHeld => ?_)
             clear hK K
             refine norm_ (a' := ?_) ?_ ?_
             rotate_left
             ·
              show Act.put _ (some 65) _ = _
              simp only [Act.put, sA, sB, sC, i64_w, i32_w]
              rfl
             refine one_ (i := 16) (N := some 63) (upTo 19 40) rfl rfl (one_of HT_.out (by kernel_rfl)) (by decide) (fun K hK => ?_)
             refine Kd.R_append_rows_step Kd.string (w0 := w) w.heap.size (by rfl) (.tmp 60) (.tmp 62) 23 9 (.string ⟨#[]⟩) 16 rfl Try.underlying23 info9 rfl (by decide) (by omega) v154 y153 t103 _ _ _ (fun k_ => some k_ ≠ (.slice Ao13 t103.length co13 : Value).ownBlock ∧ some k_ ≠ (.slice Ao19 t113.length co19 : Value).ownBlock ∧ some k_ ≠ (.slice Ao21 t119.length co21 : Value).ownBlock ∧ some k_ ≠ (.slice Ao27 t127.length co27 : Value).ownBlock ∧ some k_ ≠ (v160 : Value).ownBlock) (fun _ => False) rfl rfl ?aO ?aR (fun _ _ h => h) (fun _ h => h.elim) ?aF ?aB ?aS ?aL ?_
             (case aR => repeat (first | exact (Kd.Q_reads' HO_111002.out).2.2 | (with_reducible first | apply cA | apply cN | apply cD)))
             (case aB => exact (bX HB.out))
             (case aF => exact (fun k_ hk => ⟨Kd.fresh' (Kd.Q_lt (qX HO_111002.out)) k_ hk, Kd.fresh' (Kd.R_lt (rX HO_125002.out)) k_ hk, Kd.fresh' (Kd.R_lt (rX HO_125004.out)) k_ hk, Kd.fresh' (Kd.Q_lt (qX HO_134002.out)) k_ hk, Kd.fresh' (Kd.R_lt (rX HO161.out)) k_ hk⟩))
             (case aO => exact (by (with_reducible repeat (first | apply rA | apply rN | apply rD)); exact Kd.R_mono HO155.out (fun _ hk => ⟨hk.1.1.1.1.2, ⟨hk.1.1.1.2, ⟨hk.1.1.2, ⟨hk.1.2, hk.2⟩⟩⟩⟩)))
             (case aS => exact (bZ (bX HB.out)))
             (case aL => have := LMc68.out; omega)
             intro v157 w80 ho hb hg hat
             rw [← Ny156.out] at ho
             have _ := AM (Kd.Q_after (ok := (fun k_ => some k_ ≠ (.slice Ao19 t113.length co19 : Value).ownBlock ∧ some k_ ≠ (.slice Ao21 t119.length co21 : Value).ownBlock ∧ some k_ ≠ (.slice Ao27 t127.length co27 : Value).ownBlock ∧ some k_ ≠ (v160 : Value).ownBlock)) (by (with_reducible repeat (first | apply Kd.Q_alloc | apply Kd.Q_drewN | apply Kd.Q_drew)); exact Kd.Q_mono HO_111002.out (fun _ hk => ⟨⟨hk.1.1.1, ⟨hk.1.1.2.1, ⟨hk.1.1.2.2, hk.2⟩⟩⟩, hk.1.2⟩)) hg hat)
             have _ := AM (Kd.R_over' (rX HO_111003.out) (Kd.R_typed (rX HO155.out)) (by decide) hg)
             have _ := AM (Kd.R_after (ok := (fun k_ => some k_ ≠ (.slice Ao13 t103.length co13 : Value).ownBlock ∧ some k_ ≠ (.slice Ao21 t119.length co21 : Value).ownBlock ∧ some k_ ≠ (.slice Ao27 t127.length co27 : Value).ownBlock ∧ some k_ ≠ (v160 : Value).ownBlock)) (by (with_reducible repeat (first | apply rA | apply rN | apply rD)); exact Kd.R_mono HO_125002.out (fun _ hk => ⟨⟨hk.1.1.1, ⟨hk.1.1.2.1, ⟨hk.1.1.2.2, hk.2⟩⟩⟩, hk.1.2⟩)) hg hat)
             have _ := AM (Kd.R_over' (rX HO_125003.out) (Kd.R_typed (rX HO155.out)) (by decide) hg)
             have _ := AM (Kd.R_after (ok := (fun k_ => some k_ ≠ (.slice Ao13 t103.length co13 : Value).ownBlock ∧ some k_ ≠ (.slice Ao19 t113.length co19 : Value).ownBlock ∧ some k_ ≠ (.slice Ao27 t127.length co27 : Value).ownBlock ∧ some k_ ≠ (v160 : Value).ownBlock)) (by (with_reducible repeat (first | apply rA | apply rN | apply rD)); exact Kd.R_mono HO_125004.out (fun _ hk => ⟨⟨hk.1.1.1, ⟨hk.1.1.2.1, ⟨hk.1.1.2.2, hk.2⟩⟩⟩, hk.1.2⟩)) hg hat)
             have _ := AM (Kd.Q_after (ok := (fun k_ => some k_ ≠ (.slice Ao13 t103.length co13 : Value).ownBlock ∧ some k_ ≠ (.slice Ao19 t113.length co19 : Value).ownBlock ∧ some k_ ≠ (.slice Ao21 t119.length co21 : Value).ownBlock ∧ some k_ ≠ (v160 : Value).ownBlock)) (by (with_reducible repeat (first | apply Kd.Q_alloc | apply Kd.Q_drewN | apply Kd.Q_drew)); exact Kd.Q_mono HO_134002.out (fun _ hk => ⟨⟨hk.1.1.1, ⟨hk.1.1.2.1, ⟨hk.1.1.2.2, hk.2⟩⟩⟩, hk.1.2⟩)) hg hat)
             have _ := AM (Kd.R_over' (rX HO_134003.out) (Kd.R_typed (rX HO155.out)) (by decide) hg)
             have _ := AM (blk_grown (g := gb110) (o := .cells #[.string t101, .int .i64 t102, .slice Ao13 t103.length co13, .slice Ao14 t106.length co14] 26 (0, 0)) (kX BK110.out) hg (Kd.R_ne HO155.out BK110.out (by decide)))
             have _ := AM (blk_grown (g := gb124) (o := .cells #[.string t111, .int .i64 t112, .slice Ao19 t113.length co19, .slice Ao20 t116.length co20, .slice Ao21 t119.length co21, .int .i64 t122, .int .i64 t123] 30 (0, 0)) (kX BK124.out) hg (Kd.R_ne HO155.out BK124.out (by decide)))
             have _ := AM (blk_grown (g := gb133) (o := .cells #[.string t125, .int .i64 t126, .slice Ao27 t127.length co27, .slice Ao28 t130.length co28] 26 (0, 0)) (kX BK133.out) hg (Kd.R_ne HO155.out BK133.out (by decide)))
             have _ := AM (Kd.R_after (ok := (fun k_ => some k_ ≠ (.slice Ao13 t103.length co13 : Value).ownBlock ∧ some k_ ≠ (.slice Ao19 t113.length co19 : Value).ownBlock ∧ some k_ ≠ (.slice Ao21 t119.length co21 : Value).ownBlock ∧ some k_ ≠ (.slice Ao27 t127.length co27 : Value).ownBlock)) (by (with_reducible repeat (first | apply rA | apply rN | apply rD)); exact Kd.R_mono HO161.out (fun _ hk => ⟨⟨hk.1.1.1.1.2, ⟨hk.1.1.1.2, ⟨hk.1.1.2, hk.1.2⟩⟩⟩, hk.2⟩)) hg hat)
             have _ := AM (hb)
             have _ := AM (ho)
             clear HO_111002 HO_111003 HO_125002 HO_125003 HO_125004 HO_134002 HO_134003 BK110 BK124 BK133 HO161 HB HO155
             rename_i HO_111002 HO_111003 HO_125002 HO_125003 HO_125004 HO_134002 HO_134003 BK110 BK124 BK133 HO161 HB HO158
             clear ho hb hg hat
             refine hK.out _ _ ⟨(kC BK124.out 0).trans rfl, (kC BK124.out 1).trans rfl, (kC BK124.out 2).trans rfl, (kC BK124.out 3).trans rfl, (kC BK124.out 4).trans rfl, (kC BK124.out 5).trans rfl, (kC BK124.out 6).trans rfl, (kC BK110.out 0).trans rfl, (kC BK110.out 1).trans rfl, (kC BK110.out 2).trans rfl, (kC BK110.out 3).trans rfl⟩ (fun hHeld => ?_)
             clear hK K
             refine norm_ (a' := ?_) ?_ ?_
             rotate_left
             ·
              show Act.put _ (some 63) _ = _
              simp only [Act.put, sA, sB, sC, i64_w, i32_w]
              rfl
             exact norm_ (by simp only [putAll, Act.put, List.setIfInBounds_toArray, List.set_cons_zero, List.set_cons_succ]) (hCont (v154, v157, v160) _ ⟨hHeld, (by (with_reducible repeat (first | apply rA | apply rN | apply rD)); exact Kd.R_mono HO158.out (fun _ hk => ⟨hk.2.2.2.2, ⟨hk.1, ⟨hk.2.1, ⟨hk.2.2.1, hk.2.2.2.1⟩⟩⟩⟩)), (by (with_reducible repeat (first | apply rA | apply rN | apply rD)); exact Kd.R_mono HO161.out (fun _ hk => ⟨hk.2, ⟨hk.1.1, ⟨hk.1.2.1, ⟨hk.1.2.2.1, hk.1.2.2.2⟩⟩⟩⟩)), (by (with_reducible repeat (first | apply Kd.Q_alloc | apply Kd.Q_drewN | apply Kd.Q_drew)); exact Kd.Q_mono HO_111002.out (fun _ hk => ⟨hk.2, ⟨hk.1.2.2.2, ⟨hk.1.1, ⟨hk.1.2.1, hk.1.2.2.1⟩⟩⟩⟩)), (rX HO_111003.out), (by (with_reducible repeat (first | apply rA | apply rN | apply rD)); exact Kd.R_mono HO_125002.out (fun _ hk => ⟨hk.2, ⟨hk.1.2.2.2, ⟨hk.1.1, ⟨hk.1.2.1, hk.1.2.2.1⟩⟩⟩⟩)), (rX HO_125003.out), (by (with_reducible repeat (first | apply rA | apply rN | apply rD)); exact Kd.R_mono HO_125004.out (fun _ hk => ⟨hk.2, ⟨hk.1.2.2.2, ⟨hk.1.1, ⟨hk.1.2.1, hk.1.2.2.1⟩⟩⟩⟩)), (by (with_reducible repeat (first | apply Kd.Q_alloc | apply Kd.Q_drewN | apply Kd.Q_drew)); exact Kd.Q_mono HO_134002.out (fun _ hk => ⟨hk.2, ⟨hk.1.2.2.2, ⟨hk.1.1, ⟨hk.1.2.1, hk.1.2.2.1⟩⟩⟩⟩)), (rX HO_134003.out), (kX BK110.out), (kX BK124.out), (kX BK133.out), (bX HB.out)⟩)
            skip
            refine Kd.R_lit_step Kd.string _ 9 ?hg (N := 65) ?hd (xs := ([t109] : List ByteArray)) (inner := [.string t109]) (ok := fun _ => True) (okp := fun _ => True) ?hr ?hp (fun _ hk => hk) trivial (Below.refl _ _) (Nat.le_refl _) (by simp) ?_; (case hd => rfl); (case hg => rfl); (case hr => first | (go_simp; done) | (go_simp; rfl)); (case hp => exact (Reps.one (show Kd.M Kd.string _ _ _ t109 [.string t109] from rfl) (Reps.none _ _)))
            intro v160 w76 ho77 hb hg_ hnew_
            clear hg_ hnew_
            (first | rw [← Ny159.out] at ho77 | (simp only [Int.reduceToNat] at ho77; rw [← Ny159.out] at ho77))
            have _ := AM (Kd.Q_elder' (qX HO_111002.out) (Kd.R_base ho77) hb)
            have _ := AM (Kd.R_below (rX HO_111003.out) hb)
            have _ := AM (Kd.R_elder' (rX HO_125002.out) (Kd.R_base ho77) hb)
            have _ := AM (Kd.R_below (rX HO_125003.out) hb)
            have _ := AM (Kd.R_elder' (rX HO_125004.out) (Kd.R_base ho77) hb)
            have _ := AM (Kd.Q_elder' (qX HO_134002.out) (Kd.R_base ho77) hb)
            have _ := AM (Kd.R_below (rX HO_134003.out) hb)
            have _ := AM (Kd.R_lower (Kd.R_new' (Kd.R_new' (Kd.R_new' (Kd.R_new' ho77 (Kd.Q_lt (qX HO_111002.out))) (Kd.R_lt (rX HO_125002.out))) (Kd.R_lt (rX HO_125004.out))) (Kd.Q_lt (qX HO_134002.out))) (bZ (bX HB.out)))
            have _ := AM (nB BK110.out hb)
            have _ := AM (nB BK124.out hb)
            have _ := AM (nB BK133.out hb)
            have _ := AM (below_step (bX HB.out) hb)
            clear HO_111002 HO_111003 HO_125002 HO_125003 HO_125004 HO_134002 HO_134003 BK110 BK124 BK133 HB
            rename_i HO_111002 HO_111003 HO_125002 HO_125003 HO_125004 HO_134002 HO_134003 HO161 BK110 BK124 BK133 HB
            clear hb ho77
            refine hK.out _ _ ⟨(kC BK124.out 0).trans rfl, (kC BK124.out 1).trans rfl, (kC BK124.out 2).trans rfl, (kC BK124.out 3).trans rfl, (kC BK124.out 4).trans rfl, (kC BK124.out 5).trans rfl, (kC BK124.out 6).trans rfl, (kC BK110.out 0).trans rfl, (kC BK110.out 1).trans rfl, (kC BK110.out 2).trans rfl, (kC BK110.out 3).trans rfl⟩ (fun hHeld => ?_)
            clear hK K
            refine norm_ (a' := ?_) ?_ ?_
            rotate_left
            ·
             show Act.put _ (some 65) _ = _
             simp only [Act.put, sA, sB, sC, i64_w, i32_w]
             rfl
            refine one_ (i := 13) (N := some 60) laws_FnPublish.b10 rfl rfl (one_of HT_.out (by kernel_rfl)) (by decide) (fun K hK => ?_)
            refine Kd.R_lit_step Kd.string _ 9 ?hg (N := 60) ?hd (xs := ([] : List ByteArray)) (inner := []) (ok := fun _ => True) (okp := fun _ => True) ?hr ?hp (fun _ hk => hk) trivial (Below.refl _ _) (Nat.le_refl _) (by simp) ?_; (case hd => rfl); (case hg => rfl); (case hr => first | (go_simp; done) | (go_simp; rfl)); (case hp => exact (Reps.none _ _))
            intro v154 w78 ho79 hb hg_ hnew_
            clear hg_ hnew_
            (first | rw [← Ny153.out] at ho79 | (simp only [Int.reduceToNat] at ho79; rw [← Ny153.out] at ho79))
            have _ := AM (Kd.Q_elder' (qX HO_111002.out) (Kd.R_base ho79) hb)
            have _ := AM (Kd.R_below (rX HO_111003.out) hb)
            have _ := AM (Kd.R_elder' (rX HO_125002.out) (Kd.R_base ho79) hb)
            have _ := AM (Kd.R_below (rX HO_125003.out) hb)
            have _ := AM (Kd.R_elder' (rX HO_125004.out) (Kd.R_base ho79) hb)
            have _ := AM (Kd.Q_elder' (qX HO_134002.out) (Kd.R_base ho79) hb)
            have _ := AM (Kd.R_below (rX HO_134003.out) hb)
            have _ := AM (Kd.R_elder' (rX HO161.out) (Kd.R_base ho79) hb)
            have _ := AM (Kd.R_lower (Kd.R_new' (Kd.R_new' (Kd.R_new' (Kd.R_new' (Kd.R_new' ho79 (Kd.Q_lt (qX HO_111002.out))) (Kd.R_lt (rX HO_125002.out))) (Kd.R_lt (rX HO_125004.out))) (Kd.Q_lt (qX HO_134002.out))) (Kd.R_lt (rX HO161.out))) (bZ (bX HB.out)))
            have _ := AM (nB BK110.out hb)
            have _ := AM (nB BK124.out hb)
            have _ := AM (nB BK133.out hb)
            have _ := AM (below_step (bX HB.out) hb)
            clear HO_111002 HO_111003 HO_125002 HO_125003 HO_125004 HO_134002 HO_134003 HO161 BK110 BK124 BK133 HB
            rename_i HO_111002 HO_111003 HO_125002 HO_125003 HO_125004 HO_134002 HO_134003 HO161 HO155 BK110 BK124 BK133 HB
            clear hb ho79
            refine hK.out _ _ ⟨(kC BK124.out 0).trans rfl, (kC BK124.out 1).trans rfl, (kC BK124.out 2).trans rfl, (kC BK124.out 3).trans rfl, (kC BK124.out 4).trans rfl, (kC BK124.out 5).trans rfl, (kC BK124.out 6).trans rfl, (kC BK110.out 0).trans rfl, (kC BK110.out 1).trans rfl, (kC BK110.out 2).trans rfl, (kC BK110.out 3).trans rfl⟩ (fun hHeld => ?_)
            clear hK K
            refine norm_ (a' := ?_) ?_ ?_
            rotate_left
            ·
             show Act.put _ (some 60) _ = _
             simp only [Act.put, sA, sB, sC, i64_w, i32_w]
             rfl
            refine one_ (i := 16) (N := some 63) (upTo 19 40) rfl rfl (one_of HT_.out (by kernel_rfl)) (by decide) (fun K hK => ?_)
            refine Kd.R_append_rows_step Kd.string (w0 := w) w.heap.size (by rfl) (.tmp 60) (.tmp 62) 23 9 (.string ⟨#[]⟩) 16 rfl Try.underlying23 info9 rfl (by decide) (by omega) v154 y153 t103 _ _ _ (fun k_ => some k_ ≠ (.slice Ao13 t103.length co13 : Value).ownBlock ∧ some k_ ≠ (.slice Ao19 t113.length co19 : Value).ownBlock ∧ some k_ ≠ (.slice Ao21 t119.length co21 : Value).ownBlock ∧ some k_ ≠ (.slice Ao27 t127.length co27 : Value).ownBlock ∧ some k_ ≠ (v160 : Value).ownBlock) (fun _ => False) rfl rfl ?aO ?aR (fun _ _ h => h) (fun _ h => h.elim) ?aF ?aB ?aS ?aL ?_
            (case aR => repeat (first | exact (Kd.Q_reads' HO_111002.out).2.2 | (with_reducible first | apply cA | apply cN | apply cD)))
            (case aB => exact (bX HB.out))
            (case aF => exact (fun k_ hk => ⟨Kd.fresh' (Kd.Q_lt (qX HO_111002.out)) k_ hk, Kd.fresh' (Kd.R_lt (rX HO_125002.out)) k_ hk, Kd.fresh' (Kd.R_lt (rX HO_125004.out)) k_ hk, Kd.fresh' (Kd.Q_lt (qX HO_134002.out)) k_ hk, Kd.fresh' (Kd.R_lt (rX HO161.out)) k_ hk⟩))
            (case aO => exact (by (with_reducible repeat (first | apply rA | apply rN | apply rD)); exact Kd.R_mono HO155.out (fun _ hk => ⟨hk.1.1.1.1.2, ⟨hk.1.1.1.2, ⟨hk.1.1.2, ⟨hk.1.2, hk.2⟩⟩⟩⟩)))
            (case aS => exact (bZ (bX HB.out)))
            (case aL => have := LMc68.out; omega)
            intro v157 w80 ho hb hg hat
            rw [← Ny156.out] at ho
            have _ := AM (Kd.Q_after (ok := (fun k_ => some k_ ≠ (.slice Ao19 t113.length co19 : Value).ownBlock ∧ some k_ ≠ (.slice Ao21 t119.length co21 : Value).ownBlock ∧ some k_ ≠ (.slice Ao27 t127.length co27 : Value).ownBlock ∧ some k_ ≠ (v160 : Value).ownBlock)) (by (with_reducible repeat (first | apply Kd.Q_alloc | apply Kd.Q_drewN | apply Kd.Q_drew)); exact Kd.Q_mono HO_111002.out (fun _ hk => ⟨⟨hk.1.1.1, ⟨hk.1.1.2.1, ⟨hk.1.1.2.2, hk.1.2⟩⟩⟩, hk.2⟩)) hg hat)
            have _ := AM (Kd.R_over' (rX HO_111003.out) (Kd.R_typed (rX HO155.out)) (by decide) hg)
            have _ := AM (Kd.R_after (ok := (fun k_ => some k_ ≠ (.slice Ao13 t103.length co13 : Value).ownBlock ∧ some k_ ≠ (.slice Ao21 t119.length co21 : Value).ownBlock ∧ some k_ ≠ (.slice Ao27 t127.length co27 : Value).ownBlock ∧ some k_ ≠ (v160 : Value).ownBlock)) (by (with_reducible repeat (first | apply rA | apply rN | apply rD)); exact Kd.R_mono HO_125002.out (fun _ hk => ⟨⟨hk.1.1.1, ⟨hk.1.1.2.1, ⟨hk.1.1.2.2, hk.1.2⟩⟩⟩, hk.2⟩)) hg hat)
            have _ := AM (Kd.R_over' (rX HO_125003.out) (Kd.R_typed (rX HO155.out)) (by decide) hg)
            have _ := AM (Kd.R_after (ok := (fun k_ => some k_ ≠ (.slice Ao13 t103.length co13 : Value).ownBlock ∧ some k_ ≠ (.slice Ao19 t113.length co19 : Value).ownBlock ∧ some k_ ≠ (.slice Ao27 t127.length co27 : Value).ownBlock ∧ some k_ ≠ (v160 : Value).ownBlock)) (by (with_reducible repeat (first | apply rA | apply rN | apply rD)); exact Kd.R_mono HO_125004.out (fun _ hk => ⟨⟨hk.1.1.1, ⟨hk.1.1.2.1, ⟨hk.1.1.2.2, hk.1.2⟩⟩⟩, hk.2⟩)) hg hat)
            have _ := AM (Kd.Q_after (ok := (fun k_ => some k_ ≠ (.slice Ao13 t103.length co13 : Value).ownBlock ∧ some k_ ≠ (.slice Ao19 t113.length co19 : Value).ownBlock ∧ some k_ ≠ (.slice Ao21 t119.length co21 : Value).ownBlock ∧ some k_ ≠ (v160 : Value).ownBlock)) (by (with_reducible repeat (first | apply Kd.Q_alloc | apply Kd.Q_drewN | apply Kd.Q_drew)); exact Kd.Q_mono HO_134002.out (fun _ hk => ⟨⟨hk.1.1.1, ⟨hk.1.1.2.1, ⟨hk.1.1.2.2, hk.1.2⟩⟩⟩, hk.2⟩)) hg hat)
            have _ := AM (Kd.R_over' (rX HO_134003.out) (Kd.R_typed (rX HO155.out)) (by decide) hg)
            have _ := AM (blk_grown (g := gb110) (o := .cells #[.string t101, .int .i64 t102, .slice Ao13 t103.length co13, .slice Ao14 t106.length co14] 26 (0, 0)) (kX BK110.out) hg (Kd.R_ne HO155.out BK110.out (by decide)))
            have _ := AM (blk_grown (g := gb124) (o := .cells #[.string t111, .int .i64 t112, .slice Ao19 t113.length co19, .slice Ao20 t116.length co20, .slice Ao21 t119.length co21, .int .i64 t122, .int .i64 t123] 30 (0, 0)) (kX BK124.out) hg (Kd.R_ne HO155.out BK124.out (by decide)))
            have _ := AM (blk_grown (g := gb133) (o := .cells #[.string t125, .int .i64 t126, .slice Ao27 t127.length co27, .slice Ao28 t130.length co28] 26 (0, 0)) (kX BK133.out) hg (Kd.R_ne HO155.out BK133.out (by decide)))
            have _ := AM (Kd.R_after (ok := (fun k_ => some k_ ≠ (.slice Ao13 t103.length co13 : Value).ownBlock ∧ some k_ ≠ (.slice Ao19 t113.length co19 : Value).ownBlock ∧ some k_ ≠ (.slice Ao21 t119.length co21 : Value).ownBlock ∧ some k_ ≠ (.slice Ao27 t127.length co27 : Value).ownBlock)) (by (with_reducible repeat (first | apply rA | apply rN | apply rD)); exact Kd.R_mono HO161.out (fun _ hk => ⟨⟨hk.1.1.1.1.2, ⟨hk.1.1.1.2, ⟨hk.1.1.2, hk.1.2⟩⟩⟩, hk.2⟩)) hg hat)
            have _ := AM (hb)
            have _ := AM (ho)
            clear HO_111002 HO_111003 HO_125002 HO_125003 HO_125004 HO_134002 HO_134003 BK110 BK124 BK133 HO161 HB HO155
            rename_i HO_111002 HO_111003 HO_125002 HO_125003 HO_125004 HO_134002 HO_134003 BK110 BK124 BK133 HO161 HB HO158
            clear ho hb hg hat
            refine hK.out _ _ ⟨(kC BK124.out 0).trans rfl, (kC BK124.out 1).trans rfl, (kC BK124.out 2).trans rfl, (kC BK124.out 3).trans rfl, (kC BK124.out 4).trans rfl, (kC BK124.out 5).trans rfl, (kC BK124.out 6).trans rfl, (kC BK110.out 0).trans rfl, (kC BK110.out 1).trans rfl, (kC BK110.out 2).trans rfl, (kC BK110.out 3).trans rfl⟩ (fun hHeld => ?_)
            clear hK K
            refine norm_ (a' := ?_) ?_ ?_
            rotate_left
            ·
             show Act.put _ (some 63) _ = _
             simp only [Act.put, sA, sB, sC, i64_w, i32_w]
             rfl
            exact norm_ (by simp only [putAll, Act.put, List.setIfInBounds_toArray, List.set_cons_zero, List.set_cons_succ]) (hCont (v154, v157, v160) _ ⟨hHeld, (by (with_reducible repeat (first | apply rA | apply rN | apply rD)); exact Kd.R_mono HO158.out (fun _ hk => ⟨hk.2.2.2.2, ⟨hk.1, ⟨hk.2.1, ⟨hk.2.2.1, hk.2.2.2.1⟩⟩⟩⟩)), (by (with_reducible repeat (first | apply rA | apply rN | apply rD)); exact Kd.R_mono HO161.out (fun _ hk => ⟨hk.2, ⟨hk.1.1, ⟨hk.1.2.1, ⟨hk.1.2.2.1, hk.1.2.2.2⟩⟩⟩⟩)), (by (with_reducible repeat (first | apply Kd.Q_alloc | apply Kd.Q_drewN | apply Kd.Q_drew)); exact Kd.Q_mono HO_111002.out (fun _ hk => ⟨hk.2, ⟨hk.1.2.2.2, ⟨hk.1.1, ⟨hk.1.2.1, hk.1.2.2.1⟩⟩⟩⟩)), (rX HO_111003.out), (by (with_reducible repeat (first | apply rA | apply rN | apply rD)); exact Kd.R_mono HO_125002.out (fun _ hk => ⟨hk.2, ⟨hk.1.2.2.2, ⟨hk.1.1, ⟨hk.1.2.1, hk.1.2.2.1⟩⟩⟩⟩)), (rX HO_125003.out), (by (with_reducible repeat (first | apply rA | apply rN | apply rD)); exact Kd.R_mono HO_125004.out (fun _ hk => ⟨hk.2, ⟨hk.1.2.2.2, ⟨hk.1.1, ⟨hk.1.2.1, hk.1.2.2.1⟩⟩⟩⟩)), (by (with_reducible repeat (first | apply Kd.Q_alloc | apply Kd.Q_drewN | apply Kd.Q_drew)); exact Kd.Q_mono HO_134002.out (fun _ hk => ⟨hk.2, ⟨hk.1.2.2.2, ⟨hk.1.1, ⟨hk.1.2.1, hk.1.2.2.1⟩⟩⟩⟩)), (rX HO_134003.out), (kX BK110.out), (kX BK124.out), (kX BK133.out), (bX HB.out)⟩)
           rintro ⟨v154, v157, v160⟩ w81 ⟨hS_, h0_, h1_, h2_, h3_, h4_, h5_, h6_, h7_, h8_, h9_, h10_, h11_, h12_⟩
           have _ : Aside0 (Kd.R Kd.string 9 w81 w.heap.size (fun k_ => some k_ ≠ (v160 : Value).ownBlock ∧ some k_ ≠ (.slice Ao13 t103.length co13 : Value).ownBlock ∧ some k_ ≠ (.slice Ao19 t113.length co19 : Value).ownBlock ∧ some k_ ≠ (.slice Ao21 t119.length co21 : Value).ownBlock ∧ some k_ ≠ (.slice Ao27 t127.length co27 : Value).ownBlock) v157 y156) := ⟨h0_⟩
           have _ : Aside0 (Kd.R Kd.string 9 w81 w.heap.size (fun k_ => some k_ ≠ (v157 : Value).ownBlock ∧ some k_ ≠ (.slice Ao13 t103.length co13 : Value).ownBlock ∧ some k_ ≠ (.slice Ao19 t113.length co19 : Value).ownBlock ∧ some k_ ≠ (.slice Ao21 t119.length co21 : Value).ownBlock ∧ some k_ ≠ (.slice Ao27 t127.length co27 : Value).ownBlock) v160 y159) := ⟨h1_⟩
           have _ : Aside0 (Kd.Q Kd.string 9 w81 w.heap.size (fun k_ => some k_ ≠ (v157 : Value).ownBlock ∧ some k_ ≠ (v160 : Value).ownBlock ∧ some k_ ≠ (.slice Ao19 t113.length co19 : Value).ownBlock ∧ some k_ ≠ (.slice Ao21 t119.length co21 : Value).ownBlock ∧ some k_ ≠ (.slice Ao27 t127.length co27 : Value).ownBlock) (.slice Ao13 t103.length co13) t103) := ⟨h2_⟩
           have _ : Aside0 (Kd.R k36 36 w81 w.heap.size (fun k_ => some k_ ≠ (.slice Ao20 t116.length co20 : Value).ownBlock ∧ some k_ ≠ (.slice Ao28 t130.length co28 : Value).ownBlock) (.slice Ao14 t106.length co14) t106) := ⟨h3_⟩
           have _ : Aside0 (Kd.R Kd.string 9 w81 w.heap.size (fun k_ => some k_ ≠ (v157 : Value).ownBlock ∧ some k_ ≠ (v160 : Value).ownBlock ∧ some k_ ≠ (.slice Ao13 t103.length co13 : Value).ownBlock ∧ some k_ ≠ (.slice Ao21 t119.length co21 : Value).ownBlock ∧ some k_ ≠ (.slice Ao27 t127.length co27 : Value).ownBlock) (.slice Ao19 t113.length co19) t113) := ⟨h4_⟩
           have _ : Aside0 (Kd.R k36 36 w81 w.heap.size (fun k_ => some k_ ≠ (.slice Ao14 t106.length co14 : Value).ownBlock ∧ some k_ ≠ (.slice Ao28 t130.length co28 : Value).ownBlock) (.slice Ao20 t116.length co20) t116) := ⟨h5_⟩
           have _ : Aside0 (Kd.R Kd.string 9 w81 w.heap.size (fun k_ => some k_ ≠ (v157 : Value).ownBlock ∧ some k_ ≠ (v160 : Value).ownBlock ∧ some k_ ≠ (.slice Ao13 t103.length co13 : Value).ownBlock ∧ some k_ ≠ (.slice Ao19 t113.length co19 : Value).ownBlock ∧ some k_ ≠ (.slice Ao27 t127.length co27 : Value).ownBlock) (.slice Ao21 t119.length co21) t119) := ⟨h6_⟩
           have _ : Aside0 (Kd.Q Kd.string 9 w81 w.heap.size (fun k_ => some k_ ≠ (v157 : Value).ownBlock ∧ some k_ ≠ (v160 : Value).ownBlock ∧ some k_ ≠ (.slice Ao13 t103.length co13 : Value).ownBlock ∧ some k_ ≠ (.slice Ao19 t113.length co19 : Value).ownBlock ∧ some k_ ≠ (.slice Ao21 t119.length co21 : Value).ownBlock) (.slice Ao27 t127.length co27) t127) := ⟨h7_⟩
           have _ : Aside0 (Kd.R k36 36 w81 w.heap.size (fun k_ => some k_ ≠ (.slice Ao14 t106.length co14 : Value).ownBlock ∧ some k_ ≠ (.slice Ao20 t116.length co20 : Value).ownBlock) (.slice Ao28 t130.length co28) t130) := ⟨h8_⟩
           have _ : Aside0 (w81.heap[gb110]? = some (.cells #[.string t101, .int .i64 t102, .slice Ao13 t103.length co13, .slice Ao14 t106.length co14] 26 (0, 0))) := ⟨h9_⟩
           have _ : Aside0 (w81.heap[gb124]? = some (.cells #[.string t111, .int .i64 t112, .slice Ao19 t113.length co19, .slice Ao20 t116.length co20, .slice Ao21 t119.length co21, .int .i64 t122, .int .i64 t123] 30 (0, 0))) := ⟨h10_⟩
           have _ : Aside0 (w81.heap[gb133]? = some (.cells #[.string t125, .int .i64 t126, .slice Ao27 t127.length co27, .slice Ao28 t130.length co28] 26 (0, 0))) := ⟨h11_⟩
           have _ : Aside0 (Below w.heap.size w w81) := ⟨h12_⟩
           clear HO_111002 HO_111003 HO_125002 HO_125003 HO_125004 HO_134002 HO_134003 BK110 BK124 BK133 HB h0_ h1_ h2_ h3_ h4_ h5_ h6_ h7_ h8_ h9_ h10_ h11_ h12_
           rename_i HO158 HO161 HO_111002 HO_111003 HO_125002 HO_125003 HO_125004 HO_134002 HO_134003 BK110 BK124 BK133 HB
           have hHeld : w81.cell? ⟨gb124, 0, none⟩ = some (.string t111) ∧ w81.cell? ⟨gb124, 1, none⟩ = some (.int .i64 t112) ∧ w81.cell? ⟨gb124, 2, none⟩ = some (.slice Ao19 t113.length co19) ∧ w81.cell? ⟨gb124, 3, none⟩ = some (.slice Ao20 t116.length co20) ∧ w81.cell? ⟨gb124, 4, none⟩ = some (.slice Ao21 t119.length co21) ∧ w81.cell? ⟨gb124, 5, none⟩ = some (.int .i64 t122) ∧ w81.cell? ⟨gb124, 6, none⟩ = some (.int .i64 t123) ∧ w81.cell? ⟨gb110, 0, none⟩ = some (.string t101) ∧ w81.cell? ⟨gb110, 1, none⟩ = some (.int .i64 t102) ∧ w81.cell? ⟨gb110, 2, none⟩ = some (.slice Ao13 t103.length co13) ∧ w81.cell? ⟨gb110, 3, none⟩ = some (.slice Ao14 t106.length co14) := hS_
           obtain ⟨Ao83, co83, eo83⟩ := Kd.R_slice HO161.out
           (first | subst eo83 | (injection eo83 with f1_ f2_ f3_; have f4_ := f1_.symm; have f5_ := f3_.symm; clear f1_ f2_ f3_; subst f4_; subst f5_))
           refine norm_ (a' := ?_) ?_ ?_
           rotate_left
           ·
            simp only [putAll, Act.put, List.setIfInBounds_toArray, List.set_cons_zero, List.set_cons_succ]
            rfl
           refine one_ (i := 19) (N := some 66) (upTo 20 40) rfl rfl (one_of HT_.out (by kernel_rfl)) (by decide) (fun K hK => ?_)
           refine Kd.R_append_rows_step Kd.string (w0 := w) w.heap.size (by rfl) (.tmp 63) (.tmp 65) 23 9 (.string ⟨#[]⟩) 16 rfl Try.underlying23 info9 rfl (by decide) (by omega) v157 y156 y159 _ _ _ (fun k_ => some k_ ≠ (.slice Ao13 t103.length co13 : Value).ownBlock ∧ some k_ ≠ (.slice Ao19 t113.length co19 : Value).ownBlock ∧ some k_ ≠ (.slice Ao21 t119.length co21 : Value).ownBlock ∧ some k_ ≠ (.slice Ao27 t127.length co27 : Value).ownBlock ∧ some k_ ≠ (.slice Ao83 y159.length co83 : Value).ownBlock) (fun _ => False) rfl rfl ?aO ?aR (fun _ _ h => h) (fun _ h => h.elim) ?aF ?aB ?aS ?aL ?_
           (case aR => repeat (first | exact (Kd.R_reads' HO161.out).2.2 | (with_reducible first | apply cA | apply cN | apply cD)))
           (case aB => exact (bX HB.out))
           (case aF => exact (fun k_ hk => ⟨Kd.fresh' (Kd.Q_lt (qX HO_111002.out)) k_ hk, Kd.fresh' (Kd.R_lt (rX HO_125002.out)) k_ hk, Kd.fresh' (Kd.R_lt (rX HO_125004.out)) k_ hk, Kd.fresh' (Kd.Q_lt (qX HO_134002.out)) k_ hk, Kd.fresh' (Kd.R_lt (rX HO161.out)) k_ hk⟩))
           (case aO => exact (by (with_reducible repeat (first | apply rA | apply rN | apply rD)); exact Kd.R_mono HO158.out (fun _ hk => ⟨hk.2.1, ⟨hk.2.2.1, ⟨hk.2.2.2.1, ⟨hk.2.2.2.2, hk.1⟩⟩⟩⟩)))
           (case aS => exact (bZ (bX HB.out)))
           (case aL => have := LMc69.out; omega)
           intro v163 w82 ho hb hg hat
           rw [← Ny162.out] at ho
           have _ := AM (Kd.Q_after (ok := (fun k_ => some k_ ≠ (.slice Ao19 t113.length co19 : Value).ownBlock ∧ some k_ ≠ (.slice Ao21 t119.length co21 : Value).ownBlock ∧ some k_ ≠ (.slice Ao27 t127.length co27 : Value).ownBlock ∧ some k_ ≠ (.slice Ao83 y159.length co83 : Value).ownBlock)) (by (with_reducible repeat (first | apply Kd.Q_alloc | apply Kd.Q_drewN | apply Kd.Q_drew)); exact Kd.Q_mono HO_111002.out (fun _ hk => ⟨⟨hk.2.2.1, ⟨hk.2.2.2.1, ⟨hk.2.2.2.2, hk.2.1⟩⟩⟩, hk.1⟩)) hg hat)
           have _ := AM (Kd.R_over' (rX HO_111003.out) (Kd.R_typed (rX HO158.out)) (by decide) hg)
           have _ := AM (Kd.R_after (ok := (fun k_ => some k_ ≠ (.slice Ao13 t103.length co13 : Value).ownBlock ∧ some k_ ≠ (.slice Ao21 t119.length co21 : Value).ownBlock ∧ some k_ ≠ (.slice Ao27 t127.length co27 : Value).ownBlock ∧ some k_ ≠ (.slice Ao83 y159.length co83 : Value).ownBlock)) (by (with_reducible repeat (first | apply rA | apply rN | apply rD)); exact Kd.R_mono HO_125002.out (fun _ hk => ⟨⟨hk.2.2.1, ⟨hk.2.2.2.1, ⟨hk.2.2.2.2, hk.2.1⟩⟩⟩, hk.1⟩)) hg hat)
           have _ := AM (Kd.R_over' (rX HO_125003.out) (Kd.R_typed (rX HO158.out)) (by decide) hg)
           have _ := AM (Kd.R_after (ok := (fun k_ => some k_ ≠ (.slice Ao13 t103.length co13 : Value).ownBlock ∧ some k_ ≠ (.slice Ao19 t113.length co19 : Value).ownBlock ∧ some k_ ≠ (.slice Ao27 t127.length co27 : Value).ownBlock ∧ some k_ ≠ (.slice Ao83 y159.length co83 : Value).ownBlock)) (by (with_reducible repeat (first | apply rA | apply rN | apply rD)); exact Kd.R_mono HO_125004.out (fun _ hk => ⟨⟨hk.2.2.1, ⟨hk.2.2.2.1, ⟨hk.2.2.2.2, hk.2.1⟩⟩⟩, hk.1⟩)) hg hat)
           have _ := AM (Kd.Q_after (ok := (fun k_ => some k_ ≠ (.slice Ao13 t103.length co13 : Value).ownBlock ∧ some k_ ≠ (.slice Ao19 t113.length co19 : Value).ownBlock ∧ some k_ ≠ (.slice Ao21 t119.length co21 : Value).ownBlock ∧ some k_ ≠ (.slice Ao83 y159.length co83 : Value).ownBlock)) (by (with_reducible repeat (first | apply Kd.Q_alloc | apply Kd.Q_drewN | apply Kd.Q_drew)); exact Kd.Q_mono HO_134002.out (fun _ hk => ⟨⟨hk.2.2.1, ⟨hk.2.2.2.1, ⟨hk.2.2.2.2, hk.2.1⟩⟩⟩, hk.1⟩)) hg hat)
           have _ := AM (Kd.R_over' (rX HO_134003.out) (Kd.R_typed (rX HO158.out)) (by decide) hg)
           have _ := AM (blk_grown (g := gb110) (o := .cells #[.string t101, .int .i64 t102, .slice Ao13 t103.length co13, .slice Ao14 t106.length co14] 26 (0, 0)) (kX BK110.out) hg (Kd.R_ne HO158.out BK110.out (by decide)))
           have _ := AM (blk_grown (g := gb124) (o := .cells #[.string t111, .int .i64 t112, .slice Ao19 t113.length co19, .slice Ao20 t116.length co20, .slice Ao21 t119.length co21, .int .i64 t122, .int .i64 t123] 30 (0, 0)) (kX BK124.out) hg (Kd.R_ne HO158.out BK124.out (by decide)))
           have _ := AM (blk_grown (g := gb133) (o := .cells #[.string t125, .int .i64 t126, .slice Ao27 t127.length co27, .slice Ao28 t130.length co28] 26 (0, 0)) (kX BK133.out) hg (Kd.R_ne HO158.out BK133.out (by decide)))
           have _ := AM (Kd.R_after (ok := (fun k_ => some k_ ≠ (.slice Ao13 t103.length co13 : Value).ownBlock ∧ some k_ ≠ (.slice Ao19 t113.length co19 : Value).ownBlock ∧ some k_ ≠ (.slice Ao21 t119.length co21 : Value).ownBlock ∧ some k_ ≠ (.slice Ao27 t127.length co27 : Value).ownBlock)) (by (with_reducible repeat (first | apply rA | apply rN | apply rD)); exact Kd.R_mono HO161.out (fun _ hk => ⟨⟨hk.2.1, ⟨hk.2.2.1, ⟨hk.2.2.2.1, hk.2.2.2.2⟩⟩⟩, hk.1⟩)) hg hat)
           have _ := AM (hb)
           have _ := AM (ho)
           clear HO_111002 HO_111003 HO_125002 HO_125003 HO_125004 HO_134002 HO_134003 BK110 BK124 BK133 HO161 HB HO158
           rename_i HO_111002 HO_111003 HO_125002 HO_125003 HO_125004 HO_134002 HO_134003 BK110 BK124 BK133 HO161 HB HO164
           clear ho hb hg hat
           obtain ⟨Ao84, co84, eo84⟩ := Kd.R_slice HO164.out
           (first | subst eo84 | (injection eo84 with f1_ f2_ f3_; have f4_ := f1_.symm; have f5_ := f3_.symm; clear f1_ f2_ f3_; subst f4_; subst f5_))
           refine hK.out _ _ ⟨(kC BK124.out 0).trans rfl, (kC BK124.out 1).trans rfl, (kC BK124.out 2).trans rfl, (kC BK124.out 3).trans rfl, (kC BK124.out 4).trans rfl, (kC BK124.out 5).trans rfl, (kC BK124.out 6).trans rfl, (kC BK110.out 0).trans rfl, (kC BK110.out 1).trans rfl, (kC BK110.out 2).trans rfl, (kC BK110.out 3).trans rfl⟩ (fun hHeld => ?_)
           clear hK K
           refine norm_ (a' := ?_) ?_ ?_
           rotate_left
           ·
            show Act.put _ (some 66) _ = _
            simp only [Act.put, sA, sB, sC, i64_w, i32_w]
            rfl
           refine one_ (i := 20) (N := some 67) (upTo 21 40) rfl rfl (one_of HT_.out (by kernel_rfl)) (by decide) (fun K hK => ?_)
           refine goes_ Try.func10 (by kernel_rfl) rfl #[.slice Ao19 t113.length co19, .slice Ao84 y162.length co84] (by rfl) rfl rfl (by (try simp only [mA, mB, mC]); first | done | rfl | (simp only [mD, mE]; rfl)) ?_
           with_reducible refine (laws_lwTexts.calls kj8 _ _ t113 _ _ y162 true _ ?side1 ?side2 ?side3 ?side4 A70.out).mono ?_
           (case side1 => repeat (first | exact (Kd.R_reads' HO_125002.out).2.2 | (with_reducible first | apply cA | apply cN | apply cD)))
           (case side2 => exact (Kd.R_reads' HO_125002.out).2.1)
           (case side3 => repeat (first | exact (Kd.R_reads' HO164.out).2.2 | (with_reducible first | apply cA | apply cN | apply cD)))
           (case side4 => exact (Kd.R_reads' HO164.out).2.1)
           rintro e w' ⟨rfl, ⟨nd, rfl⟩⟩
           refine ⟨_, rfl, ?_⟩
           refine hK.out _ _ ⟨(kC BK124.out 0).trans rfl, (kC BK124.out 1).trans rfl, (kC BK124.out 2).trans rfl, (kC BK124.out 3).trans rfl, (kC BK124.out 4).trans rfl, (kC BK124.out 5).trans rfl, (kC BK124.out 6).trans rfl, (kC BK110.out 0).trans rfl, (kC BK110.out 1).trans rfl, (kC BK110.out 2).trans rfl, (kC BK110.out 3).trans rfl⟩ (fun hHeld => ?_)
           clear hK K
           refine norm_ (a' := ?_) ?_ ?_
           rotate_left
           ·
            show Act.put _ (some 67) _ = _
            simp only [Act.put, sA, sB, sC, i64_w, i32_w]
            rfl
           refine pF 21 22 40 68 ?_
           refine pF 22 23 40 69 ?_
           refine pF 23 24 40 70 ?_
           refine pF 24 25 40 71 ?_
           refine pF2 26 73 laws_FnPublish.b11 ?_
           refine pT2 25 72 (upTo 27 40) ?_ hHeld
           refine pT2 27 74 (upTo 28 40) ?_ hHeld
           refine one_ (i := 28) (N := some 75) (upTo 29 40) rfl rfl (one_of HT_.out (by kernel_rfl)) (by decide) (fun K hK => ?_)
           refine goes_ Try.func18 (by kernel_rfl) rfl #[.slice Ao20 t116.length co20, .slice Ao14 t106.length co14] (by rfl) rfl rfl (by (try simp only [mA, mB, mC]); first | done | rfl | (simp only [mD, mE]; rfl)) ?_
           with_reducible refine (laws_lwGroups.calls kj8 _ _ t116 _ _ t106 true _ ?side1 ?side2 ?side3 ?side4 A72.out).mono ?_
           (case side1 => repeat (first | exact (Kd.R_reads' HO_125003.out).2.2 | (with_reducible first | apply cA | apply cN | apply cD)))
           (case side2 => exact (Kd.R_reads' HO_125003.out).2.1)
           (case side3 => repeat (first | exact (Kd.R_reads' HO_111003.out).2.2 | (with_reducible first | apply cA | apply cN | apply cD)))
           (case side4 => exact (Kd.R_reads' HO_111003.out).2.1)
           rintro e w' ⟨rfl, ⟨nd, rfl⟩⟩
           refine ⟨_, rfl, ?_⟩
           refine hK.out _ _ ⟨(kC BK124.out 0).trans rfl, (kC BK124.out 1).trans rfl, (kC BK124.out 2).trans rfl, (kC BK124.out 3).trans rfl, (kC BK124.out 4).trans rfl, (kC BK124.out 5).trans rfl, (kC BK124.out 6).trans rfl, (kC BK110.out 0).trans rfl, (kC BK110.out 1).trans rfl, (kC BK110.out 2).trans rfl, (kC BK110.out 3).trans rfl⟩ (fun hHeld => ?_)
           clear hK K
           refine norm_ (a' := ?_) ?_ ?_
           rotate_left
           ·
            show Act.put _ (some 75) _ = _
            simp only [Act.put, sA, sB, sC, i64_w, i32_w]
            rfl
           refine pF 29 30 40 76 ?_
           refine pF 30 31 40 77 ?_
           refine pF 31 32 40 78 ?_
           refine pF 32 33 40 79 ?_
           refine pF2 34 81 laws_FnPublish.b12 ?_
           refine pT2 33 80 (upTo 35 40) ?_ hHeld
           refine pT2 35 82 (upTo 36 40) ?_ hHeld
           refine pF 36 37 40 83 ?_
           refine pF 37 38 40 84 ?_
           refine pF 38 39 40 85 ?_
           refine pF 39 40 40 4 ?_
           refine done_ (done_of HT_.out (by kernel_rfl)) ?_
           try go_wp2
           go_ret
           exact ⟨by first | rfl | (simp [*, errW_none, errW_some] <;> rfl), bX HB.out⟩
          replace c73 := Bool.eq_false_iff.mpr c73
          subst c73
          have H1 : (none) = some r := by rw [if_neg (show ¬ (false = true) by decide)] at H; exact H
          clear H
          have H := H1
          clear H1
          exact absurd H (by simp)
         replace c71 := Bool.eq_false_iff.mpr c71
         subst c71
         have H1 : (none) = some r := by rw [if_neg (show ¬ (false = true) by decide)] at H; exact H
         clear H
         have H := H1
         clear H1
         exact absurd H (by simp)
        rw [if_neg c69] at H
        exact absurd H (by simp)
       rw [if_neg c68] at H
       exact absurd H (by simp)
      rw [if_neg c67] at H
      have c67b0 : (t122 == t152) = false := beq_eq_false_iff_ne.mpr c67
      have c67b1 : (t122 != t152) = true := bne_iff_ne.mpr c67
      exact absurd H (by simp)
     rw [if_neg c65] at H
     have c65b0 : (t123 == 0) = false := beq_eq_false_iff_ne.mpr c65
     have c65b1 : (t123 != 0) = true := bne_iff_ne.mpr c65
     obtain rfl := Option.some.inj H
     try go_wp2
     have _ := AM (Kd.Q_drew HO_111002.out)
     have _ := AM (rD HO_111003.out)
     have _ := AM (rD HO_125002.out)
     have _ := AM (rD HO_125003.out)
     have _ := AM (rD HO_125004.out)
     have _ := AM (Kd.Q_drew HO_134002.out)
     have _ := AM (rD HO_134003.out)
     have _ := AM (kD BK110.out)
     have _ := AM (kD BK124.out)
     have _ := AM (kD BK133.out)
     have _ := AM (bD HB.out)
     clear HO_111002 HO_111003 HO_125002 HO_125003 HO_125004 HO_134002 HO_134003 BK110 BK124 BK133 HB
     rename_i HO_111002 HO_111003 HO_125002 HO_125003 HO_125004 HO_134002 HO_134003 BK110 BK124 BK133 HB
     refine start_ (n := 40) (S := fun w' => w'.cell? ⟨gb124, 0, none⟩ = some (.string t111) ∧ w'.cell? ⟨gb124, 1, none⟩ = some (.int .i64 t112) ∧ w'.cell? ⟨gb124, 2, none⟩ = some (.slice Ao19 t113.length co19) ∧ w'.cell? ⟨gb124, 3, none⟩ = some (.slice Ao20 t116.length co20) ∧ w'.cell? ⟨gb124, 4, none⟩ = some (.slice Ao21 t119.length co21) ∧ w'.cell? ⟨gb124, 5, none⟩ = some (.int .i64 t122) ∧ w'.cell? ⟨gb124, 6, none⟩ = some (.int .i64 t123)) (ds := []) (upTo 0 40) (by kernel_rfl) rfl rfl ⟨(kC BK124.out 0).trans rfl, (kC BK124.out 1).trans rfl, (kC BK124.out 2).trans rfl, (kC BK124.out 3).trans rfl, (kC BK124.out 4).trans rfl, (kC BK124.out 5).trans rfl, (kC BK124.out 6).trans rfl⟩ (fun hHeld => ?_); refine with_tabW laws_FnPublish.tab8 laws_FnPublish.bits8 (fun HT_ HW_ => ?_)
     generalize wc.drew = w85 at HO_111002 HO_111003 HO_125002 HO_125003 HO_125004 HO_134002 HO_134003 BK110 BK124 BK133 HB hHeld ⊢
     refine pF 0 1 40 47 ?_
     refine pT2 1 48 (upTo 2 40) ?_ hHeld
     refine pF 2 3 40 49 ?_
     refine pF 3 4 40 50 ?_
     refine pU 4 5 40 51 ?_
     refine pU 5 6 40 52 ?_
     refine pU 6 7 40 53 ?_
     refine pU 7 8 40 54 ?_
     refine pU 8 9 40 55 ?_
     refine pU 9 10 40 56 ?_
     refine pU 10 11 40 57 ?_
     refine pU 11 12 40 58 ?_
     refine pU 12 13 40 59 ?_
     refine pU 13 14 40 60 ?_
     refine pU 14 15 40 61 ?_
     refine pU 15 16 40 62 ?_
     refine pU 16 17 40 63 ?_
     refine pU 17 18 40 64 ?_
     refine pU 18 19 40 65 ?_
     refine pU 19 20 40 66 ?_
     refine pU 20 21 40 67 ?_
     refine pU 21 22 40 68 ?_
     refine pU 22 23 40 69 ?_
     refine pU 23 24 40 70 ?_
     refine pU 24 25 40 71 ?_
     refine pU 25 26 40 72 ?_
     refine pU 26 27 40 73 ?_
     refine pU 27 28 40 74 ?_
     refine pU 28 29 40 75 ?_
     refine pU 29 30 40 76 ?_
     refine pU 30 31 40 77 ?_
     refine pU 31 32 40 78 ?_
     refine pU 32 33 40 79 ?_
     refine pU 33 34 40 80 ?_
     refine pU 34 35 40 81 ?_
     refine pU 35 36 40 82 ?_
     refine pU 36 37 40 83 ?_
     refine pU 37 38 40 84 ?_
     refine pF 38 39 40 85 ?_
     refine pF 39 40 40 4 ?_
     refine done_ (done_of HT_.out (by kernel_rfl)) ?_
     try go_wp2
     go_ret
     exact ⟨by first | rfl | (simp [*, errW_none, errW_some] <;> rfl), bX HB.out⟩

end Go.Proofs.Ytcnilcipcnjmjaa.Q
