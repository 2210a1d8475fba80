/- Printed by a program of this session (wip/mp.py over the kit's print.py): functions of the translation as plain Lean functions, and that the machine's calls do what these say. -/
import Derived.Test.YtcnilcipcnjmjaaQx0
import Derived.Test.YtcnilcipcnjmjaaQx4
import Derived.Test.YtcnilcipcnjmjaaQx11
import Derived.Test.YtcnilcipcnjmjaaQx12
import Derived.Test.YtcnilcipcnjmjaaQx13
import Derived.Test.YtcnilcipcnjmjaaQx16
namespace Go.Proofs.Ytcnilcipcnjmjaa.Q
open Go.RowKit Go.Proofs.Ytcnilcipcnjmjaa.HB Go.Proofs.YtcnilcipcnjmjaaW.PrintWords Go.Proofs.YtcnilcipcnjmjaaW.PrintLast Go.Proofs.YtcnilcipcnjmjaaW.PrintMore
attribute [local go_sem] max2_int min2_int max_two min_two max_three min_three max_four min_four   -- for this text's walks alone
set_option linter.unusedVariables false
set_option linter.unusedSimpArgs false

/-! ### laws_FnRetain: function 3 -/
abbrev laws_FnRetain.b0 : Array Bool := #[false, false, true, false, false, false, false, false, false, false, false]
abbrev laws_FnRetain.b1 : Array Bool := #[true, false, true, false, false, false, false, false, false, false, false]
abbrev laws_FnRetain.b2 : Array Bool := #[true, true, true, true, true, true, true, false, true, false, false, false, false, false, false, false, false, false, false, false, false, false, false, false, false, false, false, false, false, false, false, false, false, false, false, false, false, false, false, false, false, false, false]
abbrev laws_FnRetain.b3 : Array Bool := #[true, true, true, true, true, true, true, true, true, true, true, true, true, true, true, false, true, false, false, false, false, false, false, false, false, false, false, false, false, false, false, false, false, false, false, false, false, false, false, false, false, false, false]
abbrev laws_FnRetain.b4 : Array Bool := #[true, true, true, true, true, true, true, true, true, true, true, true, true, true, true, false, true, false, true, false, false, false, false, false, false, false, false, false, false, false, false, false, false, false, false, false, false, false, false, false, false, false, false]
abbrev laws_FnRetain.b5 : Array Bool := #[true, true, true, true, true, true, true, true, true, true, true, true, true, true, true, true, true, false, true, false, false, false, false, false, false, false, false, false, false, false, false, false, false, false, false, false, false, false, false, false, false, false, false]
abbrev laws_FnRetain.b6 : Array Bool := #[true, true, true, true, true, true, true, true, true, true, true, true, true, true, true, true, true, true, true, true, true, true, true, true, true, true, false, false, true, false, false, false, false, false, false, false, false, false, false, false, false, false, false]
abbrev laws_FnRetain.b7 : Array Bool := #[true, true, true, true, true, true, true, true, true, true, true, true, true, true, true, true, true, true, true, true, true, true, true, true, true, true, true, false, true, false, false, false, false, false, false, false, false, false, false, false, false, false, false]
abbrev laws_FnRetain.b8 : Array Bool := #[true, true, true, true, true, true, true, true, true, true, true, true, true, true, true, true, true, true, true, true, true, true, true, true, true, true, true, true, true, true, true, true, true, true, true, true, true, false, false, true, false, false, false]
abbrev laws_FnRetain.b9 : Array Bool := #[true, true, true, true, true, true, true, true, true, true, true, true, true, true, true, true, true, true, true, true, true, true, true, true, true, true, true, true, true, true, true, true, true, true, true, true, true, true, false, true, false, false, false]
abbrev laws_FnRetain.b10 : Array Bool := #[true, true, false, true, false, false, false, false, false, false, false, false, false, false, false, false, false, false, false, false, false, false, false, false, false, false, false, false, false, false, false, false, false, false, false, false, false, false, false, false, false, false, false]
abbrev laws_FnRetain.b11 : Array Bool := #[true, true, false, true, false, false, false, true, false, false, false, false, false, false, false, false, false, false, false, false, false, false, false, false, false, false, false, false, false, false, false, false, false, false, false, false, false, false, false, false, false, false, false]
abbrev laws_FnRetain.b12 : Array Bool := #[true, true, false, true, false, false, false, true, false, true, false, false, false, false, false, false, false, false, false, false, false, false, false, false, false, false, false, false, false, false, false, false, false, false, false, false, false, false, false, false, false, false, false]
abbrev laws_FnRetain.b13 : Array Bool := #[true, true, true, true, false, false, false, true, false, true, false, false, false, false, false, false, false, false, false, false, false, false, false, false, false, false, false, false, false, false, false, false, false, false, false, false, false, false, false, false, false, false, false]
abbrev laws_FnRetain.b14 : Array Bool := #[true, true, true, true, true, false, false, true, false, true, false, false, false, false, false, false, false, false, false, false, false, false, false, false, false, false, false, false, false, false, false, false, false, false, false, false, false, false, false, false, false, false, false]
abbrev laws_FnRetain.b15 : Array Bool := #[true, true, true, true, true, true, false, true, false, true, false, false, false, false, false, false, false, false, false, false, false, false, false, false, false, false, false, false, false, false, false, false, false, false, false, false, false, false, false, false, false, false, false]
abbrev laws_FnRetain.b16 : Array Bool := #[true, true, true, true, true, true, true, true, false, true, false, false, false, false, false, false, false, false, false, false, false, false, false, false, false, false, false, false, false, false, false, false, false, false, false, false, false, false, false, false, false, false, false]
abbrev laws_FnRetain.b17 : Array Bool := #[true, true, true, true, true, true, true, true, true, true, true, true, true, true, true, true, true, false, true, false, false, false, true, false, false, false, false, false, false, false, false, false, false, false, false, false, false, false, false, false, false, false, false]
abbrev laws_FnRetain.b18 : Array Bool := #[true, true, true, true, true, true, true, true, true, true, true, true, true, true, true, true, true, false, true, false, false, false, true, false, true, false, false, false, false, false, false, false, false, false, false, false, false, false, false, false, false, false, false]
abbrev laws_FnRetain.b19 : Array Bool := #[true, true, true, true, true, true, true, true, true, true, true, true, true, true, true, true, true, true, true, false, false, false, true, false, true, false, false, false, false, false, false, false, false, false, false, false, false, false, false, false, false, false, false]
abbrev laws_FnRetain.b20 : Array Bool := #[true, true, true, true, true, true, true, true, true, true, true, true, true, true, true, true, true, true, true, true, false, false, true, false, true, false, false, false, false, false, false, false, false, false, false, false, false, false, false, false, false, false, false]
abbrev laws_FnRetain.b21 : Array Bool := #[true, true, true, true, true, true, true, true, true, true, true, true, true, true, true, true, true, true, true, true, true, false, true, false, true, false, false, false, false, false, false, false, false, false, false, false, false, false, false, false, false, false, false]
abbrev laws_FnRetain.b22 : Array Bool := #[true, true, true, true, true, true, true, true, true, true, true, true, true, true, true, true, true, true, true, true, true, true, true, false, true, false, false, false, false, false, false, false, false, false, false, false, false, false, false, false, false, false, false]
abbrev laws_FnRetain.b23 : Array Bool := #[true, true, true, true, true, true, true, true, true, true, true, true, true, true, true, true, true, true, true, true, true, true, true, true, true, true, true, true, true, true, true, true, false, true, false, false, false, false, false, false, false, false, false]
abbrev laws_FnRetain.b24 : Array Bool := #[true, true, true, true, true, true, true, true, true, true, true, true, true, true, true, true, true, true, true, true, true, true, true, true, true, true, true, true, true, true, true, true, false, true, false, false, false, true, false, false, false, false, false]
abbrev laws_FnRetain.b25 : Array Bool := #[true, true, true, true, true, true, true, true, true, true, true, true, true, true, true, true, true, true, true, true, true, true, true, true, true, true, true, true, true, true, true, true, false, true, false, false, false, true, true, false, false, false, false]
abbrev laws_FnRetain.b26 : Array Bool := #[true, true, true, true, true, true, true, true, true, true, true, true, true, true, true, true, true, true, true, true, true, true, true, true, true, true, true, true, true, true, true, true, true, true, false, false, false, true, true, false, false, false, false]
abbrev laws_FnRetain.b27 : Array Bool := #[true, true, true, true, true, true, true, true, true, true, true, true, true, true, true, true, true, true, true, true, true, true, true, true, true, true, true, true, true, true, true, true, true, true, true, false, false, true, true, false, false, false, false]
abbrev laws_FnRetain.b28 : Array Bool := #[true, true, true, true, true, true, true, true, true, true, true, true, true, true, true, true, true, true, true, true, true, true, true, true, true, true, true, true, true, true, true, true, true, true, true, true, false, true, true, false, false, false, false]
mutual
def laws_FnRetain.j0 : Nat → Int → Bool → ByteArray → Int → List ByteArray → List (S36) → ByteArray → Int → List ByteArray → List (S36) → List ByteArray → Int → Int → Option (Bool)
  | 0, _, _, _, _, _, _, _, _, _, _, _, _, _ => none
  | k + 1, x4, x29, x111000, x111001, x111002, x111003, x125000, x125001, x125002, x125003, x125004, x125005, x125006 => if x29 = true then ((spec_TopicRetain.f k x111000 x111001 x111002 x111003 x4).bind fun bt139 => ((laws_lwTopics.f k x125000 x125001 x125002 x125003 x125004 x125005 x125006 bt139.1 bt139.2.1 bt139.2.2.1 bt139.2.2.2.1 bt139.2.2.2.2.1 bt139.2.2.2.2.2.1 bt139.2.2.2.2.2.2).bind fun t152 => (some t152))) else (if (wrap64 (x125001 - x111001)) = x125005 then ((spec_TopicEnd.f k x125000 x125001 x125002 x125003).bind fun t153 => ((spec_TopicEnd.f k x111000 x111001 x111002 x111003).bind fun t154 => (if t153 = t154 then (if 0 ≤ (wrap64 (x125001 - x111001)) then (if (wrap64 (x125001 - x111001)) ≤ (x111002.length : Int) then ((laws_lwTexts.f k x125002 (x111002.drop ((wrap64 (x125001 - x111001)) : Int).toNat)).bind fun t159 => (if t159 = true then (if (x125002.length : Int) > x4 then (laws_FnRetain.j1 k true x111000 x111001 x111002 x111003 x125000 x125001 x125002 x125003 x125004 x125005 x125006) else (if (wrap64 (x125001 - x111001)) > 0 then (laws_FnRetain.j1 k ((x125002.length : Int) != x4) x111000 x111001 x111002 x111003 x125000 x125001 x125002 x125003 x125004 x125005 x125006) else (laws_FnRetain.j1 k false x111000 x111001 x111002 x111003 x125000 x125001 x125002 x125003 x125004 x125005 x125006))) else (laws_FnRetain.j1 k true x111000 x111001 x111002 x111003 x125000 x125001 x125002 x125003 x125004 x125005 x125006))) else (none)) else (none)) else (laws_FnRetain.j1 k true x111000 x111001 x111002 x111003 x125000 x125001 x125002 x125003 x125004 x125005 x125006)))) else (laws_FnRetain.j1 k true x111000 x111001 x111002 x111003 x125000 x125001 x125002 x125003 x125004 x125005 x125006))
def laws_FnRetain.j1 : Nat → Bool → ByteArray → Int → List ByteArray → List (S36) → ByteArray → Int → List ByteArray → List (S36) → List ByteArray → Int → Int → Option (Bool)
  | 0, _, _, _, _, _, _, _, _, _, _, _, _ => none
  | k + 1, x83, x111000, x111001, x111002, x111003, x125000, x125001, x125002, x125003, x125004, x125005, x125006 => if x83 = true then (none) else (laws_FnRetain.l0 k 0 x111000 x111001 x111002 x111003 x125000 x125001 x125002 x125003 x125004 x125005 x125006)
def laws_FnRetain.l0 : Nat → Int → ByteArray → Int → List ByteArray → List (S36) → ByteArray → Int → List ByteArray → List (S36) → List ByteArray → Int → Int → Option (Bool)
  | 0, _, _, _, _, _, _, _, _, _, _, _, _ => none
  | k + 1, x7, x111000, x111001, x111002, x111003, x125000, x125001, x125002, x125003, x125004, x125005, x125006 => if x7 < (x111003.length : Int) then (if 0 ≤ x7 then (if x7 < (x125003.length : Int) then (if ((rd_T36 x125003 x7).f1) < ((rd_T36 x111003 x7).f1) then (none) else (if ((rd_T36 x125003 x7).f1) > ((rd_T36 x111003 x7).f1) then (if ((rd_T36 x125003 x7).f1) = x125001 then (laws_FnRetain.l0 k (wrap64 (x7 + 1)) x111000 x111001 x111002 x111003 x125000 x125001 x125002 x125003 x125004 x125005 x125006) else (none)) else (laws_FnRetain.l0 k (wrap64 (x7 + 1)) x111000 x111001 x111002 x111003 x125000 x125001 x125002 x125003 x125004 x125005 x125006))) else (none)) else (none)) else (some true)
end
def laws_FnRetain.f (k : Nat) (l0 : List Int) : Option (Bool) := if (l0.length : Int) > 1048576 then (some true) else ((spec_DrawTopicRetain.f k l0).bind fun bt101 => ((impl_TopicRetain.f k bt101.1 bt101.2.1 bt101.2.2.1 bt101.2.2.2.1 bt101.2.2.2.2).bind fun bt111 => ((spec_TopicRetain.f k bt101.1 bt101.2.1 bt101.2.2.1 bt101.2.2.2.1 bt101.2.2.2.2).bind fun bt125 => ((laws_lwTopics.f k bt111.1 bt111.2.1 bt111.2.2.1 bt111.2.2.2.1 bt111.2.2.2.2.1 bt111.2.2.2.2.2.1 bt111.2.2.2.2.2.2 bt125.1 bt125.2.1 bt125.2.2.1 bt125.2.2.2.1 bt125.2.2.2.2.1 bt125.2.2.2.2.2.1 bt125.2.2.2.2.2.2).bind fun t138 => (if t138 = true then (laws_FnRetain.j0 k bt101.2.2.2.2 (bt111.2.2.2.2.2.2 != 0) bt101.1 bt101.2.1 bt101.2.2.1 bt101.2.2.2.1 bt111.1 bt111.2.1 bt111.2.2.1 bt111.2.2.2.1 bt111.2.2.2.2.1 bt111.2.2.2.2.2.1 bt111.2.2.2.2.2.2) else (laws_FnRetain.j0 k bt101.2.2.2.2 true bt101.1 bt101.2.1 bt101.2.2.1 bt101.2.2.2.1 bt111.1 bt111.2.1 bt111.2.2.1 bt111.2.2.2.1 bt111.2.2.2.2.1 bt111.2.2.2.2.2.1 bt111.2.2.2.2.2.2))))))
theorem laws_FnRetain.mono_l : ∀ k, (∀ y0 y1 y2 y3 y4 y5 y6 y7 y8 y9 y10 y11 y12, LeO (laws_FnRetain.j0 k y0 y1 y2 y3 y4 y5 y6 y7 y8 y9 y10 y11 y12) (laws_FnRetain.j0 (k + 1) y0 y1 y2 y3 y4 y5 y6 y7 y8 y9 y10 y11 y12)) ∧ (∀ y0 y1 y2 y3 y4 y5 y6 y7 y8 y9 y10 y11, LeO (laws_FnRetain.j1 k y0 y1 y2 y3 y4 y5 y6 y7 y8 y9 y10 y11) (laws_FnRetain.j1 (k + 1) y0 y1 y2 y3 y4 y5 y6 y7 y8 y9 y10 y11)) ∧ (∀ y0 y1 y2 y3 y4 y5 y6 y7 y8 y9 y10 y11, LeO (laws_FnRetain.l0 k y0 y1 y2 y3 y4 y5 y6 y7 y8 y9 y10 y11) (laws_FnRetain.l0 (k + 1) y0 y1 y2 y3 y4 y5 y6 y7 y8 y9 y10 y11))
  | 0 => ⟨fun _ _ _ _ _ _ _ _ _ _ _ _ _ r h => by simp [laws_FnRetain.j0] at h, fun _ _ _ _ _ _ _ _ _ _ _ _ r h => by simp [laws_FnRetain.j1] at h, fun _ _ _ _ _ _ _ _ _ _ _ _ r h => by simp [laws_FnRetain.l0] at h⟩
  | k + 1 => by
    obtain ⟨ih0, ih1, ih2⟩ := laws_FnRetain.mono_l k
    refine ⟨?_, ?_, ?_⟩
    · intro y0 y1 y2 y3 y4 y5 y6 y7 y8 y9 y10 y11 y12
      unfold laws_FnRetain.j0
      repeat' first
      | (with_reducible exact ih0 _ _ _ _ _ _ _ _ _ _ _ _ _)
      | (with_reducible exact ih1 _ _ _ _ _ _ _ _ _ _ _ _)
      | (with_reducible exact ih2 _ _ _ _ _ _ _ _ _ _ _ _)
      | (with_reducible exact impl_TopicRetain.mono _ _ _ _ _ _)
      | (with_reducible exact laws_lwTexts.mono _ _ _)
      | (with_reducible exact laws_lwTopics.mono _ _ _ _ _ _ _ _ _ _ _ _ _ _ _)
      | (with_reducible exact spec_DrawTopicRetain.mono _ _)
      | (with_reducible exact spec_TopicEnd.mono _ _ _ _ _)
      | (with_reducible exact spec_TopicRetain.mono _ _ _ _ _ _)
      | (with_reducible exact LeO.refl _)
      | (with_reducible exact LeO.none _)
      | (with_reducible refine LeO.ite ?_ ?_)
      | (with_reducible refine LeO.bind ?_ (fun _ => ?_))
      | exact ih0 _ _ _ _ _ _ _ _ _ _ _ _ _
      | exact ih1 _ _ _ _ _ _ _ _ _ _ _ _
      | exact ih2 _ _ _ _ _ _ _ _ _ _ _ _
      | exact impl_TopicRetain.mono _ _ _ _ _ _
      | exact laws_lwTexts.mono _ _ _
      | exact laws_lwTopics.mono _ _ _ _ _ _ _ _ _ _ _ _ _ _ _
      | exact spec_DrawTopicRetain.mono _ _
      | exact spec_TopicEnd.mono _ _ _ _ _
      | exact spec_TopicRetain.mono _ _ _ _ _ _
      | exact LeO.none _
      | refine LeO.ite ?_ ?_
      | refine LeO.bind ?_ (fun _ => ?_)
    · intro y0 y1 y2 y3 y4 y5 y6 y7 y8 y9 y10 y11
      unfold laws_FnRetain.j1
      repeat' first
      | (with_reducible exact ih0 _ _ _ _ _ _ _ _ _ _ _ _ _)
      | (with_reducible exact ih1 _ _ _ _ _ _ _ _ _ _ _ _)
      | (with_reducible exact ih2 _ _ _ _ _ _ _ _ _ _ _ _)
      | (with_reducible exact impl_TopicRetain.mono _ _ _ _ _ _)
      | (with_reducible exact laws_lwTexts.mono _ _ _)
      | (with_reducible exact laws_lwTopics.mono _ _ _ _ _ _ _ _ _ _ _ _ _ _ _)
      | (with_reducible exact spec_DrawTopicRetain.mono _ _)
      | (with_reducible exact spec_TopicEnd.mono _ _ _ _ _)
      | (with_reducible exact spec_TopicRetain.mono _ _ _ _ _ _)
      | (with_reducible exact LeO.refl _)
      | (with_reducible exact LeO.none _)
      | (with_reducible refine LeO.ite ?_ ?_)
      | (with_reducible refine LeO.bind ?_ (fun _ => ?_))
      | exact ih0 _ _ _ _ _ _ _ _ _ _ _ _ _
      | exact ih1 _ _ _ _ _ _ _ _ _ _ _ _
      | exact ih2 _ _ _ _ _ _ _ _ _ _ _ _
      | exact impl_TopicRetain.mono _ _ _ _ _ _
      | exact laws_lwTexts.mono _ _ _
      | exact laws_lwTopics.mono _ _ _ _ _ _ _ _ _ _ _ _ _ _ _
      | exact spec_DrawTopicRetain.mono _ _
      | exact spec_TopicEnd.mono _ _ _ _ _
      | exact spec_TopicRetain.mono _ _ _ _ _ _
      | exact LeO.none _
      | refine LeO.ite ?_ ?_
      | refine LeO.bind ?_ (fun _ => ?_)
    · intro y0 y1 y2 y3 y4 y5 y6 y7 y8 y9 y10 y11
      unfold laws_FnRetain.l0
      repeat' first
      | (with_reducible exact ih0 _ _ _ _ _ _ _ _ _ _ _ _ _)
      | (with_reducible exact ih1 _ _ _ _ _ _ _ _ _ _ _ _)
      | (with_reducible exact ih2 _ _ _ _ _ _ _ _ _ _ _ _)
      | (with_reducible exact impl_TopicRetain.mono _ _ _ _ _ _)
      | (with_reducible exact laws_lwTexts.mono _ _ _)
      | (with_reducible exact laws_lwTopics.mono _ _ _ _ _ _ _ _ _ _ _ _ _ _ _)
      | (with_reducible exact spec_DrawTopicRetain.mono _ _)
      | (with_reducible exact spec_TopicEnd.mono _ _ _ _ _)
      | (with_reducible exact spec_TopicRetain.mono _ _ _ _ _ _)
      | (with_reducible exact LeO.refl _)
      | (with_reducible exact LeO.none _)
      | (with_reducible refine LeO.ite ?_ ?_)
      | (with_reducible refine LeO.bind ?_ (fun _ => ?_))
      | exact ih0 _ _ _ _ _ _ _ _ _ _ _ _ _
      | exact ih1 _ _ _ _ _ _ _ _ _ _ _ _
      | exact ih2 _ _ _ _ _ _ _ _ _ _ _ _
      | exact impl_TopicRetain.mono _ _ _ _ _ _
      | exact laws_lwTexts.mono _ _ _
      | exact laws_lwTopics.mono _ _ _ _ _ _ _ _ _ _ _ _ _ _ _
      | exact spec_DrawTopicRetain.mono _ _
      | exact spec_TopicEnd.mono _ _ _ _ _
      | exact spec_TopicRetain.mono _ _ _ _ _ _
      | exact LeO.none _
      | refine LeO.ite ?_ ?_
      | refine LeO.bind ?_ (fun _ => ?_)
theorem laws_FnRetain.mono : ∀ a0 k, LeO (laws_FnRetain.f k a0) (laws_FnRetain.f (k + 1) a0) := by
  intro a0 k
  obtain ⟨ih0, ih1, ih2⟩ := laws_FnRetain.mono_l k
  unfold laws_FnRetain.f
  repeat' first
      | (with_reducible exact ih0 _ _ _ _ _ _ _ _ _ _ _ _ _)
      | (with_reducible exact ih1 _ _ _ _ _ _ _ _ _ _ _ _)
      | (with_reducible exact ih2 _ _ _ _ _ _ _ _ _ _ _ _)
      | (with_reducible exact impl_TopicRetain.mono _ _ _ _ _ _)
      | (with_reducible exact laws_lwTexts.mono _ _ _)
      | (with_reducible exact laws_lwTopics.mono _ _ _ _ _ _ _ _ _ _ _ _ _ _ _)
      | (with_reducible exact spec_DrawTopicRetain.mono _ _)
      | (with_reducible exact spec_TopicEnd.mono _ _ _ _ _)
      | (with_reducible exact spec_TopicRetain.mono _ _ _ _ _ _)
      | (with_reducible exact LeO.refl _)
      | (with_reducible exact LeO.none _)
      | (with_reducible refine LeO.ite ?_ ?_)
      | (with_reducible refine LeO.bind ?_ (fun _ => ?_))
      | exact ih0 _ _ _ _ _ _ _ _ _ _ _ _ _
      | exact ih1 _ _ _ _ _ _ _ _ _ _ _ _
      | exact ih2 _ _ _ _ _ _ _ _ _ _ _ _
      | exact impl_TopicRetain.mono _ _ _ _ _ _
      | exact laws_lwTexts.mono _ _ _
      | exact laws_lwTopics.mono _ _ _ _ _ _ _ _ _ _ _ _ _ _ _
      | exact spec_DrawTopicRetain.mono _ _
      | exact spec_TopicEnd.mono _ _ _ _ _
      | exact spec_TopicRetain.mono _ _ _ _ _ _
      | exact LeO.none _
      | refine LeO.ite ?_ ?_
      | refine LeO.bind ?_ (fun _ => ?_)
def laws_FnRetain.T5 : Bool × List (List Nat × List Nat) := (true, [([], []), ([], []), ([], []), ([1, 2], [1, 2]), ([0, 3, 3], [0, 3]), ([4], [4]), ([5, 4], [5]), ([6], [6]), ([7, 6], [6, 7]), ([8, 6], [6, 8]), ([6, 9], [6, 9])])
def laws_FnRetain.B5 : List Nat := [0, 0, 0, 6, 15, 31, 63, 127, 255, 511, 1023]
theorem laws_FnRetain.tab5 : rtab .any (opsOf Try.f3 5) = laws_FnRetain.T5 := by kernel_rfl
theorem laws_FnRetain.bits5 : waitsOk laws_FnRetain.T5.2 laws_FnRetain.B5 = true := by kernel_rfl
def laws_FnRetain.T8 : Bool × List (List Nat × List Nat) := (true, [([], []), ([], []), ([1], [1]), ([0, 2], [0, 2]), ([3], [3]), ([4], [4]), ([5, 4], [4, 5]), ([6, 4, 4], [4, 6]), ([4], [4]), ([8, 7, 4], [4, 8]), ([7, 9, 4], [4, 7, 9]), ([4, 10], [4, 10]), ([11, 9], [11]), ([12], [12]), ([13, 12], [12, 13]), ([14, 12], [12, 14]), ([12], [12]), ([16, 12], [12, 16]), ([12], [12]), ([17, 18, 12], [12, 17, 18]), ([15, 19, 12, 12], [12, 15, 19]), ([20, 12], [12, 20]), ([12, 21], [12, 21]), ([22, 20], [22]), ([23], [23]), ([24, 23], [23, 24]), ([25, 23], [23, 25]), ([26, 23], [23, 26]), ([23], [23]), ([27, 28, 23], [23, 27, 28]), ([23, 29], [23, 29]), ([30, 23], [30]), ([31], [31]), ([32, 31], [31, 32]), ([33, 31, 31], [31, 33]), ([34], [34]), ([35, 34], [34, 35]), ([36, 34], [34, 36]), ([37, 34], [34, 37]), ([34], [34]), ([38, 39, 34], [34, 38, 39]), ([34, 40, 31], [31, 34, 40]), ([31, 41], [31, 41])])
def laws_FnRetain.B8 : List Nat := [0, 0, 2, 7, 15, 31, 63, 127, 31, 511, 1023, 2047, 4095, 8191, 16383, 32767, 8191, 73727, 8191, 466943, 1048575, 2097151, 4194303, 8388607, 16777215, 33554431, 67108863, 134217727, 16777215, 536870911, 1073741823, 2147483647, 4294967295, 8589934591, 17179869183, 34359738367, 68719476735, 137438953471, 274877906943, 34359738367, 1099511627775, 2199023255551, 4398046511103]
theorem laws_FnRetain.tab8 : rtab .any (opsOf Try.f3 8) = laws_FnRetain.T8 := by kernel_rfl
theorem laws_FnRetain.bits8 : waitsOk laws_FnRetain.T8.2 laws_FnRetain.B8 = true := by kernel_rfl
def laws_FnRetain.T13 : Bool × List (List Nat × List Nat) := (true, [([], []), ([0], [0]), ([1], [1]), ([], []), ([2, 3], [2, 3]), ([4], [4]), ([5], [5]), ([], []), ([7], [7]), ([], []), ([8, 9], [8, 9]), ([10], [10]), ([11], [11]), ([6, 12], [6, 12]), ([13], [13]), ([14], [14]), ([15, 14], [14, 15]), ([16, 14], [14, 16]), ([14], [14]), ([17, 18, 14], [14, 17, 18]), ([19, 14], [14, 19]), ([20, 14], [14, 20]), ([14], [14]), ([22, 14], [14, 22]), ([14], [14]), ([23, 24, 14], [14, 23, 24]), ([25, 14], [14, 25]), ([26, 14], [14, 26]), ([21, 27, 14], [14, 21, 27]), ([28, 14, 14], [14, 28]), ([29], [29]), ([30, 29], [29, 30]), ([31, 29], [29, 31]), ([29], [29]), ([32, 33, 29], [29, 32, 33]), ([34, 29], [29, 34]), ([35, 29], [29, 35]), ([29], [29]), ([37, 29], [29, 37]), ([38, 29], [29, 38]), ([36, 39, 29], [29, 36, 39]), ([29, 40, 14], [14, 29, 40]), ([14, 41], [14, 41])])
def laws_FnRetain.B13 : List Nat := [0, 1, 3, 0, 15, 31, 63, 0, 128, 0, 896, 1920, 3968, 8191, 16383, 32767, 65535, 131071, 32767, 524287, 1048575, 2097151, 32767, 4227071, 32767, 29392895, 62947327, 130056191, 268435455, 536870911, 1073741823, 2147483647, 4294967295, 1073741823, 17179869183, 34359738367, 68719476735, 1073741823, 138512695295, 413390602239, 1099511627775, 2199023255551, 4398046511103]
theorem laws_FnRetain.tab13 : rtab .any (opsOf Try.f3 13) = laws_FnRetain.T13 := by kernel_rfl
theorem laws_FnRetain.bits13 : waitsOk laws_FnRetain.T13.2 laws_FnRetain.B13 = true := by kernel_rfl
set_option maxHeartbeats 60000000 in
set_option maxRecDepth 100000 in
theorem laws_FnRetain.calls (k : Nat) (A0 : Option Addr) (c0 : Nat) (l0 : List Int) (r : Bool) (w : World) (hr0 : Kd.C (Kd.int .u8) w A0 l0.length l0) (hc0 : l0.length ≤ c0) (h : laws_FnRetain.f k l0 = some r) :
    Calls Try.prog 3 #[.slice A0 l0.length c0] w fun e w' => e = .returned (.bool r) ∧ Below w.heap.size w w' := by
 have hu26 := Try.underlying26
 have hu30 := Try.underlying30
 have HR0 := AM hr0
 have HC0 := AM hc0
 clear hr0 hc0
 have HB := AM (Below.refl w.heap.size w)
 have H : (if (l0.length : Int) > 1048576 then (some true) else ((spec_DrawTopicRetain.f k l0).bind fun bt101 => ((impl_TopicRetain.f k bt101.1 bt101.2.1 bt101.2.2.1 bt101.2.2.2.1 bt101.2.2.2.2).bind fun bt111 => ((spec_TopicRetain.f k bt101.1 bt101.2.1 bt101.2.2.1 bt101.2.2.2.1 bt101.2.2.2.2).bind fun bt125 => ((laws_lwTopics.f k bt111.1 bt111.2.1 bt111.2.2.1 bt111.2.2.2.1 bt111.2.2.2.2.1 bt111.2.2.2.2.2.1 bt111.2.2.2.2.2.2 bt125.1 bt125.2.1 bt125.2.2.1 bt125.2.2.2.1 bt125.2.2.2.2.1 bt125.2.2.2.2.2.1 bt125.2.2.2.2.2.2).bind fun t138 => (if t138 = true then (laws_FnRetain.j0 k bt101.2.2.2.2 (bt111.2.2.2.2.2.2 != 0) bt101.1 bt101.2.1 bt101.2.2.1 bt101.2.2.2.1 bt111.1 bt111.2.1 bt111.2.2.1 bt111.2.2.2.1 bt111.2.2.2.2.1 bt111.2.2.2.2.2.1 bt111.2.2.2.2.2.2) else (laws_FnRetain.j0 k bt101.2.2.2.2 true bt101.1 bt101.2.1 bt101.2.2.1 bt101.2.2.2.1 bt111.1 bt111.2.1 bt111.2.2.1 bt111.2.2.2.1 bt111.2.2.2.2.1 bt111.2.2.2.2.2.1 bt111.2.2.2.2.2.2))))))) = some r := h
 clear h
 by_cases c2 : (l0.length : Int) > 1048576
 ·
  rw [if_pos c2] at H
  have c2b0 : decide (1048576 < (l0.length : Int)) = true := decide_eq_true c2
  have c2b1 : decide (1048576 < l0.length) = true := decide_eq_true (by omega)
  clear c2
  obtain rfl := Option.some.inj H
  go_enter Try.func3, Try.ntmps3
  go_wp2
  go_ret
  exact ⟨by first | rfl | (simp [*, errW_none, errW_some] <;> rfl), bX HB.out⟩
 rw [if_neg c2] at H
 have c2b0 : decide (1048576 < (l0.length : Int)) = false := decide_eq_false c2
 have c2b1 : decide (1048576 < l0.length) = false := decide_eq_false (by omega)
 clear c2
 replace H := Option.bind_eq_some_iff.mp H
 obtain ⟨⟨t101, t102, t103, t106, t109⟩, A30, H⟩ := H
 try dsimp only at H
 have A3 := AM A30
 clear A30
 replace H := Option.bind_eq_some_iff.mp H
 obtain ⟨⟨t111, t112, t113, t116, t119, t122, t123⟩, A40, H⟩ := H
 try dsimp only at H
 have A4 := AM A40
 clear A40
 have HC5 := AM H
 clear H
 go_enter Try.func3, Try.ntmps3
 go_upto_region 5 with (first | ((with_reducible refine gate_callee (f := 5) rfl ?_); refine goesL_ (some 13) rfl rfl Try.func5 (by kernel_rfl) rfl #[.slice A0 l0.length c0] rfl (by (try simp only [mA, mB, mC]); first | done | rfl | (simp only [mD, mE]; rfl)) ?_; (with_reducible refine (spec_DrawTopicRetain.calls k _ _ l0 t101 t102 t103 t106 t109 _ ?side1 ?side2 A3.out).mono ?_); (case side1 => repeat (first | exact HR0.out | (with_reducible first | apply cA | apply cN | apply cD))); (case side2 => exact HC0.out); rintro e w6 ⟨v104, v107, rfl, ho0, ho1, hb⟩; refine ⟨_, rfl, ?_⟩; have _ := AM (Kd.Q_lower ho0 (bZ (bX HB.out))); have _ := AM (Kd.R_lower ho1 (bZ (bX HB.out))); have _ := AM (below_step (bX HB.out) hb); clear HB; rename_i HO105 HO108 HB; (try clear hb); (try clear hk); (try clear ho0); (try clear ho1)) | ((with_reducible refine gate_dst (N := 3) rfl ?_); (try (refine gate_guard (by rfl) ?_; dsimp only)); refine box_event (by rfl) (N := 3) (by rfl) (cs := #[.string (⟨#[]⟩ : ByteArray), .int .i64 0, .slice none 0 0, .slice none 0 0]) (t := 26) (by first | (go_simp; done) | (go_simp; rfl)) ?_; intro gb110 hg w7 hbox hb; have _ := AM (Kd.Q_below (qX HO105.out) hb); have _ := AM (Kd.R_below (rX HO108.out) hb); have _ := AM (below_step (bX HB.out) hb); have _ := AM (hbox); have n4_ := AM ((by rw [hg]; exact (bZ (bX HB.out)) : w.heap.size ≤ gb110)); clear HO105 HO108 HB; rename_i HO105 HO108 HB BK110; have GW110 := n4_; have GE110 := n4_; clear n4_; clear hb hbox hg; have hcz8 := q4 BK110.out; have hfz8 := fZ BK110.out; obtain ⟨Ao9, co9, eo9, _⟩ := Kd.Q_slice HO105.out; subst eo9; obtain ⟨Ao10, co10, eo10⟩ := Kd.R_slice HO108.out; subst eo10) | ((with_reducible refine gate_callee (f := 6) rfl ?_); refine goesL_ (some 18) rfl rfl Try.func6 (by kernel_rfl) rfl #[.agg #[.string t101, .int .i64 t102, .slice Ao9 t103.length co9, .slice Ao10 t106.length co10], .int .i64 t109] rfl (by (try simp only [mA, mB, mC]); first | done | rfl | (simp only [mD, mE]; rfl)) ?_; (with_reducible refine (impl_TopicRetain.calls k t101 t102 _ _ t103 _ _ t106 t109 t111 t112 t113 t116 t119 t122 t123 _ ?side1 ?side2 ?side3 ?side4 A4.out).mono ?_); (case side1 => refine (Kd.Q_reads' (e := 9) (base := w.heap.size) (ok := fun k_ => True) (n := t103.length) (c := co9) ?_).2.2; exact (by (with_reducible repeat (first | apply Kd.Q_alloc | apply Kd.Q_drewN | apply Kd.Q_drew)); exact (Qf4 HO105.out BK110.out (by decide) (fun _ h_ => h_.1)))); (case side2 => exact (Kd.Q_reads' HO105.out).2.1); (case side3 => refine (Kd.R_reads' (e := 36) (base := w.heap.size) (ok := fun k_ => True) (n := t106.length) (c := co10) ?_).2.2; exact (by (with_reducible repeat (first | apply rA | apply rN | apply rD)); exact (Rf4 HO108.out BK110.out (by decide) (fun _ h_ => h_.1)))); (case side4 => exact (Kd.R_reads' HO108.out).2.1); rintro e w11 ⟨v114, v117, v120, rfl, ho0, ho1, ho2, hb⟩; refine ⟨_, rfl, ?_⟩; have _ := AM (Kd.Q_mono (Kd.Q_told (Kd.Q_told (Kd.Q_old (by (with_reducible repeat (first | apply Kd.Q_alloc | apply Kd.Q_drewN | apply Kd.Q_drew)); exact (Qf4 HO105.out BK110.out (by decide) (fun _ h_ => h_.1))) hb) (Kd.Q_base ho0)) (Kd.R_base ho2)) (fun _ h_ => h_.1)); have _ := AM (Kd.R_elder' (by (with_reducible repeat (first | apply rA | apply rN | apply rD)); exact (Rf4 HO108.out BK110.out (by decide) (fun _ h_ => h_.1))) (Kd.R_base ho1) hb); have _ := AM (Kd.Q_lower (Kd.Q_new' ho0 (Kd.Q_lt (by (with_reducible repeat (first | apply Kd.Q_alloc | apply Kd.Q_drewN | apply Kd.Q_drew)); exact (Qf4 HO105.out BK110.out (by decide) (fun _ h_ => h_.1))))) (bZ (bX HB.out))); have _ := AM (Kd.R_lower (Kd.R_new' ho1 (Kd.R_lt (by (with_reducible repeat (first | apply rA | apply rN | apply rD)); exact (Rf4 HO108.out BK110.out (by decide) (fun _ h_ => h_.1))))) (bZ (bX HB.out))); have _ := AM (Kd.R_lower (Kd.R_new' ho2 (Kd.Q_lt (by (with_reducible repeat (first | apply Kd.Q_alloc | apply Kd.Q_drewN | apply Kd.Q_drew)); exact (Qf4 HO105.out BK110.out (by decide) (fun _ h_ => h_.1))))) (bZ (bX HB.out))); have _ := AM (blk_below (g := gb110) (o := .cells #[.string t101, .int .i64 t102, .slice Ao9 t103.length co9, .slice Ao10 t106.length co10] 26 (0, 0)) (by refine kP (cs := #[.string t101, .int .i64 t102, .slice Ao9 t103.length co9, .slice none 0 0]) 3 ?_; refine kP (cs := #[.string t101, .int .i64 t102, .slice none 0 0, .slice none 0 0]) 2 ?_; refine kP (cs := #[.string t101, .int .i64 0, .slice none 0 0, .slice none 0 0]) 1 ?_; refine kP (cs := #[.string (⟨#[]⟩ : ByteArray), .int .i64 0, .slice none 0 0, .slice none 0 0]) 0 ?_; (with_reducible repeat (first | apply kN | apply kD | apply kA)); exact BK110.out) hb); have _ := AM (below_step (bX HB.out) hb); clear HO105 HO108 BK110 HB; rename_i HO105 HO108 HO115 HO118 HO121 BK110 HB; (try clear hb); (try clear hk); (try clear ho0); (try clear ho1); (try clear ho2)) | ((with_reducible refine gate_dst (N := 5) rfl ?_); (try (refine gate_guard (by rfl) ?_; dsimp only)); refine box_event (by rfl) (N := 5) (by rfl) (cs := #[.string (⟨#[]⟩ : ByteArray), .int .i64 0, .slice none 0 0, .slice none 0 0, .slice none 0 0, .int .i64 0, .int .i64 0]) (t := 30) (by first | (go_simp; done) | (go_simp; rfl)) ?_; intro gb124 hg w12 hbox hb; have _ := AM (Kd.Q_below (qX HO105.out) hb); have _ := AM (Kd.R_below (rX HO108.out) hb); have _ := AM (Kd.Q_below (qX HO115.out) hb); have _ := AM (Kd.R_below (rX HO118.out) hb); have _ := AM (Kd.R_below (rX HO121.out) hb); have _ := AM (nB BK110.out hb); have _ := AM (below_step (bX HB.out) hb); have _ := AM (hbox); have n8_ := AM ((by rw [hg]; exact (bZ (bX HB.out)) : w.heap.size ≤ gb124)); have _ := AM (lX hg BK110.out); have _ := AM (lX hg BK110.out).symm; clear HO105 HO108 HO115 HO118 HO121 BK110 HB; rename_i HO105 HO108 HO115 HO118 HO121 BK110 HB BK124 NB110_124 NB124_110; have GW124 := n8_; have GE124 := n8_; clear n8_; clear hb hbox hg; have hnb13 := NB124_110.out; have hnc13 := NB110_124.out; have hcz14 := q7 BK124.out; have hfz14 := fZ BK124.out; obtain ⟨Ao15, co15, eo15, _⟩ := Kd.Q_slice HO115.out; subst eo15; obtain ⟨Ao16, co16, eo16⟩ := Kd.R_slice HO118.out; subst eo16; obtain ⟨Ao17, co17, eo17⟩ := Kd.R_slice HO121.out; subst eo17))
 (try simp only [Act.put, List.setIfInBounds_toArray, List.set_cons_zero, List.set_cons_succ])
 go_cut [29] (fun v29 wc => ∃ (kq : Nat) (x29_4 : Bool), v29 = .bool x29_4 ∧ Aside0 (laws_FnRetain.j0 kq t109 x29_4 t101 t102 t103 t106 t111 t112 t113 t116 t119 t122 t123 = some r) ∧ Aside0 (kq ≤ k) ∧ Aside0 (Kd.Q Kd.string 9 wc w.heap.size (fun k_ => some k_ ≠ ((.slice Ao15 t113.length co15) : Value).ownBlock ∧ some k_ ≠ ((.slice Ao17 t119.length co17) : Value).ownBlock) (.slice Ao9 t103.length co9) t103) ∧ Aside0 (Kd.R k36 36 wc w.heap.size (fun k_ => some k_ ≠ ((.slice Ao16 t116.length co16) : Value).ownBlock) (.slice Ao10 t106.length co10) t106) ∧ Aside0 (Kd.Q Kd.string 9 wc w.heap.size (fun k_ => some k_ ≠ ((.slice Ao9 t103.length co9) : Value).ownBlock ∧ some k_ ≠ ((.slice Ao17 t119.length co17) : Value).ownBlock) (.slice Ao15 t113.length co15) t113) ∧ Aside0 (Kd.R k36 36 wc w.heap.size (fun k_ => some k_ ≠ ((.slice Ao10 t106.length co10) : Value).ownBlock) (.slice Ao16 t116.length co16) t116) ∧ Aside0 (Kd.R Kd.string 9 wc w.heap.size (fun k_ => some k_ ≠ ((.slice Ao9 t103.length co9) : Value).ownBlock ∧ some k_ ≠ ((.slice Ao15 t113.length co15) : Value).ownBlock) (.slice Ao17 t119.length co17) t119) ∧ Aside0 (wc.heap[gb110]? = some (.cells #[.string t101, .int .i64 t102, (.slice Ao9 t103.length co9), (.slice Ao10 t106.length co10)] 26 (0, 0))) ∧ Aside0 (wc.heap[gb124]? = some (.cells #[.string t111, .int .i64 t112, (.slice Ao15 t113.length co15), (.slice Ao16 t116.length co16), (.slice Ao17 t119.length co17), .int .i64 t122, .int .i64 t123] 30 (0, 0))) ∧ Aside0 (Below w.heap.size w wc))
 case first =>
  have H := HC5.out
  clear HC5
  replace H := Option.bind_eq_some_iff.mp H
  obtain ⟨⟨t125, t126, t127, t130, t133, t136, t137⟩, A180, H⟩ := H
  try dsimp only at H
  have A18 := AM A180
  clear A180
  replace H := Option.bind_eq_some_iff.mp H
  obtain ⟨t138, A190, H⟩ := H
  replace H : (if t138 = true then (laws_FnRetain.j0 k t109 (t123 != 0) t101 t102 t103 t106 t111 t112 t113 t116 t119 t122 t123) else (laws_FnRetain.j0 k t109 true t101 t102 t103 t106 t111 t112 t113 t116 t119 t122 t123)) = some r := H
  have A19 := AM A190
  clear A190
  by_cases c20 : t138 = true
  ·
   subst c20
   have H1 : (laws_FnRetain.j0 k t109 (t123 != 0) t101 t102 t103 t106 t111 t112 t113 t116 t119 t122 t123) = some r := by rw [if_pos rfl] at H; exact H
   clear H
   have H := H1
   clear H1
   have H' := AM H
   clear H
   try go_wp2
   have n0_ : Aside0 (Kd.Q Kd.string 9 (((((((w12.setCell ⟨gb124, 0, none⟩ (.string t111)).setCell ⟨gb124, 1, none⟩ (.int .i64 t112)).setCell ⟨gb124, 2, none⟩ (.slice Ao15 t113.length co15)).setCell ⟨gb124, 3, none⟩ (.slice Ao16 t116.length co16)).setCell ⟨gb124, 4, none⟩ (.slice Ao17 t119.length co17)).setCell ⟨gb124, 5, none⟩ (.int .i64 t122)).setCell ⟨gb124, 6, none⟩ (.int .i64 t123)) w.heap.size (fun k_ => some k_ ≠ (.slice Ao15 t113.length co15 : Value).ownBlock ∧ some k_ ≠ (.slice Ao17 t119.length co17 : Value).ownBlock) (.slice Ao9 t103.length co9) t103) := ⟨by (with_reducible repeat (first | apply Kd.Q_alloc | apply Kd.Q_drewN | apply Kd.Q_drew)); exact Qf7 HO105.out BK124.out (by decide) (fun _ hk => ⟨hk.1.1.2, hk.1.2⟩)⟩
   have n1_ : Aside0 (Kd.R k36 36 (((((((w12.setCell ⟨gb124, 0, none⟩ (.string t111)).setCell ⟨gb124, 1, none⟩ (.int .i64 t112)).setCell ⟨gb124, 2, none⟩ (.slice Ao15 t113.length co15)).setCell ⟨gb124, 3, none⟩ (.slice Ao16 t116.length co16)).setCell ⟨gb124, 4, none⟩ (.slice Ao17 t119.length co17)).setCell ⟨gb124, 5, none⟩ (.int .i64 t122)).setCell ⟨gb124, 6, none⟩ (.int .i64 t123)) w.heap.size (fun k_ => some k_ ≠ (.slice Ao16 t116.length co16 : Value).ownBlock) (.slice Ao10 t106.length co10) t106) := ⟨by (with_reducible repeat (first | apply rA | apply rN | apply rD)); exact Rf7 HO108.out BK124.out (by decide) (fun _ hk => hk.1.2)⟩
   have n2_ : Aside0 (Kd.Q Kd.string 9 (((((((w12.setCell ⟨gb124, 0, none⟩ (.string t111)).setCell ⟨gb124, 1, none⟩ (.int .i64 t112)).setCell ⟨gb124, 2, none⟩ (.slice Ao15 t113.length co15)).setCell ⟨gb124, 3, none⟩ (.slice Ao16 t116.length co16)).setCell ⟨gb124, 4, none⟩ (.slice Ao17 t119.length co17)).setCell ⟨gb124, 5, none⟩ (.int .i64 t122)).setCell ⟨gb124, 6, none⟩ (.int .i64 t123)) w.heap.size (fun k_ => some k_ ≠ (.slice Ao9 t103.length co9 : Value).ownBlock ∧ some k_ ≠ (.slice Ao17 t119.length co17 : Value).ownBlock) (.slice Ao15 t113.length co15) t113) := ⟨by (with_reducible repeat (first | apply Kd.Q_alloc | apply Kd.Q_drewN | apply Kd.Q_drew)); exact Qf7 HO115.out BK124.out (by decide) (fun _ hk => ⟨hk.1.2, hk.1.1⟩)⟩
   have n3_ : Aside0 (Kd.R k36 36 (((((((w12.setCell ⟨gb124, 0, none⟩ (.string t111)).setCell ⟨gb124, 1, none⟩ (.int .i64 t112)).setCell ⟨gb124, 2, none⟩ (.slice Ao15 t113.length co15)).setCell ⟨gb124, 3, none⟩ (.slice Ao16 t116.length co16)).setCell ⟨gb124, 4, none⟩ (.slice Ao17 t119.length co17)).setCell ⟨gb124, 5, none⟩ (.int .i64 t122)).setCell ⟨gb124, 6, none⟩ (.int .i64 t123)) w.heap.size (fun k_ => some k_ ≠ (.slice Ao10 t106.length co10 : Value).ownBlock) (.slice Ao16 t116.length co16) t116) := ⟨by (with_reducible repeat (first | apply rA | apply rN | apply rD)); exact Rf7 HO118.out BK124.out (by decide) (fun _ hk => hk.1.2)⟩
   have n4_ : Aside0 (Kd.R Kd.string 9 (((((((w12.setCell ⟨gb124, 0, none⟩ (.string t111)).setCell ⟨gb124, 1, none⟩ (.int .i64 t112)).setCell ⟨gb124, 2, none⟩ (.slice Ao15 t113.length co15)).setCell ⟨gb124, 3, none⟩ (.slice Ao16 t116.length co16)).setCell ⟨gb124, 4, none⟩ (.slice Ao17 t119.length co17)).setCell ⟨gb124, 5, none⟩ (.int .i64 t122)).setCell ⟨gb124, 6, none⟩ (.int .i64 t123)) w.heap.size (fun k_ => some k_ ≠ (.slice Ao9 t103.length co9 : Value).ownBlock ∧ some k_ ≠ (.slice Ao15 t113.length co15 : Value).ownBlock) (.slice Ao17 t119.length co17) t119) := ⟨by (with_reducible repeat (first | apply rA | apply rN | apply rD)); exact Rf7 HO121.out BK124.out (by decide) (fun _ hk => ⟨hk.1.2, hk.1.1⟩)⟩
   have n5_ : Aside0 ((((((((w12.setCell ⟨gb124, 0, none⟩ (.string t111)).setCell ⟨gb124, 1, none⟩ (.int .i64 t112)).setCell ⟨gb124, 2, none⟩ (.slice Ao15 t113.length co15)).setCell ⟨gb124, 3, none⟩ (.slice Ao16 t116.length co16)).setCell ⟨gb124, 4, none⟩ (.slice Ao17 t119.length co17)).setCell ⟨gb124, 5, none⟩ (.int .i64 t122)).setCell ⟨gb124, 6, none⟩ (.int .i64 t123)).heap[gb110]? = some (.cells #[.string t101, .int .i64 t102, .slice Ao9 t103.length co9, .slice Ao10 t106.length co10] 26 (0, 0))) := ⟨by (iterate 7 refine kF NB110_124.out ?_); (with_reducible repeat (first | apply kN | apply kD | apply kA)); exact BK110.out⟩
   have n6_ : Aside0 ((((((((w12.setCell ⟨gb124, 0, none⟩ (.string t111)).setCell ⟨gb124, 1, none⟩ (.int .i64 t112)).setCell ⟨gb124, 2, none⟩ (.slice Ao15 t113.length co15)).setCell ⟨gb124, 3, none⟩ (.slice Ao16 t116.length co16)).setCell ⟨gb124, 4, none⟩ (.slice Ao17 t119.length co17)).setCell ⟨gb124, 5, none⟩ (.int .i64 t122)).setCell ⟨gb124, 6, none⟩ (.int .i64 t123)).heap[gb124]? = some (.cells #[.string t111, .int .i64 t112, .slice Ao15 t113.length co15, .slice Ao16 t116.length co16, .slice Ao17 t119.length co17, .int .i64 t122, .int .i64 t123] 30 (0, 0))) := ⟨by refine kP (cs := #[.string t111, .int .i64 t112, .slice Ao15 t113.length co15, .slice Ao16 t116.length co16, .slice Ao17 t119.length co17, .int .i64 t122, .int .i64 0]) 6 ?_; refine kP (cs := #[.string t111, .int .i64 t112, .slice Ao15 t113.length co15, .slice Ao16 t116.length co16, .slice Ao17 t119.length co17, .int .i64 0, .int .i64 0]) 5 ?_; refine kP (cs := #[.string t111, .int .i64 t112, .slice Ao15 t113.length co15, .slice Ao16 t116.length co16, .slice none 0 0, .int .i64 0, .int .i64 0]) 4 ?_; refine kP (cs := #[.string t111, .int .i64 t112, .slice Ao15 t113.length co15, .slice none 0 0, .slice none 0 0, .int .i64 0, .int .i64 0]) 3 ?_; refine kP (cs := #[.string t111, .int .i64 t112, .slice none 0 0, .slice none 0 0, .slice none 0 0, .int .i64 0, .int .i64 0]) 2 ?_; refine kP (cs := #[.string t111, .int .i64 0, .slice none 0 0, .slice none 0 0, .slice none 0 0, .int .i64 0, .int .i64 0]) 1 ?_; refine kP (cs := #[.string (⟨#[]⟩ : ByteArray), .int .i64 0, .slice none 0 0, .slice none 0 0, .slice none 0 0, .int .i64 0, .int .i64 0]) 0 ?_; (with_reducible repeat (first | apply kN | apply kD | apply kA)); exact BK124.out⟩
   have n7_ : Aside0 (Below w.heap.size w (((((((w12.setCell ⟨gb124, 0, none⟩ (.string t111)).setCell ⟨gb124, 1, none⟩ (.int .i64 t112)).setCell ⟨gb124, 2, none⟩ (.slice Ao15 t113.length co15)).setCell ⟨gb124, 3, none⟩ (.slice Ao16 t116.length co16)).setCell ⟨gb124, 4, none⟩ (.slice Ao17 t119.length co17)).setCell ⟨gb124, 5, none⟩ (.int .i64 t122)).setCell ⟨gb124, 6, none⟩ (.int .i64 t123))) := ⟨bX HB.out⟩
   (try clear HO105)
   (try clear HO108)
   (try clear HO115)
   (try clear HO118)
   (try clear HO121)
   (try clear BK110)
   (try clear BK124)
   (try clear HB)
   generalize (((((((w12.setCell ⟨gb124, 0, none⟩ (.string t111)).setCell ⟨gb124, 1, none⟩ (.int .i64 t112)).setCell ⟨gb124, 2, none⟩ (.slice Ao15 t113.length co15)).setCell ⟨gb124, 3, none⟩ (.slice Ao16 t116.length co16)).setCell ⟨gb124, 4, none⟩ (.slice Ao17 t119.length co17)).setCell ⟨gb124, 5, none⟩ (.int .i64 t122)).setCell ⟨gb124, 6, none⟩ (.int .i64 t123)) = w21 at n0_ n1_ n2_ n3_ n4_ n5_ n6_ n7_ ⊢
   have HO105 := n0_
   have HO108 := n1_
   have HO115 := n2_
   have HO118 := n3_
   have HO121 := n4_
   have BK110 := n5_
   have BK124 := n6_
   have HB := n7_
   clear n0_ n1_ n2_ n3_ n4_ n5_ n6_ n7_
   have _ := AM (Kd.Q_drew HO105.out)
   have _ := AM (rD HO108.out)
   have _ := AM (Kd.Q_drew HO115.out)
   have _ := AM (rD HO118.out)
   have _ := AM (rD HO121.out)
   have _ := AM (kD BK110.out)
   have _ := AM (kD BK124.out)
   have _ := AM (bD HB.out)
   clear HO105 HO108 HO115 HO118 HO121 BK110 BK124 HB
   rename_i HO105 HO108 HO115 HO118 HO121 BK110 BK124 HB
   refine start_ (n := 11) (S := fun w' => w'.cell? ⟨gb124, 0, none⟩ = some (.string t111) ∧ w'.cell? ⟨gb124, 1, none⟩ = some (.int .i64 t112) ∧ w'.cell? ⟨gb124, 2, none⟩ = some (.slice Ao15 t113.length co15) ∧ w'.cell? ⟨gb124, 3, none⟩ = some (.slice Ao16 t116.length co16) ∧ w'.cell? ⟨gb124, 4, none⟩ = some (.slice Ao17 t119.length co17) ∧ w'.cell? ⟨gb124, 5, none⟩ = some (.int .i64 t122) ∧ w'.cell? ⟨gb124, 6, none⟩ = some (.int .i64 t123) ∧ w'.cell? ⟨gb110, 0, none⟩ = some (.string t101) ∧ w'.cell? ⟨gb110, 1, none⟩ = some (.int .i64 t102) ∧ w'.cell? ⟨gb110, 2, none⟩ = some (.slice Ao9 t103.length co9) ∧ w'.cell? ⟨gb110, 3, none⟩ = some (.slice Ao10 t106.length co10)) (ds := []) (upTo 0 11) (by kernel_rfl) rfl rfl ⟨(kC BK124.out 0).trans rfl, (kC BK124.out 1).trans rfl, (kC BK124.out 2).trans rfl, (kC BK124.out 3).trans rfl, (kC BK124.out 4).trans rfl, (kC BK124.out 5).trans rfl, (kC BK124.out 6).trans rfl, (kC BK110.out 0).trans rfl, (kC BK110.out 1).trans rfl, (kC BK110.out 2).trans rfl, (kC BK110.out 3).trans rfl⟩ (fun hHeld => ?_); refine with_tabW laws_FnRetain.tab5 laws_FnRetain.bits5 (fun HT_ HW_ => ?_)
   generalize w21.drew = w22 at HO105 HO108 HO115 HO118 HO121 BK110 BK124 HB hHeld ⊢
   refine pF2 2 21 laws_FnRetain.b0 ?_
   refine pT2 0 19 laws_FnRetain.b1 ?_ hHeld
   refine pT2 1 20 (upTo 3 11) ?_ hHeld
   refine one_ (i := 3) (N := some 22) (upTo 4 11) rfl rfl (one_of HT_.out (by kernel_rfl)) (by decide) (fun K hK => ?_)
   refine goes_ Try.func8 (by kernel_rfl) rfl #[.agg #[.string t101, .int .i64 t102, .slice Ao9 t103.length co9, .slice Ao10 t106.length co10], .int .i64 t109] (by rfl) rfl rfl (by (try simp only [mA, mB, mC]); first | done | rfl | (simp only [mD, mE]; rfl)) ?_
   with_reducible refine (spec_TopicRetain.calls k t101 t102 _ _ t103 _ _ t106 t109 t125 t126 t127 t130 t133 t136 t137 _ ?side1 ?side2 ?side3 ?side4 A18.out).mono ?_
   (case side1 => repeat (first | exact (Kd.Q_reads' HO105.out).2.2 | (with_reducible first | apply cA | apply cN | apply cD)))
   (case side2 => exact (Kd.Q_reads' HO105.out).2.1)
   (case side3 => repeat (first | exact (Kd.R_reads' HO108.out).2.2 | (with_reducible first | apply cA | apply cN | apply cD)))
   (case side4 => exact (Kd.R_reads' HO108.out).2.1)
   rintro e w23 ⟨v128, v131, v134, rfl, ho0, ho1, ho2, hb⟩
   refine ⟨_, rfl, ?_⟩
   have _ := AM (Kd.Q_mono (Kd.Q_told (Kd.Q_told (Kd.Q_old (qX HO105.out) hb) (Kd.Q_base ho0)) (Kd.R_base ho2)) (fun _ h_ => h_.1))
   have _ := AM (Kd.R_elder' (rX HO108.out) (Kd.R_base ho1) hb)
   have _ := AM (Kd.Q_mono (Kd.Q_told (Kd.Q_told (Kd.Q_old (qX HO115.out) hb) (Kd.Q_base ho0)) (Kd.R_base ho2)) (fun _ h_ => h_.1))
   have _ := AM (Kd.R_elder' (rX HO118.out) (Kd.R_base ho1) hb)
   have _ := AM (Kd.R_mono (Kd.R_told (Kd.R_told (Kd.R_old (rX HO121.out) hb) (Kd.Q_base ho0)) (Kd.R_base ho2)) (fun _ h_ => h_.1))
   have _ := AM (Kd.Q_lower (Kd.Q_new' (Kd.Q_new' (Kd.Q_new' ho0 (Kd.Q_lt (qX HO105.out))) (Kd.Q_lt (qX HO115.out))) (Kd.R_lt (rX HO121.out))) (bZ (bX HB.out)))
   have _ := AM (Kd.R_lower (Kd.R_new' (Kd.R_new' ho1 (Kd.R_lt (rX HO108.out))) (Kd.R_lt (rX HO118.out))) (bZ (bX HB.out)))
   have _ := AM (Kd.R_lower (Kd.R_new' (Kd.R_new' (Kd.R_new' ho2 (Kd.Q_lt (qX HO105.out))) (Kd.Q_lt (qX HO115.out))) (Kd.R_lt (rX HO121.out))) (bZ (bX HB.out)))
   have _ := AM (nB BK110.out hb)
   have _ := AM (nB BK124.out hb)
   have _ := AM (below_step (bX HB.out) hb)
   clear HO105 HO108 HO115 HO118 HO121 BK110 BK124 HB
   rename_i HO105 HO108 HO115 HO118 HO121 HO129 HO132 HO135 BK110 BK124 HB
   (try clear hb)
   (try clear hk)
   (try clear ho0)
   (try clear ho1)
   (try clear ho2)
   obtain ⟨Ao24, co24, eo24, _⟩ := Kd.Q_slice HO129.out
   (first | subst eo24 | (injection eo24 with f1_ f2_ f3_; have f4_ := f1_.symm; have f5_ := f3_.symm; clear f1_ f2_ f3_; subst f4_; subst f5_))
   obtain ⟨Ao25, co25, eo25⟩ := Kd.R_slice HO132.out
   (first | subst eo25 | (injection eo25 with f1_ f2_ f3_; have f4_ := f1_.symm; have f5_ := f3_.symm; clear f1_ f2_ f3_; subst f4_; subst f5_))
   obtain ⟨Ao26, co26, eo26⟩ := Kd.R_slice HO135.out
   (first | subst eo26 | (injection eo26 with f1_ f2_ f3_; have f4_ := f1_.symm; have f5_ := f3_.symm; clear f1_ f2_ f3_; subst f4_; subst f5_))
   refine hK.out _ _ ⟨(kC BK124.out 0).trans rfl, (kC BK124.out 1).trans rfl, (kC BK124.out 2).trans rfl, (kC BK124.out 3).trans rfl, (kC BK124.out 4).trans rfl, (kC BK124.out 5).trans rfl, (kC BK124.out 6).trans rfl, (kC BK110.out 0).trans rfl, (kC BK110.out 1).trans rfl, (kC BK110.out 2).trans rfl, (kC BK110.out 3).trans rfl⟩ (fun hHeld => ?_)
   clear hK K
   refine norm_ (a' := ?_) ?_ ?_
   rotate_left
   ·
    show Act.put _ (some 22) _ = _
    simp only [Act.put, sA, sB, sC, i64_w, i32_w]
    rfl
   refine one_ (i := 4) (N := some 23) (upTo 5 11) rfl rfl (one_of HT_.out (by kernel_rfl)) (by decide) (fun K hK => ?_)
   refine goes_ Try.func7 (by kernel_rfl) rfl #[.agg #[.string t111, .int .i64 t112, .slice Ao15 t113.length co15, .slice Ao16 t116.length co16, .slice Ao17 t119.length co17, .int .i64 t122, .int .i64 t123], .agg #[.string t125, .int .i64 t126, .slice Ao24 t127.length co24, .slice Ao25 t130.length co25, .slice Ao26 t133.length co26, .int .i64 t136, .int .i64 t137]] (by rfl) rfl rfl (by (try simp only [mA, mB, mC]); first | done | rfl | (simp only [mD, mE]; rfl)) ?_
   with_reducible refine (laws_lwTopics.calls k t111 t112 _ _ t113 _ _ t116 _ _ t119 t122 t123 t125 t126 _ _ t127 _ _ t130 _ _ t133 t136 t137 true _ ?side1 ?side2 ?side3 ?side4 ?side5 ?side6 ?side7 ?side8 ?side9 ?side10 ?side11 ?side12 A19.out).mono ?_
   (case side1 => repeat (first | exact (Kd.Q_reads' HO115.out).2.2 | (with_reducible first | apply cA | apply cN | apply cD)))
   (case side2 => exact (Kd.Q_reads' HO115.out).2.1)
   (case side3 => repeat (first | exact (Kd.R_reads' HO118.out).2.2 | (with_reducible first | apply cA | apply cN | apply cD)))
   (case side4 => exact (Kd.R_reads' HO118.out).2.1)
   (case side5 => repeat (first | exact (Kd.R_reads' HO121.out).2.2 | (with_reducible first | apply cA | apply cN | apply cD)))
   (case side6 => exact (Kd.R_reads' HO121.out).2.1)
   (case side7 => repeat (first | exact (Kd.Q_reads' HO129.out).2.2 | (with_reducible first | apply cA | apply cN | apply cD)))
   (case side8 => exact (Kd.Q_reads' HO129.out).2.1)
   (case side9 => repeat (first | exact (Kd.R_reads' HO132.out).2.2 | (with_reducible first | apply cA | apply cN | apply cD)))
   (case side10 => exact (Kd.R_reads' HO132.out).2.1)
   (case side11 => repeat (first | exact (Kd.R_reads' HO135.out).2.2 | (with_reducible first | apply cA | apply cN | apply cD)))
   (case side12 => exact (Kd.R_reads' HO135.out).2.1)
   rintro e w27 ⟨rfl, hb⟩
   refine ⟨_, rfl, ?_⟩
   have _ := AM (Kd.Q_below (qX HO105.out) hb)
   have _ := AM (Kd.R_below (rX HO108.out) hb)
   have _ := AM (Kd.Q_below (qX HO115.out) hb)
   have _ := AM (Kd.R_below (rX HO118.out) hb)
   have _ := AM (Kd.R_below (rX HO121.out) hb)
   have _ := AM (Kd.Q_below (qX HO129.out) hb)
   have _ := AM (Kd.R_below (rX HO132.out) hb)
   have _ := AM (Kd.R_below (rX HO135.out) hb)
   have _ := AM (nB BK110.out hb)
   have _ := AM (nB BK124.out hb)
   have _ := AM (below_step (bX HB.out) hb)
   clear HO105 HO108 HO115 HO118 HO121 HO129 HO132 HO135 BK110 BK124 HB
   rename_i HO105 HO108 HO115 HO118 HO121 HO129 HO132 HO135 BK110 BK124 HB
   (try clear hb)
   (try clear hk)
   refine hK.out _ _ ⟨(kC BK124.out 0).trans rfl, (kC BK124.out 1).trans rfl, (kC BK124.out 2).trans rfl, (kC BK124.out 3).trans rfl, (kC BK124.out 4).trans rfl, (kC BK124.out 5).trans rfl, (kC BK124.out 6).trans rfl, (kC BK110.out 0).trans rfl, (kC BK110.out 1).trans rfl, (kC BK110.out 2).trans rfl, (kC BK110.out 3).trans rfl⟩ (fun hHeld => ?_)
   clear hK K
   refine norm_ (a' := ?_) ?_ ?_
   rotate_left
   ·
    show Act.put _ (some 23) _ = _
    simp only [Act.put, sA, sB, sC, i64_w, i32_w]
    rfl
   refine pF 5 6 11 24 ?_
   refine pF 6 7 11 25 ?_
   refine pF 7 8 11 26 ?_
   refine pT2 8 27 (upTo 9 11) ?_ hHeld
   refine pF 9 10 11 28 ?_
   refine pF 10 11 11 29 ?_
   refine done_ (done_of HT_.out (by kernel_rfl)) ?_
   try go_wp2
   go_meet
   case rel => exact ⟨_, ((t123 != 0)), (by first | rfl | (simp; done) | (simp [*]; done)), H', ⟨by first | omega | exact Nat.le_refl _⟩, ⟨by (with_reducible repeat (first | apply Kd.Q_alloc | apply Kd.Q_drewN | apply Kd.Q_drew)); exact Kd.Q_mono HO105.out (fun _ hk => ⟨hk.1.1.1, hk.1.1.2⟩)⟩, ⟨by (with_reducible repeat (first | apply rA | apply rN | apply rD)); exact Kd.R_mono HO108.out (fun _ hk => hk.1)⟩, ⟨by (with_reducible repeat (first | apply Kd.Q_alloc | apply Kd.Q_drewN | apply Kd.Q_drew)); exact Kd.Q_mono HO115.out (fun _ hk => ⟨hk.1.1.1, hk.1.1.2⟩)⟩, ⟨by (with_reducible repeat (first | apply rA | apply rN | apply rD)); exact Kd.R_mono HO118.out (fun _ hk => hk.1)⟩, ⟨by (with_reducible repeat (first | apply rA | apply rN | apply rD)); exact Kd.R_mono HO121.out (fun _ hk => ⟨hk.1.1.1, hk.1.1.2⟩)⟩, ⟨kX BK110.out⟩, ⟨kX BK124.out⟩, ⟨bX HB.out⟩⟩
  replace c20 := Bool.eq_false_iff.mpr c20
  subst c20
  have H1 : (laws_FnRetain.j0 k t109 true t101 t102 t103 t106 t111 t112 t113 t116 t119 t122 t123) = some r := by rw [if_neg (show ¬ (false = true) by decide)] at H; exact H
  clear H
  have H := H1
  clear H1
  have H' := AM H
  clear H
  try go_wp2
  have n0_ : Aside0 (Kd.Q Kd.string 9 (((((((w12.setCell ⟨gb124, 0, none⟩ (.string t111)).setCell ⟨gb124, 1, none⟩ (.int .i64 t112)).setCell ⟨gb124, 2, none⟩ (.slice Ao15 t113.length co15)).setCell ⟨gb124, 3, none⟩ (.slice Ao16 t116.length co16)).setCell ⟨gb124, 4, none⟩ (.slice Ao17 t119.length co17)).setCell ⟨gb124, 5, none⟩ (.int .i64 t122)).setCell ⟨gb124, 6, none⟩ (.int .i64 t123)) w.heap.size (fun k_ => some k_ ≠ (.slice Ao15 t113.length co15 : Value).ownBlock ∧ some k_ ≠ (.slice Ao17 t119.length co17 : Value).ownBlock) (.slice Ao9 t103.length co9) t103) := ⟨by (with_reducible repeat (first | apply Kd.Q_alloc | apply Kd.Q_drewN | apply Kd.Q_drew)); exact Qf7 HO105.out BK124.out (by decide) (fun _ hk => ⟨hk.1.1.2, hk.1.2⟩)⟩
  have n1_ : Aside0 (Kd.R k36 36 (((((((w12.setCell ⟨gb124, 0, none⟩ (.string t111)).setCell ⟨gb124, 1, none⟩ (.int .i64 t112)).setCell ⟨gb124, 2, none⟩ (.slice Ao15 t113.length co15)).setCell ⟨gb124, 3, none⟩ (.slice Ao16 t116.length co16)).setCell ⟨gb124, 4, none⟩ (.slice Ao17 t119.length co17)).setCell ⟨gb124, 5, none⟩ (.int .i64 t122)).setCell ⟨gb124, 6, none⟩ (.int .i64 t123)) w.heap.size (fun k_ => some k_ ≠ (.slice Ao16 t116.length co16 : Value).ownBlock) (.slice Ao10 t106.length co10) t106) := ⟨by (with_reducible repeat (first | apply rA | apply rN | apply rD)); exact Rf7 HO108.out BK124.out (by decide) (fun _ hk => hk.1.2)⟩
  have n2_ : Aside0 (Kd.Q Kd.string 9 (((((((w12.setCell ⟨gb124, 0, none⟩ (.string t111)).setCell ⟨gb124, 1, none⟩ (.int .i64 t112)).setCell ⟨gb124, 2, none⟩ (.slice Ao15 t113.length co15)).setCell ⟨gb124, 3, none⟩ (.slice Ao16 t116.length co16)).setCell ⟨gb124, 4, none⟩ (.slice Ao17 t119.length co17)).setCell ⟨gb124, 5, none⟩ (.int .i64 t122)).setCell ⟨gb124, 6, none⟩ (.int .i64 t123)) w.heap.size (fun k_ => some k_ ≠ (.slice Ao9 t103.length co9 : Value).ownBlock ∧ some k_ ≠ (.slice Ao17 t119.length co17 : Value).ownBlock) (.slice Ao15 t113.length co15) t113) := ⟨by (with_reducible repeat (first | apply Kd.Q_alloc | apply Kd.Q_drewN | apply Kd.Q_drew)); exact Qf7 HO115.out BK124.out (by decide) (fun _ hk => ⟨hk.1.2, hk.1.1⟩)⟩
  have n3_ : Aside0 (Kd.R k36 36 (((((((w12.setCell ⟨gb124, 0, none⟩ (.string t111)).setCell ⟨gb124, 1, none⟩ (.int .i64 t112)).setCell ⟨gb124, 2, none⟩ (.slice Ao15 t113.length co15)).setCell ⟨gb124, 3, none⟩ (.slice Ao16 t116.length co16)).setCell ⟨gb124, 4, none⟩ (.slice Ao17 t119.length co17)).setCell ⟨gb124, 5, none⟩ (.int .i64 t122)).setCell ⟨gb124, 6, none⟩ (.int .i64 t123)) w.heap.size (fun k_ => some k_ ≠ (.slice Ao10 t106.length co10 : Value).ownBlock) (.slice Ao16 t116.length co16) t116) := ⟨by (with_reducible repeat (first | apply rA | apply rN | apply rD)); exact Rf7 HO118.out BK124.out (by decide) (fun _ hk => hk.1.2)⟩
  have n4_ : Aside0 (Kd.R Kd.string 9 (((((((w12.setCell ⟨gb124, 0, none⟩ (.string t111)).setCell ⟨gb124, 1, none⟩ (.int .i64 t112)).setCell ⟨gb124, 2, none⟩ (.slice Ao15 t113.length co15)).setCell ⟨gb124, 3, none⟩ (.slice Ao16 t116.length co16)).setCell ⟨gb124, 4, none⟩ (.slice Ao17 t119.length co17)).setCell ⟨gb124, 5, none⟩ (.int .i64 t122)).setCell ⟨gb124, 6, none⟩ (.int .i64 t123)) w.heap.size (fun k_ => some k_ ≠ (.slice Ao9 t103.length co9 : Value).ownBlock ∧ some k_ ≠ (.slice Ao15 t113.length co15 : Value).ownBlock) (.slice Ao17 t119.length co17) t119) := ⟨by (with_reducible repeat (first | apply rA | apply rN | apply rD)); exact Rf7 HO121.out BK124.out (by decide) (fun _ hk => ⟨hk.1.2, hk.1.1⟩)⟩
  have n5_ : Aside0 ((((((((w12.setCell ⟨gb124, 0, none⟩ (.string t111)).setCell ⟨gb124, 1, none⟩ (.int .i64 t112)).setCell ⟨gb124, 2, none⟩ (.slice Ao15 t113.length co15)).setCell ⟨gb124, 3, none⟩ (.slice Ao16 t116.length co16)).setCell ⟨gb124, 4, none⟩ (.slice Ao17 t119.length co17)).setCell ⟨gb124, 5, none⟩ (.int .i64 t122)).setCell ⟨gb124, 6, none⟩ (.int .i64 t123)).heap[gb110]? = some (.cells #[.string t101, .int .i64 t102, .slice Ao9 t103.length co9, .slice Ao10 t106.length co10] 26 (0, 0))) := ⟨by (iterate 7 refine kF NB110_124.out ?_); (with_reducible repeat (first | apply kN | apply kD | apply kA)); exact BK110.out⟩
  have n6_ : Aside0 ((((((((w12.setCell ⟨gb124, 0, none⟩ (.string t111)).setCell ⟨gb124, 1, none⟩ (.int .i64 t112)).setCell ⟨gb124, 2, none⟩ (.slice Ao15 t113.length co15)).setCell ⟨gb124, 3, none⟩ (.slice Ao16 t116.length co16)).setCell ⟨gb124, 4, none⟩ (.slice Ao17 t119.length co17)).setCell ⟨gb124, 5, none⟩ (.int .i64 t122)).setCell ⟨gb124, 6, none⟩ (.int .i64 t123)).heap[gb124]? = some (.cells #[.string t111, .int .i64 t112, .slice Ao15 t113.length co15, .slice Ao16 t116.length co16, .slice Ao17 t119.length co17, .int .i64 t122, .int .i64 t123] 30 (0, 0))) := ⟨by refine kP (cs := #[.string t111, .int .i64 t112, .slice Ao15 t113.length co15, .slice Ao16 t116.length co16, .slice Ao17 t119.length co17, .int .i64 t122, .int .i64 0]) 6 ?_; refine kP (cs := #[.string t111, .int .i64 t112, .slice Ao15 t113.length co15, .slice Ao16 t116.length co16, .slice Ao17 t119.length co17, .int .i64 0, .int .i64 0]) 5 ?_; refine kP (cs := #[.string t111, .int .i64 t112, .slice Ao15 t113.length co15, .slice Ao16 t116.length co16, .slice none 0 0, .int .i64 0, .int .i64 0]) 4 ?_; refine kP (cs := #[.string t111, .int .i64 t112, .slice Ao15 t113.length co15, .slice none 0 0, .slice none 0 0, .int .i64 0, .int .i64 0]) 3 ?_; refine kP (cs := #[.string t111, .int .i64 t112, .slice none 0 0, .slice none 0 0, .slice none 0 0, .int .i64 0, .int .i64 0]) 2 ?_; refine kP (cs := #[.string t111, .int .i64 0, .slice none 0 0, .slice none 0 0, .slice none 0 0, .int .i64 0, .int .i64 0]) 1 ?_; refine kP (cs := #[.string (⟨#[]⟩ : ByteArray), .int .i64 0, .slice none 0 0, .slice none 0 0, .slice none 0 0, .int .i64 0, .int .i64 0]) 0 ?_; (with_reducible repeat (first | apply kN | apply kD | apply kA)); exact BK124.out⟩
  have n7_ : Aside0 (Below w.heap.size w (((((((w12.setCell ⟨gb124, 0, none⟩ (.string t111)).setCell ⟨gb124, 1, none⟩ (.int .i64 t112)).setCell ⟨gb124, 2, none⟩ (.slice Ao15 t113.length co15)).setCell ⟨gb124, 3, none⟩ (.slice Ao16 t116.length co16)).setCell ⟨gb124, 4, none⟩ (.slice Ao17 t119.length co17)).setCell ⟨gb124, 5, none⟩ (.int .i64 t122)).setCell ⟨gb124, 6, none⟩ (.int .i64 t123))) := ⟨bX HB.out⟩
  (try clear HO105)
  (try clear HO108)
  (try clear HO115)
  (try clear HO118)
  (try clear HO121)
  (try clear BK110)
  (try clear BK124)
  (try clear HB)
  generalize (((((((w12.setCell ⟨gb124, 0, none⟩ (.string t111)).setCell ⟨gb124, 1, none⟩ (.int .i64 t112)).setCell ⟨gb124, 2, none⟩ (.slice Ao15 t113.length co15)).setCell ⟨gb124, 3, none⟩ (.slice Ao16 t116.length co16)).setCell ⟨gb124, 4, none⟩ (.slice Ao17 t119.length co17)).setCell ⟨gb124, 5, none⟩ (.int .i64 t122)).setCell ⟨gb124, 6, none⟩ (.int .i64 t123)) = w28 at n0_ n1_ n2_ n3_ n4_ n5_ n6_ n7_ ⊢
  have HO105 := n0_
  have HO108 := n1_
  have HO115 := n2_
  have HO118 := n3_
  have HO121 := n4_
  have BK110 := n5_
  have BK124 := n6_
  have HB := n7_
  clear n0_ n1_ n2_ n3_ n4_ n5_ n6_ n7_
  have _ := AM (Kd.Q_drew HO105.out)
  have _ := AM (rD HO108.out)
  have _ := AM (Kd.Q_drew HO115.out)
  have _ := AM (rD HO118.out)
  have _ := AM (rD HO121.out)
  have _ := AM (kD BK110.out)
  have _ := AM (kD BK124.out)
  have _ := AM (bD HB.out)
  clear HO105 HO108 HO115 HO118 HO121 BK110 BK124 HB
  rename_i HO105 HO108 HO115 HO118 HO121 BK110 BK124 HB
  refine start_ (n := 11) (S := fun w' => w'.cell? ⟨gb124, 0, none⟩ = some (.string t111) ∧ w'.cell? ⟨gb124, 1, none⟩ = some (.int .i64 t112) ∧ w'.cell? ⟨gb124, 2, none⟩ = some (.slice Ao15 t113.length co15) ∧ w'.cell? ⟨gb124, 3, none⟩ = some (.slice Ao16 t116.length co16) ∧ w'.cell? ⟨gb124, 4, none⟩ = some (.slice Ao17 t119.length co17) ∧ w'.cell? ⟨gb124, 5, none⟩ = some (.int .i64 t122) ∧ w'.cell? ⟨gb124, 6, none⟩ = some (.int .i64 t123) ∧ w'.cell? ⟨gb110, 0, none⟩ = some (.string t101) ∧ w'.cell? ⟨gb110, 1, none⟩ = some (.int .i64 t102) ∧ w'.cell? ⟨gb110, 2, none⟩ = some (.slice Ao9 t103.length co9) ∧ w'.cell? ⟨gb110, 3, none⟩ = some (.slice Ao10 t106.length co10)) (ds := []) (upTo 0 11) (by kernel_rfl) rfl rfl ⟨(kC BK124.out 0).trans rfl, (kC BK124.out 1).trans rfl, (kC BK124.out 2).trans rfl, (kC BK124.out 3).trans rfl, (kC BK124.out 4).trans rfl, (kC BK124.out 5).trans rfl, (kC BK124.out 6).trans rfl, (kC BK110.out 0).trans rfl, (kC BK110.out 1).trans rfl, (kC BK110.out 2).trans rfl, (kC BK110.out 3).trans rfl⟩ (fun hHeld => ?_); refine with_tabW laws_FnRetain.tab5 laws_FnRetain.bits5 (fun HT_ HW_ => ?_)
  generalize w28.drew = w29 at HO105 HO108 HO115 HO118 HO121 BK110 BK124 HB hHeld ⊢
  refine pF2 2 21 laws_FnRetain.b0 ?_
  refine pT2 0 19 laws_FnRetain.b1 ?_ hHeld
  refine pT2 1 20 (upTo 3 11) ?_ hHeld
  refine one_ (i := 3) (N := some 22) (upTo 4 11) rfl rfl (one_of HT_.out (by kernel_rfl)) (by decide) (fun K hK => ?_)
  refine goes_ Try.func8 (by kernel_rfl) rfl #[.agg #[.string t101, .int .i64 t102, .slice Ao9 t103.length co9, .slice Ao10 t106.length co10], .int .i64 t109] (by rfl) rfl rfl (by (try simp only [mA, mB, mC]); first | done | rfl | (simp only [mD, mE]; rfl)) ?_
  with_reducible refine (spec_TopicRetain.calls k t101 t102 _ _ t103 _ _ t106 t109 t125 t126 t127 t130 t133 t136 t137 _ ?side1 ?side2 ?side3 ?side4 A18.out).mono ?_
  (case side1 => repeat (first | exact (Kd.Q_reads' HO105.out).2.2 | (with_reducible first | apply cA | apply cN | apply cD)))
  (case side2 => exact (Kd.Q_reads' HO105.out).2.1)
  (case side3 => repeat (first | exact (Kd.R_reads' HO108.out).2.2 | (with_reducible first | apply cA | apply cN | apply cD)))
  (case side4 => exact (Kd.R_reads' HO108.out).2.1)
  rintro e w30 ⟨v128, v131, v134, rfl, ho0, ho1, ho2, hb⟩
  refine ⟨_, rfl, ?_⟩
  have _ := AM (Kd.Q_mono (Kd.Q_told (Kd.Q_told (Kd.Q_old (qX HO105.out) hb) (Kd.Q_base ho0)) (Kd.R_base ho2)) (fun _ h_ => h_.1))
  have _ := AM (Kd.R_elder' (rX HO108.out) (Kd.R_base ho1) hb)
  have _ := AM (Kd.Q_mono (Kd.Q_told (Kd.Q_told (Kd.Q_old (qX HO115.out) hb) (Kd.Q_base ho0)) (Kd.R_base ho2)) (fun _ h_ => h_.1))
  have _ := AM (Kd.R_elder' (rX HO118.out) (Kd.R_base ho1) hb)
  have _ := AM (Kd.R_mono (Kd.R_told (Kd.R_told (Kd.R_old (rX HO121.out) hb) (Kd.Q_base ho0)) (Kd.R_base ho2)) (fun _ h_ => h_.1))
  have _ := AM (Kd.Q_lower (Kd.Q_new' (Kd.Q_new' (Kd.Q_new' ho0 (Kd.Q_lt (qX HO105.out))) (Kd.Q_lt (qX HO115.out))) (Kd.R_lt (rX HO121.out))) (bZ (bX HB.out)))
  have _ := AM (Kd.R_lower (Kd.R_new' (Kd.R_new' ho1 (Kd.R_lt (rX HO108.out))) (Kd.R_lt (rX HO118.out))) (bZ (bX HB.out)))
  have _ := AM (Kd.R_lower (Kd.R_new' (Kd.R_new' (Kd.R_new' ho2 (Kd.Q_lt (qX HO105.out))) (Kd.Q_lt (qX HO115.out))) (Kd.R_lt (rX HO121.out))) (bZ (bX HB.out)))
  have _ := AM (nB BK110.out hb)
  have _ := AM (nB BK124.out hb)
  have _ := AM (below_step (bX HB.out) hb)
  clear HO105 HO108 HO115 HO118 HO121 BK110 BK124 HB
  rename_i HO105 HO108 HO115 HO118 HO121 HO129 HO132 HO135 BK110 BK124 HB
  (try clear hb)
  (try clear hk)
  (try clear ho0)
  (try clear ho1)
  (try clear ho2)
  obtain ⟨Ao31, co31, eo31, _⟩ := Kd.Q_slice HO129.out
  (first | subst eo31 | (injection eo31 with f1_ f2_ f3_; have f4_ := f1_.symm; have f5_ := f3_.symm; clear f1_ f2_ f3_; subst f4_; subst f5_))
  obtain ⟨Ao32, co32, eo32⟩ := Kd.R_slice HO132.out
  (first | subst eo32 | (injection eo32 with f1_ f2_ f3_; have f4_ := f1_.symm; have f5_ := f3_.symm; clear f1_ f2_ f3_; subst f4_; subst f5_))
  obtain ⟨Ao33, co33, eo33⟩ := Kd.R_slice HO135.out
  (first | subst eo33 | (injection eo33 with f1_ f2_ f3_; have f4_ := f1_.symm; have f5_ := f3_.symm; clear f1_ f2_ f3_; subst f4_; subst f5_))
  refine hK.out _ _ ⟨(kC BK124.out 0).trans rfl, (kC BK124.out 1).trans rfl, (kC BK124.out 2).trans rfl, (kC BK124.out 3).trans rfl, (kC BK124.out 4).trans rfl, (kC BK124.out 5).trans rfl, (kC BK124.out 6).trans rfl, (kC BK110.out 0).trans rfl, (kC BK110.out 1).trans rfl, (kC BK110.out 2).trans rfl, (kC BK110.out 3).trans rfl⟩ (fun hHeld => ?_)
  clear hK K
  refine norm_ (a' := ?_) ?_ ?_
  rotate_left
  ·
   show Act.put _ (some 22) _ = _
   simp only [Act.put, sA, sB, sC, i64_w, i32_w]
   rfl
  refine one_ (i := 4) (N := some 23) (upTo 5 11) rfl rfl (one_of HT_.out (by kernel_rfl)) (by decide) (fun K hK => ?_)
  refine goes_ Try.func7 (by kernel_rfl) rfl #[.agg #[.string t111, .int .i64 t112, .slice Ao15 t113.length co15, .slice Ao16 t116.length co16, .slice Ao17 t119.length co17, .int .i64 t122, .int .i64 t123], .agg #[.string t125, .int .i64 t126, .slice Ao31 t127.length co31, .slice Ao32 t130.length co32, .slice Ao33 t133.length co33, .int .i64 t136, .int .i64 t137]] (by rfl) rfl rfl (by (try simp only [mA, mB, mC]); first | done | rfl | (simp only [mD, mE]; rfl)) ?_
  with_reducible refine (laws_lwTopics.calls k t111 t112 _ _ t113 _ _ t116 _ _ t119 t122 t123 t125 t126 _ _ t127 _ _ t130 _ _ t133 t136 t137 false _ ?side1 ?side2 ?side3 ?side4 ?side5 ?side6 ?side7 ?side8 ?side9 ?side10 ?side11 ?side12 A19.out).mono ?_
  (case side1 => repeat (first | exact (Kd.Q_reads' HO115.out).2.2 | (with_reducible first | apply cA | apply cN | apply cD)))
  (case side2 => exact (Kd.Q_reads' HO115.out).2.1)
  (case side3 => repeat (first | exact (Kd.R_reads' HO118.out).2.2 | (with_reducible first | apply cA | apply cN | apply cD)))
  (case side4 => exact (Kd.R_reads' HO118.out).2.1)
  (case side5 => repeat (first | exact (Kd.R_reads' HO121.out).2.2 | (with_reducible first | apply cA | apply cN | apply cD)))
  (case side6 => exact (Kd.R_reads' HO121.out).2.1)
  (case side7 => repeat (first | exact (Kd.Q_reads' HO129.out).2.2 | (with_reducible first | apply cA | apply cN | apply cD)))
  (case side8 => exact (Kd.Q_reads' HO129.out).2.1)
  (case side9 => repeat (first | exact (Kd.R_reads' HO132.out).2.2 | (with_reducible first | apply cA | apply cN | apply cD)))
  (case side10 => exact (Kd.R_reads' HO132.out).2.1)
  (case side11 => repeat (first | exact (Kd.R_reads' HO135.out).2.2 | (with_reducible first | apply cA | apply cN | apply cD)))
  (case side12 => exact (Kd.R_reads' HO135.out).2.1)
  rintro e w34 ⟨rfl, hb⟩
  refine ⟨_, rfl, ?_⟩
  have _ := AM (Kd.Q_below (qX HO105.out) hb)
  have _ := AM (Kd.R_below (rX HO108.out) hb)
  have _ := AM (Kd.Q_below (qX HO115.out) hb)
  have _ := AM (Kd.R_below (rX HO118.out) hb)
  have _ := AM (Kd.R_below (rX HO121.out) hb)
  have _ := AM (Kd.Q_below (qX HO129.out) hb)
  have _ := AM (Kd.R_below (rX HO132.out) hb)
  have _ := AM (Kd.R_below (rX HO135.out) hb)
  have _ := AM (nB BK110.out hb)
  have _ := AM (nB BK124.out hb)
  have _ := AM (below_step (bX HB.out) hb)
  clear HO105 HO108 HO115 HO118 HO121 HO129 HO132 HO135 BK110 BK124 HB
  rename_i HO105 HO108 HO115 HO118 HO121 HO129 HO132 HO135 BK110 BK124 HB
  (try clear hb)
  (try clear hk)
  refine hK.out _ _ ⟨(kC BK124.out 0).trans rfl, (kC BK124.out 1).trans rfl, (kC BK124.out 2).trans rfl, (kC BK124.out 3).trans rfl, (kC BK124.out 4).trans rfl, (kC BK124.out 5).trans rfl, (kC BK124.out 6).trans rfl, (kC BK110.out 0).trans rfl, (kC BK110.out 1).trans rfl, (kC BK110.out 2).trans rfl, (kC BK110.out 3).trans rfl⟩ (fun hHeld => ?_)
  clear hK K
  refine norm_ (a' := ?_) ?_ ?_
  rotate_left
  ·
   show Act.put _ (some 23) _ = _
   simp only [Act.put, sA, sB, sC, i64_w, i32_w]
   rfl
  refine pF 5 6 11 24 ?_
  refine pF 6 7 11 25 ?_
  refine pU 7 8 11 26 ?_
  refine pU 8 9 11 27 ?_
  refine pU 9 10 11 28 ?_
  refine pF 10 11 11 29 ?_
  refine done_ (done_of HT_.out (by kernel_rfl)) ?_
  try go_wp2
  go_meet
  case rel => exact ⟨_, (true), (by first | rfl | (simp; done) | (simp [*]; done)), H', ⟨by first | omega | exact Nat.le_refl _⟩, ⟨by (with_reducible repeat (first | apply Kd.Q_alloc | apply Kd.Q_drewN | apply Kd.Q_drew)); exact Kd.Q_mono HO105.out (fun _ hk => ⟨hk.1.1.1, hk.1.1.2⟩)⟩, ⟨by (with_reducible repeat (first | apply rA | apply rN | apply rD)); exact Kd.R_mono HO108.out (fun _ hk => hk.1)⟩, ⟨by (with_reducible repeat (first | apply Kd.Q_alloc | apply Kd.Q_drewN | apply Kd.Q_drew)); exact Kd.Q_mono HO115.out (fun _ hk => ⟨hk.1.1.1, hk.1.1.2⟩)⟩, ⟨by (with_reducible repeat (first | apply rA | apply rN | apply rD)); exact Kd.R_mono HO118.out (fun _ hk => hk.1)⟩, ⟨by (with_reducible repeat (first | apply rA | apply rN | apply rD)); exact Kd.R_mono HO121.out (fun _ hk => ⟨hk.1.1.1, hk.1.1.2⟩)⟩, ⟨kX BK110.out⟩, ⟨kX BK124.out⟩, ⟨bX HB.out⟩⟩
 case rest =>
  clear HC5
  (try clear c1); (try clear c2); (try clear c2b0); (try clear c2b1); (try clear p2); (try clear c3); (try clear c5); (try clear c6); (try clear c7); (try clear c8); (try clear c13); (try clear c20); (try clear hcz14); (try clear hcz8); (try clear hfz14); (try clear hfz8)
  obtain ⟨kq, x29_4, rfl, HA, HJ4, HO_111002, HO_111003, HO_125002, HO_125003, HO_125004, BK110, BK124, HB⟩ := hcut
  cases kq with
  | zero => exact absurd HA.out (by simp [laws_FnRetain.j0])
  | succ kj4 =>
   have H := HA.out
   clear HA
   simp only [laws_FnRetain.j0] at H
   by_cases c35 : x29_4 = true
   ·
    subst c35
    have H1 : ((spec_TopicRetain.f kj4 t101 t102 t103 t106 t109).bind fun bt139 => ((laws_lwTopics.f kj4 t111 t112 t113 t116 t119 t122 t123 bt139.1 bt139.2.1 bt139.2.2.1 bt139.2.2.2.1 bt139.2.2.2.2.1 bt139.2.2.2.2.2.1 bt139.2.2.2.2.2.2).bind fun t152 => (some t152))) = some r := by rw [if_pos rfl] at H; exact H
    clear H
    have H := H1
    clear H1
    replace H := Option.bind_eq_some_iff.mp H
    obtain ⟨⟨t139, t140, t141, t144, t147, t150, t151⟩, A360, H⟩ := H
    try dsimp only at H
    have A36 := AM A360
    clear A360
    replace H := Option.bind_eq_some_iff.mp H
    obtain ⟨t152, A370, H⟩ := H
    replace H : (some t152) = some r := H
    have A37 := AM A370
    clear A370
    obtain rfl := Option.some.inj H
    try go_wp2
    have _ := AM (Kd.Q_drew HO_111002.out)
    have _ := AM (rD HO_111003.out)
    have _ := AM (Kd.Q_drew HO_125002.out)
    have _ := AM (rD HO_125003.out)
    have _ := AM (rD HO_125004.out)
    have _ := AM (kD BK110.out)
    have _ := AM (kD BK124.out)
    have _ := AM (bD HB.out)
    clear HO_111002 HO_111003 HO_125002 HO_125003 HO_125004 BK110 BK124 HB
    rename_i HO_111002 HO_111003 HO_125002 HO_125003 HO_125004 BK110 BK124 HB
    refine start_ (n := 6) (S := fun w' => w'.cell? ⟨gb124, 0, none⟩ = some (.string t111) ∧ w'.cell? ⟨gb124, 1, none⟩ = some (.int .i64 t112) ∧ w'.cell? ⟨gb124, 2, none⟩ = some (.slice Ao15 t113.length co15) ∧ w'.cell? ⟨gb124, 3, none⟩ = some (.slice Ao16 t116.length co16) ∧ w'.cell? ⟨gb124, 4, none⟩ = some (.slice Ao17 t119.length co17) ∧ w'.cell? ⟨gb124, 5, none⟩ = some (.int .i64 t122) ∧ w'.cell? ⟨gb124, 6, none⟩ = some (.int .i64 t123) ∧ w'.cell? ⟨gb110, 0, none⟩ = some (.string t101) ∧ w'.cell? ⟨gb110, 1, none⟩ = some (.int .i64 t102) ∧ w'.cell? ⟨gb110, 2, none⟩ = some (.slice Ao9 t103.length co9) ∧ w'.cell? ⟨gb110, 3, none⟩ = some (.slice Ao10 t106.length co10)) (ds := []) (upTo 0 6) (by kernel_rfl) rfl rfl ⟨(kC BK124.out 0).trans rfl, (kC BK124.out 1).trans rfl, (kC BK124.out 2).trans rfl, (kC BK124.out 3).trans rfl, (kC BK124.out 4).trans rfl, (kC BK124.out 5).trans rfl, (kC BK124.out 6).trans rfl, (kC BK110.out 0).trans rfl, (kC BK110.out 1).trans rfl, (kC BK110.out 2).trans rfl, (kC BK110.out 3).trans rfl⟩ (fun hHeld => ?_)
    generalize wc.drew = w38 at HO_111002 HO_111003 HO_125002 HO_125003 HO_125004 BK110 BK124 HB hHeld ⊢
    refine pure_ (i := 2) (N := some 32) (v := ?_) (a' := ?_) #[false, false, true, false, false, false] rfl rfl (by kernel_rfl) (fun _ _ _ h => h) (Or.inl ⟨by rfl, ?_⟩) ?_ ?_
    rotate_left
    ·
     intro w'
     go_simp
     with_reducible rfl
    rotate_left
    ·
     simp only [Act.put, sA, sB, sC, i64_w, i32_w]
     rfl
    refine take_ (i := 0) (N := some 30) (v := ?_) (a' := ?_) #[true, false, true, false, false, false] rfl rfl (by kernel_rfl) (fun _ _ _ h => h) (Or.inl ⟨by rfl, ?_⟩) hHeld ?_ ?_
    rotate_left; (focus (rintro w' ⟨s0, s1, s2, s3, s4, s5, s6, s7, s8, s9, s10⟩; go_simp; with_reducible rfl))
    rotate_left; (focus (simp only [Act.put, sA, sB, sC, i64_w, i32_w]; rfl))
    refine take_ (i := 1) (N := some 31) (v := ?_) (a' := ?_) (upTo 3 6) rfl rfl (by kernel_rfl) (fun _ _ _ h => h) (Or.inl ⟨by rfl, ?_⟩) hHeld ?_ ?_
    rotate_left; (focus (rintro w' ⟨s0, s1, s2, s3, s4, s5, s6, s7, s8, s9, s10⟩; go_simp; with_reducible rfl))
    rotate_left; (focus (simp only [Act.put, sA, sB, sC, i64_w, i32_w]; rfl))
    refine one_ (i := 3) (N := some 33) (upTo 4 6) rfl rfl (by kernel_rfl) (by decide) (fun K hK => ?_)
    refine goes_ Try.func8 (by kernel_rfl) rfl #[.agg #[.string t101, .int .i64 t102, .slice Ao9 t103.length co9, .slice Ao10 t106.length co10], .int .i64 t109] (by rfl) rfl rfl (by (try simp only [mA, mB, mC]); first | done | rfl | (simp only [mD, mE]; rfl)) ?_
    with_reducible refine (spec_TopicRetain.calls kj4 t101 t102 _ _ t103 _ _ t106 t109 t139 t140 t141 t144 t147 t150 t151 _ ?side1 ?side2 ?side3 ?side4 A36.out).mono ?_
    (case side1 => repeat (first | exact (Kd.Q_reads' HO_111002.out).2.2 | (with_reducible first | apply cA | apply cN | apply cD)))
    (case side2 => exact (Kd.Q_reads' HO_111002.out).2.1)
    (case side3 => repeat (first | exact (Kd.R_reads' HO_111003.out).2.2 | (with_reducible first | apply cA | apply cN | apply cD)))
    (case side4 => exact (Kd.R_reads' HO_111003.out).2.1)
    rintro e w39 ⟨v142, v145, v148, rfl, ho0, ho1, ho2, hb⟩
    refine ⟨_, rfl, ?_⟩
    have _ := AM (Kd.Q_mono (Kd.Q_told (Kd.Q_told (Kd.Q_old (qX HO_111002.out) hb) (Kd.Q_base ho0)) (Kd.R_base ho2)) (fun _ h_ => h_.1))
    have _ := AM (Kd.R_elder' (rX HO_111003.out) (Kd.R_base ho1) hb)
    have _ := AM (Kd.Q_mono (Kd.Q_told (Kd.Q_told (Kd.Q_old (qX HO_125002.out) hb) (Kd.Q_base ho0)) (Kd.R_base ho2)) (fun _ h_ => h_.1))
    have _ := AM (Kd.R_elder' (rX HO_125003.out) (Kd.R_base ho1) hb)
    have _ := AM (Kd.R_mono (Kd.R_told (Kd.R_told (Kd.R_old (rX HO_125004.out) hb) (Kd.Q_base ho0)) (Kd.R_base ho2)) (fun _ h_ => h_.1))
    have _ := AM (Kd.Q_lower (Kd.Q_new' (Kd.Q_new' (Kd.Q_new' ho0 (Kd.Q_lt (qX HO_111002.out))) (Kd.Q_lt (qX HO_125002.out))) (Kd.R_lt (rX HO_125004.out))) (bZ (bX HB.out)))
    have _ := AM (Kd.R_lower (Kd.R_new' (Kd.R_new' ho1 (Kd.R_lt (rX HO_111003.out))) (Kd.R_lt (rX HO_125003.out))) (bZ (bX HB.out)))
    have _ := AM (Kd.R_lower (Kd.R_new' (Kd.R_new' (Kd.R_new' ho2 (Kd.Q_lt (qX HO_111002.out))) (Kd.Q_lt (qX HO_125002.out))) (Kd.R_lt (rX HO_125004.out))) (bZ (bX HB.out)))
    have _ := AM (nB BK110.out hb)
    have _ := AM (nB BK124.out hb)
    have _ := AM (below_step (bX HB.out) hb)
    clear HO_111002 HO_111003 HO_125002 HO_125003 HO_125004 BK110 BK124 HB
    rename_i HO_111002 HO_111003 HO_125002 HO_125003 HO_125004 HO143 HO146 HO149 BK110 BK124 HB
    (try clear hb)
    (try clear hk)
    (try clear ho0)
    (try clear ho1)
    (try clear ho2)
    obtain ⟨Ao40, co40, eo40, _⟩ := Kd.Q_slice HO143.out
    (first | subst eo40 | (injection eo40 with f1_ f2_ f3_; have f4_ := f1_.symm; have f5_ := f3_.symm; clear f1_ f2_ f3_; subst f4_; subst f5_))
    obtain ⟨Ao41, co41, eo41⟩ := Kd.R_slice HO146.out
    (first | subst eo41 | (injection eo41 with f1_ f2_ f3_; have f4_ := f1_.symm; have f5_ := f3_.symm; clear f1_ f2_ f3_; subst f4_; subst f5_))
    obtain ⟨Ao42, co42, eo42⟩ := Kd.R_slice HO149.out
    (first | subst eo42 | (injection eo42 with f1_ f2_ f3_; have f4_ := f1_.symm; have f5_ := f3_.symm; clear f1_ f2_ f3_; subst f4_; subst f5_))
    refine hK.out _ _ ⟨(kC BK124.out 0).trans rfl, (kC BK124.out 1).trans rfl, (kC BK124.out 2).trans rfl, (kC BK124.out 3).trans rfl, (kC BK124.out 4).trans rfl, (kC BK124.out 5).trans rfl, (kC BK124.out 6).trans rfl, (kC BK110.out 0).trans rfl, (kC BK110.out 1).trans rfl, (kC BK110.out 2).trans rfl, (kC BK110.out 3).trans rfl⟩ (fun hHeld => ?_)
    clear hK K
    refine norm_ (a' := ?_) ?_ ?_
    rotate_left
    ·
     show Act.put _ (some 33) _ = _
     simp only [Act.put, sA, sB, sC, i64_w, i32_w]
     rfl
    refine one_ (i := 4) (N := some 34) (upTo 5 6) rfl rfl (by kernel_rfl) (by decide) (fun K hK => ?_)
    refine goes_ Try.func7 (by kernel_rfl) rfl #[.agg #[.string t111, .int .i64 t112, .slice Ao15 t113.length co15, .slice Ao16 t116.length co16, .slice Ao17 t119.length co17, .int .i64 t122, .int .i64 t123], .agg #[.string t139, .int .i64 t140, .slice Ao40 t141.length co40, .slice Ao41 t144.length co41, .slice Ao42 t147.length co42, .int .i64 t150, .int .i64 t151]] (by rfl) rfl rfl (by (try simp only [mA, mB, mC]); first | done | rfl | (simp only [mD, mE]; rfl)) ?_
    with_reducible refine (laws_lwTopics.calls kj4 t111 t112 _ _ t113 _ _ t116 _ _ t119 t122 t123 t139 t140 _ _ t141 _ _ t144 _ _ t147 t150 t151 t152 _ ?side1 ?side2 ?side3 ?side4 ?side5 ?side6 ?side7 ?side8 ?side9 ?side10 ?side11 ?side12 A37.out).mono ?_
    (case side1 => repeat (first | exact (Kd.Q_reads' HO_125002.out).2.2 | (with_reducible first | apply cA | apply cN | apply cD)))
    (case side2 => exact (Kd.Q_reads' HO_125002.out).2.1)
    (case side3 => repeat (first | exact (Kd.R_reads' HO_125003.out).2.2 | (with_reducible first | apply cA | apply cN | apply cD)))
    (case side4 => exact (Kd.R_reads' HO_125003.out).2.1)
    (case side5 => repeat (first | exact (Kd.R_reads' HO_125004.out).2.2 | (with_reducible first | apply cA | apply cN | apply cD)))
    (case side6 => exact (Kd.R_reads' HO_125004.out).2.1)
    (case side7 => repeat (first | exact (Kd.Q_reads' HO143.out).2.2 | (with_reducible first | apply cA | apply cN | apply cD)))
    (case side8 => exact (Kd.Q_reads' HO143.out).2.1)
    (case side9 => repeat (first | exact (Kd.R_reads' HO146.out).2.2 | (with_reducible first | apply cA | apply cN | apply cD)))
    (case side10 => exact (Kd.R_reads' HO146.out).2.1)
    (case side11 => repeat (first | exact (Kd.R_reads' HO149.out).2.2 | (with_reducible first | apply cA | apply cN | apply cD)))
    (case side12 => exact (Kd.R_reads' HO149.out).2.1)
    rintro e w43 ⟨rfl, hb⟩
    refine ⟨_, rfl, ?_⟩
    have _ := AM (Kd.Q_below (qX HO_111002.out) hb)
    have _ := AM (Kd.R_below (rX HO_111003.out) hb)
    have _ := AM (Kd.Q_below (qX HO_125002.out) hb)
    have _ := AM (Kd.R_below (rX HO_125003.out) hb)
    have _ := AM (Kd.R_below (rX HO_125004.out) hb)
    have _ := AM (Kd.Q_below (qX HO143.out) hb)
    have _ := AM (Kd.R_below (rX HO146.out) hb)
    have _ := AM (Kd.R_below (rX HO149.out) hb)
    have _ := AM (nB BK110.out hb)
    have _ := AM (nB BK124.out hb)
    have _ := AM (below_step (bX HB.out) hb)
    clear HO_111002 HO_111003 HO_125002 HO_125003 HO_125004 HO143 HO146 HO149 BK110 BK124 HB
    rename_i HO_111002 HO_111003 HO_125002 HO_125003 HO_125004 HO143 HO146 HO149 BK110 BK124 HB
    (try clear hb)
    (try clear hk)
    refine hK.out _ _ ⟨(kC BK124.out 0).trans rfl, (kC BK124.out 1).trans rfl, (kC BK124.out 2).trans rfl, (kC BK124.out 3).trans rfl, (kC BK124.out 4).trans rfl, (kC BK124.out 5).trans rfl, (kC BK124.out 6).trans rfl, (kC BK110.out 0).trans rfl, (kC BK110.out 1).trans rfl, (kC BK110.out 2).trans rfl, (kC BK110.out 3).trans rfl⟩ (fun hHeld => ?_)
    clear hK K
    refine norm_ (a' := ?_) ?_ ?_
    rotate_left
    ·
     show Act.put _ (some 34) _ = _
     simp only [Act.put, sA, sB, sC, i64_w, i32_w]
     rfl
    refine pure_ (i := 5) (N := some 2) (v := ?_) (a' := ?_) (upTo 6 6) rfl rfl (by kernel_rfl) (fun _ _ _ h => h) (Or.inl ⟨by rfl, ?_⟩) ?_ ?_
    rotate_left
    ·
     intro w'
     go_simp
     with_reducible rfl
    rotate_left
    ·
     simp only [Act.put, sA, sB, sC, i64_w, i32_w]
     rfl
    refine done_ (by kernel_rfl) ?_
    try go_wp2
    go_ret
    exact ⟨by first | rfl | (simp [*, errW_none, errW_some] <;> rfl), bX HB.out⟩
   replace c35 := Bool.eq_false_iff.mpr c35
   subst c35
   have H1 : (if (wrap64 (t112 - t102)) = t122 then ((spec_TopicEnd.f kj4 t111 t112 t113 t116).bind fun t153 => ((spec_TopicEnd.f kj4 t101 t102 t103 t106).bind fun t154 => (if t153 = t154 then (if 0 ≤ (wrap64 (t112 - t102)) then (if (wrap64 (t112 - t102)) ≤ (t103.length : Int) then ((laws_lwTexts.f kj4 t113 (t103.drop ((wrap64 (t112 - t102)) : Int).toNat)).bind fun t159 => (if t159 = true then (if (t113.length : Int) > t109 then (laws_FnRetain.j1 kj4 true t101 t102 t103 t106 t111 t112 t113 t116 t119 t122 t123) else (if (wrap64 (t112 - t102)) > 0 then (laws_FnRetain.j1 kj4 ((t113.length : Int) != t109) t101 t102 t103 t106 t111 t112 t113 t116 t119 t122 t123) else (laws_FnRetain.j1 kj4 false t101 t102 t103 t106 t111 t112 t113 t116 t119 t122 t123))) else (laws_FnRetain.j1 kj4 true t101 t102 t103 t106 t111 t112 t113 t116 t119 t122 t123))) else (none)) else (none)) else (laws_FnRetain.j1 kj4 true t101 t102 t103 t106 t111 t112 t113 t116 t119 t122 t123)))) else (laws_FnRetain.j1 kj4 true t101 t102 t103 t106 t111 t112 t113 t116 t119 t122 t123)) = some r := by rw [if_neg (show ¬ (false = true) by decide)] at H; exact H
   clear H
   have H := H1
   clear H1
   have HC44 := AM H
   clear H
   have hnb45 := NB124_110.out
   have hnc45 := NB110_124.out
   have hcz46 := q7 BK124.out
   have hfz46 := fZ BK124.out
   have hcz47 := q4 BK110.out
   have hfz47 := fZ BK110.out
   go_upto_region 8 with (fail)
   go_cut [83] (fun v83 wc => ∃ (kq : Nat) (x83_43 : Bool), v83 = .bool x83_43 ∧ Aside0 (laws_FnRetain.j1 kq x83_43 t101 t102 t103 t106 t111 t112 t113 t116 t119 t122 t123 = some r) ∧ Aside0 (kq ≤ kj4) ∧ Aside0 (Kd.Q Kd.string 9 wc w.heap.size (fun k_ => some k_ ≠ ((.slice Ao15 t113.length co15) : Value).ownBlock ∧ some k_ ≠ ((.slice Ao17 t119.length co17) : Value).ownBlock) (.slice Ao9 t103.length co9) t103) ∧ Aside0 (Kd.R k36 36 wc w.heap.size (fun k_ => some k_ ≠ ((.slice Ao16 t116.length co16) : Value).ownBlock) (.slice Ao10 t106.length co10) t106) ∧ Aside0 (Kd.Q Kd.string 9 wc w.heap.size (fun k_ => some k_ ≠ ((.slice Ao9 t103.length co9) : Value).ownBlock ∧ some k_ ≠ ((.slice Ao17 t119.length co17) : Value).ownBlock) (.slice Ao15 t113.length co15) t113) ∧ Aside0 (Kd.R k36 36 wc w.heap.size (fun k_ => some k_ ≠ ((.slice Ao10 t106.length co10) : Value).ownBlock) (.slice Ao16 t116.length co16) t116) ∧ Aside0 (Kd.R Kd.string 9 wc w.heap.size (fun k_ => some k_ ≠ ((.slice Ao9 t103.length co9) : Value).ownBlock ∧ some k_ ≠ ((.slice Ao15 t113.length co15) : Value).ownBlock) (.slice Ao17 t119.length co17) t119) ∧ Aside0 (wc.heap[gb110]? = some (.cells #[.string t101, .int .i64 t102, (.slice Ao9 t103.length co9), (.slice Ao10 t106.length co10)] 26 (0, 0))) ∧ Aside0 (wc.heap[gb124]? = some (.cells #[.string t111, .int .i64 t112, (.slice Ao15 t113.length co15), (.slice Ao16 t116.length co16), (.slice Ao17 t119.length co17), .int .i64 t122, .int .i64 t123] 30 (0, 0))) ∧ Aside0 (Below w.heap.size w wc))
   case first =>
    have H := HC44.out
    clear HC44
    by_cases c48 : (wrap64 (t112 - t102)) = t122
    ·
     rw [if_pos c48] at H
     have c48b0 : ((wrap64 (t112 - t102)) == t122) = true := beq_iff_eq.mpr c48
     have c48b1 : ((wrap64 (t112 - t102)) != t122) = false := bne_eq_false_iff_eq.mpr c48
     clear c48
     (first | rw [c48b0] | (simp only [i64_w, i32_w]; rw [c48b0]) | skip)
     replace H := Option.bind_eq_some_iff.mp H
     obtain ⟨t153, A490, H⟩ := H
     replace H : ((spec_TopicEnd.f kj4 t101 t102 t103 t106).bind fun t154 => (if t153 = t154 then (if 0 ≤ (wrap64 (t112 - t102)) then (if (wrap64 (t112 - t102)) ≤ (t103.length : Int) then ((laws_lwTexts.f kj4 t113 (t103.drop ((wrap64 (t112 - t102)) : Int).toNat)).bind fun t159 => (if t159 = true then (if (t113.length : Int) > t109 then (laws_FnRetain.j1 kj4 true t101 t102 t103 t106 t111 t112 t113 t116 t119 t122 t123) else (if (wrap64 (t112 - t102)) > 0 then (laws_FnRetain.j1 kj4 ((t113.length : Int) != t109) t101 t102 t103 t106 t111 t112 t113 t116 t119 t122 t123) else (laws_FnRetain.j1 kj4 false t101 t102 t103 t106 t111 t112 t113 t116 t119 t122 t123))) else (laws_FnRetain.j1 kj4 true t101 t102 t103 t106 t111 t112 t113 t116 t119 t122 t123))) else (none)) else (none)) else (laws_FnRetain.j1 kj4 true t101 t102 t103 t106 t111 t112 t113 t116 t119 t122 t123))) = some r := H
     have A49 := AM A490
     clear A490
     replace H := Option.bind_eq_some_iff.mp H
     obtain ⟨t154, A500, H⟩ := H
     replace H : (if t153 = t154 then (if 0 ≤ (wrap64 (t112 - t102)) then (if (wrap64 (t112 - t102)) ≤ (t103.length : Int) then ((laws_lwTexts.f kj4 t113 (t103.drop ((wrap64 (t112 - t102)) : Int).toNat)).bind fun t159 => (if t159 = true then (if (t113.length : Int) > t109 then (laws_FnRetain.j1 kj4 true t101 t102 t103 t106 t111 t112 t113 t116 t119 t122 t123) else (if (wrap64 (t112 - t102)) > 0 then (laws_FnRetain.j1 kj4 ((t113.length : Int) != t109) t101 t102 t103 t106 t111 t112 t113 t116 t119 t122 t123) else (laws_FnRetain.j1 kj4 false t101 t102 t103 t106 t111 t112 t113 t116 t119 t122 t123))) else (laws_FnRetain.j1 kj4 true t101 t102 t103 t106 t111 t112 t113 t116 t119 t122 t123))) else (none)) else (none)) else (laws_FnRetain.j1 kj4 true t101 t102 t103 t106 t111 t112 t113 t116 t119 t122 t123)) = some r := H
     have A50 := AM A500
     clear A500
     by_cases c51 : t153 = t154
     ·
      rw [if_pos c51] at H
      have c51b0 : (t153 == t154) = true := beq_iff_eq.mpr c51
      have c51b1 : (t153 != t154) = false := bne_eq_false_iff_eq.mpr c51
      clear c51
      obtain ⟨ji52, hji52⟩ : ∃ j_ : Int, (wrap64 (t112 - t102)) = j_ := ⟨_, rfl⟩
      replace H : (if 0 ≤ (ji52) then (if (ji52) ≤ (t103.length : Int) then ((laws_lwTexts.f kj4 t113 (t103.drop ((ji52) : Int).toNat)).bind fun t159 => (if t159 = true then (if (t113.length : Int) > t109 then (laws_FnRetain.j1 kj4 true t101 t102 t103 t106 t111 t112 t113 t116 t119 t122 t123) else (if (ji52) > 0 then (laws_FnRetain.j1 kj4 ((t113.length : Int) != t109) t101 t102 t103 t106 t111 t112 t113 t116 t119 t122 t123) else (laws_FnRetain.j1 kj4 false t101 t102 t103 t106 t111 t112 t113 t116 t119 t122 t123))) else (laws_FnRetain.j1 kj4 true t101 t102 t103 t106 t111 t112 t113 t116 t119 t122 t123))) else (none)) else (none)) = some r := by first | (rw [hji52] at H; exact H) | (simp only [hji52] at H ⊢; exact H)
      (try rw [hji52] at c48b0)
      (try rw [hji52] at c48b1)
      (try rw [hji52] at A49)
      (try rw [hji52] at A50)
      have hji52w : (IntKind.i64.wrap (t112 - t102)) = ji52 := (i64_w _).trans hji52
      by_cases c53 : 0 ≤ (ji52)
      ·
       rw [if_pos c53] at H
       have c53b0 := eq_true c53
       have c53b1 : decide (0 ≤ (ji52)) = true := decide_eq_true c53
       clear c53
       by_cases c54 : (ji52) ≤ (t103.length : Int)
       ·
        rw [if_pos c54] at H
        have c54b0 := eq_true c54
        have c54b1 : decide ((ji52) ≤ (t103.length : Int)) = true := decide_eq_true c54
        clear c54
        obtain ⟨y155, hy155⟩ : ∃ y_ : List ByteArray, y_ = (t103.drop ((ji52) : Int).toNat) := ⟨_, rfl⟩
        replace H : ((laws_lwTexts.f kj4 t113 y155).bind fun t159 => (if t159 = true then (if (t113.length : Int) > t109 then (laws_FnRetain.j1 kj4 true t101 t102 t103 t106 t111 t112 t113 t116 t119 t122 t123) else (if (ji52) > 0 then (laws_FnRetain.j1 kj4 ((t113.length : Int) != t109) t101 t102 t103 t106 t111 t112 t113 t116 t119 t122 t123) else (laws_FnRetain.j1 kj4 false t101 t102 t103 t106 t111 t112 t113 t116 t119 t122 t123))) else (laws_FnRetain.j1 kj4 true t101 t102 t103 t106 t111 t112 t113 t116 t119 t122 t123))) = some r := by first | (rw [hy155]; with_reducible exact H) | (have H2_ := (Option.bind_some _ _).symm.trans H; rw [hy155]; with_reducible exact H2_) | (have H2_ := (Option.bind_some _ _).symm.trans H; with_reducible exact H2_) | with_reducible exact H | (rw [hy155]; exact H) | exact H
        have Ny155 := AM hy155
        clear hy155
        replace H := Option.bind_eq_some_iff.mp H
        obtain ⟨t159, A550, H⟩ := H
        replace H : (if t159 = true then (if (t113.length : Int) > t109 then (laws_FnRetain.j1 kj4 true t101 t102 t103 t106 t111 t112 t113 t116 t119 t122 t123) else (if (ji52) > 0 then (laws_FnRetain.j1 kj4 ((t113.length : Int) != t109) t101 t102 t103 t106 t111 t112 t113 t116 t119 t122 t123) else (laws_FnRetain.j1 kj4 false t101 t102 t103 t106 t111 t112 t113 t116 t119 t122 t123))) else (laws_FnRetain.j1 kj4 true t101 t102 t103 t106 t111 t112 t113 t116 t119 t122 t123)) = some r := H
        have A55 := AM A550
        clear A550
        by_cases c56 : t159 = true
        ·
         subst c56
         have H1 : (if (t113.length : Int) > t109 then (laws_FnRetain.j1 kj4 true t101 t102 t103 t106 t111 t112 t113 t116 t119 t122 t123) else (if (ji52) > 0 then (laws_FnRetain.j1 kj4 ((t113.length : Int) != t109) t101 t102 t103 t106 t111 t112 t113 t116 t119 t122 t123) else (laws_FnRetain.j1 kj4 false t101 t102 t103 t106 t111 t112 t113 t116 t119 t122 t123))) = some r := by rw [if_pos rfl] at H; exact H
         clear H
         have H := H1
         clear H1
         by_cases c57 : (t113.length : Int) > t109
         ·
          rw [if_pos c57] at H
          have c57b0 : decide (t109 < (t113.length : Int)) = true := decide_eq_true c57
          clear c57
          have H' := AM H
          clear H
          try go_wp2
          have _ := AM (Kd.Q_drew HO_111002.out)
          have _ := AM (rD HO_111003.out)
          have _ := AM (Kd.Q_drew HO_125002.out)
          have _ := AM (rD HO_125003.out)
          have _ := AM (rD HO_125004.out)
          have _ := AM (kD BK110.out)
          have _ := AM (kD BK124.out)
          have _ := AM (bD HB.out)
          clear HO_111002 HO_111003 HO_125002 HO_125003 HO_125004 BK110 BK124 HB
          rename_i HO_111002 HO_111003 HO_125002 HO_125003 HO_125004 BK110 BK124 HB
          refine start_ (n := 43) (S := fun w' => w'.cell? ⟨gb124, 0, none⟩ = some (.string t111) ∧ w'.cell? ⟨gb124, 1, none⟩ = some (.int .i64 t112) ∧ w'.cell? ⟨gb124, 2, none⟩ = some (.slice Ao15 t113.length co15) ∧ w'.cell? ⟨gb124, 3, none⟩ = some (.slice Ao16 t116.length co16) ∧ w'.cell? ⟨gb124, 4, none⟩ = some (.slice Ao17 t119.length co17) ∧ w'.cell? ⟨gb124, 5, none⟩ = some (.int .i64 t122) ∧ w'.cell? ⟨gb124, 6, none⟩ = some (.int .i64 t123) ∧ w'.cell? ⟨gb110, 0, none⟩ = some (.string t101) ∧ w'.cell? ⟨gb110, 1, none⟩ = some (.int .i64 t102) ∧ w'.cell? ⟨gb110, 2, none⟩ = some (.slice Ao9 t103.length co9) ∧ w'.cell? ⟨gb110, 3, none⟩ = some (.slice Ao10 t106.length co10)) (ds := []) (upTo 0 43) (by kernel_rfl) rfl rfl ⟨(kC BK124.out 0).trans rfl, (kC BK124.out 1).trans rfl, (kC BK124.out 2).trans rfl, (kC BK124.out 3).trans rfl, (kC BK124.out 4).trans rfl, (kC BK124.out 5).trans rfl, (kC BK124.out 6).trans rfl, (kC BK110.out 0).trans rfl, (kC BK110.out 1).trans rfl, (kC BK110.out 2).trans rfl, (kC BK110.out 3).trans rfl⟩ (fun hHeld => ?_); refine with_tabW laws_FnRetain.tab8 laws_FnRetain.bits8 (fun HT_ HW_ => ?_)
          generalize wc.drew = w58 at HO_111002 HO_111003 HO_125002 HO_125003 HO_125004 BK110 BK124 HB hHeld ⊢
          refine pF 0 1 43 41 ?_
          refine pF 1 2 43 42 ?_
          refine pT2 2 43 (upTo 3 43) ?_ hHeld
          refine pF 3 4 43 44 ?_
          refine pF 4 5 43 45 ?_
          refine pF 5 6 43 46 ?_
          refine pT2 6 47 (upTo 7 43) ?_ hHeld
          refine pT2 8 49 laws_FnRetain.b2 ?_ hHeld
          refine one_ (i := 7) (N := some 48) (upTo 9 43) rfl rfl (one_of HT_.out (by kernel_rfl)) (by decide) (fun K hK => ?_)
          refine goes_ Try.func9 (by kernel_rfl) rfl #[.agg #[.string t111, .int .i64 t112, .slice Ao15 t113.length co15, .slice Ao16 t116.length co16]] (by rfl) rfl rfl (by (try simp only [mA, mB, mC]); first | done | rfl | (simp only [mD, mE]; rfl)) ?_
          with_reducible refine (spec_TopicEnd.calls kj4 t111 t112 _ _ t113 _ _ t116 t153 _ ?side1 ?side2 ?side3 ?side4 A49.out).mono ?_
          (case side1 => repeat (first | exact (Kd.Q_reads' HO_125002.out).2.2 | (with_reducible first | apply cA | apply cN | apply cD)))
          (case side2 => exact (Kd.Q_reads' HO_125002.out).2.1)
          (case side3 => repeat (first | exact (Kd.R_reads' HO_125003.out).2.2 | (with_reducible first | apply cA | apply cN | apply cD)))
          (case side4 => exact (Kd.R_reads' HO_125003.out).2.1)
          rintro e w59 ⟨rfl, hb⟩
          refine ⟨_, rfl, ?_⟩
          have _ := AM (Kd.Q_below (qX HO_111002.out) hb)
          have _ := AM (Kd.R_below (rX HO_111003.out) hb)
          have _ := AM (Kd.Q_below (qX HO_125002.out) hb)
          have _ := AM (Kd.R_below (rX HO_125003.out) hb)
          have _ := AM (Kd.R_below (rX HO_125004.out) hb)
          have _ := AM (nB BK110.out hb)
          have _ := AM (nB BK124.out hb)
          have _ := AM (below_step (bX HB.out) hb)
          clear HO_111002 HO_111003 HO_125002 HO_125003 HO_125004 BK110 BK124 HB
          rename_i HO_111002 HO_111003 HO_125002 HO_125003 HO_125004 BK110 BK124 HB
          (try clear hb)
          (try clear hk)
          refine hK.out _ _ ⟨(kC BK124.out 0).trans rfl, (kC BK124.out 1).trans rfl, (kC BK124.out 2).trans rfl, (kC BK124.out 3).trans rfl, (kC BK124.out 4).trans rfl, (kC BK124.out 5).trans rfl, (kC BK124.out 6).trans rfl, (kC BK110.out 0).trans rfl, (kC BK110.out 1).trans rfl, (kC BK110.out 2).trans rfl, (kC BK110.out 3).trans rfl⟩ (fun hHeld => ?_)
          clear hK K
          refine norm_ (a' := ?_) ?_ ?_
          rotate_left
          ·
           show Act.put _ (some 48) _ = _
           simp only [Act.put, sA, sB, sC, i64_w, i32_w]
           rfl
          refine one_ (i := 9) (N := some 50) (upTo 10 43) rfl rfl (one_of HT_.out (by kernel_rfl)) (by decide) (fun K hK => ?_)
          refine goes_ Try.func9 (by kernel_rfl) rfl #[.agg #[.string t101, .int .i64 t102, .slice Ao9 t103.length co9, .slice Ao10 t106.length co10]] (by rfl) rfl rfl (by (try simp only [mA, mB, mC]); first | done | rfl | (simp only [mD, mE]; rfl)) ?_
          with_reducible refine (spec_TopicEnd.calls kj4 t101 t102 _ _ t103 _ _ t106 t154 _ ?side1 ?side2 ?side3 ?side4 A50.out).mono ?_
          (case side1 => repeat (first | exact (Kd.Q_reads' HO_111002.out).2.2 | (with_reducible first | apply cA | apply cN | apply cD)))
          (case side2 => exact (Kd.Q_reads' HO_111002.out).2.1)
          (case side3 => repeat (first | exact (Kd.R_reads' HO_111003.out).2.2 | (with_reducible first | apply cA | apply cN | apply cD)))
          (case side4 => exact (Kd.R_reads' HO_111003.out).2.1)
          rintro e w60 ⟨rfl, hb⟩
          refine ⟨_, rfl, ?_⟩
          have _ := AM (Kd.Q_below (qX HO_111002.out) hb)
          have _ := AM (Kd.R_below (rX HO_111003.out) hb)
          have _ := AM (Kd.Q_below (qX HO_125002.out) hb)
          have _ := AM (Kd.R_below (rX HO_125003.out) hb)
          have _ := AM (Kd.R_below (rX HO_125004.out) hb)
          have _ := AM (nB BK110.out hb)
          have _ := AM (nB BK124.out hb)
          have _ := AM (below_step (bX HB.out) hb)
          clear HO_111002 HO_111003 HO_125002 HO_125003 HO_125004 BK110 BK124 HB
          rename_i HO_111002 HO_111003 HO_125002 HO_125003 HO_125004 BK110 BK124 HB
          (try clear hb)
          (try clear hk)
          have q61 : ((ji52) : Int) ≤ ((t103.length : Int) : Int) := of_decide_eq_true (by assumption)
          obtain ⟨i061, hi061, _, hsz61, _⟩ := info_parts info9
          have hroom61 : t103.length ≤ co9 := (Kd.Q_reads' HO_111002.out).2.1
          have hC61 : Kd.C Kd.string _ Ao9 t103.length t103 := (Kd.Q_reads' HO_111002.out).2.2
          have q061 : (0 : Int) ≤ ((ji52) : Int) := of_decide_eq_true (by assumption)
          have hcut61 := cut_from (P := Try.prog) 23 9 .i64 Try.underlying23 hi061 1 hsz61 Ao9 t103.length co9 (ji52) q061 q61
          have hr61 := Kd.C_drop (m := ((ji52) : Int).toNat) (c := co9) hC61 (by omega) hroom61
          obtain ⟨A61, hA61⟩ : ∃ A1, A1 = (if co9 = ((ji52) : Int).toNat then Ao9 else (Ao9 : Option Addr).map (·.add (((ji52) : Int).toNat * 1))) := ⟨_, rfl⟩
          obtain ⟨c61, hc61⟩ : ∃ c1, c1 = co9 - ((ji52) : Int).toNat := ⟨_, rfl⟩
          have hy61 : y155.length = t103.length - ((ji52) : Int).toNat := (by rw [Ny155.out, mD] <;> omega)
          rw [show (t103).drop ((ji52) : Int).toNat = y155 from Ny155.out.symm] at hr61
          replace hr61 : Kd.C Kd.string _ A61 y155.length y155 := (by rw [hA61]; exact hr61)
          rw [← hy61, ← hA61, ← hc61] at hcut61
          have HR158 := AM hr61
          have HC158 := AM (show y155.length ≤ c61 from by rw [hy61, hc61]; exact Nat.sub_le_sub_right hroom61 _)
          clear hr61 hC61 hroom61 hi061 hsz61 hc61
          have KY61 := AM hy61
          have KA61 := AM hA61
          clear hy61 hA61
          have KL61 := AM (show ((ji52) : Int).toNat ≤ t103.length from by omega)
          replace q61 := eq_true q61
          refine hK.out _ _ ⟨(kC BK124.out 0).trans rfl, (kC BK124.out 1).trans rfl, (kC BK124.out 2).trans rfl, (kC BK124.out 3).trans rfl, (kC BK124.out 4).trans rfl, (kC BK124.out 5).trans rfl, (kC BK124.out 6).trans rfl, (kC BK110.out 0).trans rfl, (kC BK110.out 1).trans rfl, (kC BK110.out 2).trans rfl, (kC BK110.out 3).trans rfl⟩ (fun hHeld => ?_)
          clear hK K
          refine norm_ (a' := ?_) ?_ ?_
          rotate_left
          ·
           show Act.put _ (some 50) _ = _
           simp only [Act.put, sA, sB, sC, i64_w, i32_w]
           rfl
          refine pF 10 11 43 51 ?_
          refine pF 11 12 43 52 ?_
          refine pF 12 13 43 53 ?_
          refine pF 13 14 43 54 ?_
          refine pF 14 15 43 55 ?_
          refine pF2 16 57 laws_FnRetain.b3 ?_
          refine pF2 18 59 laws_FnRetain.b4 ?_
          refine pT2 15 56 laws_FnRetain.b5 ?_ hHeld
          refine pT2 17 58 (upTo 19 43) ?_ hHeld
          refine pF 19 20 43 60 ?_
          refine one_ (i := 20) (N := some 61) (upTo 21 43) rfl rfl (one_of HT_.out (by kernel_rfl)) (by decide) (fun K hK => ?_)
          refine goes_ Try.func10 (by kernel_rfl) rfl #[.slice Ao15 t113.length co15, .slice A61 y155.length c61] (by rfl) rfl rfl (by (try simp only [mA, mB, mC]); first | done | rfl | (simp only [mD, mE]; rfl)) ?_
          with_reducible refine (laws_lwTexts.calls kj4 _ _ t113 _ _ y155 true _ ?side1 ?side2 ?side3 ?side4 A55.out).mono ?_
          (case side1 => repeat (first | exact (Kd.Q_reads' HO_125002.out).2.2 | (with_reducible first | apply cA | apply cN | apply cD)))
          (case side2 => exact (Kd.Q_reads' HO_125002.out).2.1)
          (case side3 => repeat (first | exact (by repeat (first | (with_reducible exact HR158.out) | (with_reducible first | apply cA | apply cN | apply cD) | exact HR158.out)) | (with_reducible first | apply cA | apply cN | apply cD)))
          (case side4 => exact HC158.out)
          rintro e w' ⟨rfl, ⟨nd, rfl⟩⟩
          refine ⟨_, rfl, ?_⟩
          refine hK.out _ _ ⟨(kC BK124.out 0).trans rfl, (kC BK124.out 1).trans rfl, (kC BK124.out 2).trans rfl, (kC BK124.out 3).trans rfl, (kC BK124.out 4).trans rfl, (kC BK124.out 5).trans rfl, (kC BK124.out 6).trans rfl, (kC BK110.out 0).trans rfl, (kC BK110.out 1).trans rfl, (kC BK110.out 2).trans rfl, (kC BK110.out 3).trans rfl⟩ (fun hHeld => ?_)
          clear hK K
          refine norm_ (a' := ?_) ?_ ?_
          rotate_left
          ·
           show Act.put _ (some 61) _ = _
           simp only [Act.put, sA, sB, sC, i64_w, i32_w]
           rfl
          refine pF 21 22 43 62 ?_
          refine pF 22 23 43 63 ?_
          refine pF 23 24 43 64 ?_
          refine pF 24 25 43 65 ?_
          refine pF 25 26 43 66 ?_
          refine pF2 28 69 laws_FnRetain.b6 ?_
          refine pT2 26 67 laws_FnRetain.b7 ?_ hHeld
          refine pF2 27 68 (upTo 29 43) ?_
          refine pF 29 30 43 70 ?_
          refine pF 30 31 43 71 ?_
          refine pF 31 32 43 72 ?_
          refine pU 32 33 43 73 ?_
          refine pU 33 34 43 74 ?_
          refine pU 34 35 43 75 ?_
          refine pU 35 36 43 76 ?_
          refine pU 36 37 43 77 ?_
          refine pU 37 38 43 78 ?_
          refine pU 38 39 43 79 ?_
          refine pU 39 40 43 80 ?_
          refine pU 40 41 43 81 ?_
          refine pU 41 42 43 82 ?_
          refine pF 42 43 43 83 ?_
          refine done_ (done_of HT_.out (by kernel_rfl)) ?_
          try go_wp2
          go_meet
          case rel => exact ⟨_, (true), (by first | rfl | (simp; done) | (simp [*]; done)), H', ⟨by have := HJ4.out; first | omega | exact Nat.le_refl _⟩, ⟨qX HO_111002.out⟩, ⟨rX HO_111003.out⟩, ⟨qX HO_125002.out⟩, ⟨rX HO_125003.out⟩, ⟨rX HO_125004.out⟩, ⟨kX BK110.out⟩, ⟨kX BK124.out⟩, ⟨bX HB.out⟩⟩
         rw [if_neg c57] at H
         have c57b0 : decide (t109 < (t113.length : Int)) = false := decide_eq_false c57
         clear c57
         by_cases c62 : (ji52) > 0
         ·
          rw [if_pos c62] at H
          have c62b0 : decide (0 < (ji52)) = true := decide_eq_true c62
          clear c62
          have H' := AM H
          clear H
          try go_wp2
          have _ := AM (Kd.Q_drew HO_111002.out)
          have _ := AM (rD HO_111003.out)
          have _ := AM (Kd.Q_drew HO_125002.out)
          have _ := AM (rD HO_125003.out)
          have _ := AM (rD HO_125004.out)
          have _ := AM (kD BK110.out)
          have _ := AM (kD BK124.out)
          have _ := AM (bD HB.out)
          clear HO_111002 HO_111003 HO_125002 HO_125003 HO_125004 BK110 BK124 HB
          rename_i HO_111002 HO_111003 HO_125002 HO_125003 HO_125004 BK110 BK124 HB
          refine start_ (n := 43) (S := fun w' => w'.cell? ⟨gb124, 0, none⟩ = some (.string t111) ∧ w'.cell? ⟨gb124, 1, none⟩ = some (.int .i64 t112) ∧ w'.cell? ⟨gb124, 2, none⟩ = some (.slice Ao15 t113.length co15) ∧ w'.cell? ⟨gb124, 3, none⟩ = some (.slice Ao16 t116.length co16) ∧ w'.cell? ⟨gb124, 4, none⟩ = some (.slice Ao17 t119.length co17) ∧ w'.cell? ⟨gb124, 5, none⟩ = some (.int .i64 t122) ∧ w'.cell? ⟨gb124, 6, none⟩ = some (.int .i64 t123) ∧ w'.cell? ⟨gb110, 0, none⟩ = some (.string t101) ∧ w'.cell? ⟨gb110, 1, none⟩ = some (.int .i64 t102) ∧ w'.cell? ⟨gb110, 2, none⟩ = some (.slice Ao9 t103.length co9) ∧ w'.cell? ⟨gb110, 3, none⟩ = some (.slice Ao10 t106.length co10)) (ds := []) (upTo 0 43) (by kernel_rfl) rfl rfl ⟨(kC BK124.out 0).trans rfl, (kC BK124.out 1).trans rfl, (kC BK124.out 2).trans rfl, (kC BK124.out 3).trans rfl, (kC BK124.out 4).trans rfl, (kC BK124.out 5).trans rfl, (kC BK124.out 6).trans rfl, (kC BK110.out 0).trans rfl, (kC BK110.out 1).trans rfl, (kC BK110.out 2).trans rfl, (kC BK110.out 3).trans rfl⟩ (fun hHeld => ?_); refine with_tabW laws_FnRetain.tab8 laws_FnRetain.bits8 (fun HT_ HW_ => ?_)
          generalize wc.drew = w63 at HO_111002 HO_111003 HO_125002 HO_125003 HO_125004 BK110 BK124 HB hHeld ⊢
          refine pF 0 1 43 41 ?_
          refine pF 1 2 43 42 ?_
          refine pT2 2 43 (upTo 3 43) ?_ hHeld
          refine pF 3 4 43 44 ?_
          refine pF 4 5 43 45 ?_
          refine pF 5 6 43 46 ?_
          refine pT2 6 47 (upTo 7 43) ?_ hHeld
          refine pT2 8 49 laws_FnRetain.b2 ?_ hHeld
          refine one_ (i := 7) (N := some 48) (upTo 9 43) rfl rfl (one_of HT_.out (by kernel_rfl)) (by decide) (fun K hK => ?_)
          refine goes_ Try.func9 (by kernel_rfl) rfl #[.agg #[.string t111, .int .i64 t112, .slice Ao15 t113.length co15, .slice Ao16 t116.length co16]] (by rfl) rfl rfl (by (try simp only [mA, mB, mC]); first | done | rfl | (simp only [mD, mE]; rfl)) ?_
          with_reducible refine (spec_TopicEnd.calls kj4 t111 t112 _ _ t113 _ _ t116 t153 _ ?side1 ?side2 ?side3 ?side4 A49.out).mono ?_
          (case side1 => repeat (first | exact (Kd.Q_reads' HO_125002.out).2.2 | (with_reducible first | apply cA | apply cN | apply cD)))
          (case side2 => exact (Kd.Q_reads' HO_125002.out).2.1)
          (case side3 => repeat (first | exact (Kd.R_reads' HO_125003.out).2.2 | (with_reducible first | apply cA | apply cN | apply cD)))
          (case side4 => exact (Kd.R_reads' HO_125003.out).2.1)
          rintro e w64 ⟨rfl, hb⟩
          refine ⟨_, rfl, ?_⟩
          have _ := AM (Kd.Q_below (qX HO_111002.out) hb)
          have _ := AM (Kd.R_below (rX HO_111003.out) hb)
          have _ := AM (Kd.Q_below (qX HO_125002.out) hb)
          have _ := AM (Kd.R_below (rX HO_125003.out) hb)
          have _ := AM (Kd.R_below (rX HO_125004.out) hb)
          have _ := AM (nB BK110.out hb)
          have _ := AM (nB BK124.out hb)
          have _ := AM (below_step (bX HB.out) hb)
          clear HO_111002 HO_111003 HO_125002 HO_125003 HO_125004 BK110 BK124 HB
          rename_i HO_111002 HO_111003 HO_125002 HO_125003 HO_125004 BK110 BK124 HB
          (try clear hb)
          (try clear hk)
          refine hK.out _ _ ⟨(kC BK124.out 0).trans rfl, (kC BK124.out 1).trans rfl, (kC BK124.out 2).trans rfl, (kC BK124.out 3).trans rfl, (kC BK124.out 4).trans rfl, (kC BK124.out 5).trans rfl, (kC BK124.out 6).trans rfl, (kC BK110.out 0).trans rfl, (kC BK110.out 1).trans rfl, (kC BK110.out 2).trans rfl, (kC BK110.out 3).trans rfl⟩ (fun hHeld => ?_)
          clear hK K
          refine norm_ (a' := ?_) ?_ ?_
          rotate_left
          ·
           show Act.put _ (some 48) _ = _
           simp only [Act.put, sA, sB, sC, i64_w, i32_w]
           rfl
          refine one_ (i := 9) (N := some 50) (upTo 10 43) rfl rfl (one_of HT_.out (by kernel_rfl)) (by decide) (fun K hK => ?_)
          refine goes_ Try.func9 (by kernel_rfl) rfl #[.agg #[.string t101, .int .i64 t102, .slice Ao9 t103.length co9, .slice Ao10 t106.length co10]] (by rfl) rfl rfl (by (try simp only [mA, mB, mC]); first | done | rfl | (simp only [mD, mE]; rfl)) ?_
          with_reducible refine (spec_TopicEnd.calls kj4 t101 t102 _ _ t103 _ _ t106 t154 _ ?side1 ?side2 ?side3 ?side4 A50.out).mono ?_
          (case side1 => repeat (first | exact (Kd.Q_reads' HO_111002.out).2.2 | (with_reducible first | apply cA | apply cN | apply cD)))
          (case side2 => exact (Kd.Q_reads' HO_111002.out).2.1)
          (case side3 => repeat (first | exact (Kd.R_reads' HO_111003.out).2.2 | (with_reducible first | apply cA | apply cN | apply cD)))
          (case side4 => exact (Kd.R_reads' HO_111003.out).2.1)
          rintro e w65 ⟨rfl, hb⟩
          refine ⟨_, rfl, ?_⟩
          have _ := AM (Kd.Q_below (qX HO_111002.out) hb)
          have _ := AM (Kd.R_below (rX HO_111003.out) hb)
          have _ := AM (Kd.Q_below (qX HO_125002.out) hb)
          have _ := AM (Kd.R_below (rX HO_125003.out) hb)
          have _ := AM (Kd.R_below (rX HO_125004.out) hb)
          have _ := AM (nB BK110.out hb)
          have _ := AM (nB BK124.out hb)
          have _ := AM (below_step (bX HB.out) hb)
          clear HO_111002 HO_111003 HO_125002 HO_125003 HO_125004 BK110 BK124 HB
          rename_i HO_111002 HO_111003 HO_125002 HO_125003 HO_125004 BK110 BK124 HB
          (try clear hb)
          (try clear hk)
          have q66 : ((ji52) : Int) ≤ ((t103.length : Int) : Int) := of_decide_eq_true (by assumption)
          obtain ⟨i066, hi066, _, hsz66, _⟩ := info_parts info9
          have hroom66 : t103.length ≤ co9 := (Kd.Q_reads' HO_111002.out).2.1
          have hC66 : Kd.C Kd.string _ Ao9 t103.length t103 := (Kd.Q_reads' HO_111002.out).2.2
          have q066 : (0 : Int) ≤ ((ji52) : Int) := of_decide_eq_true (by assumption)
          have hcut66 := cut_from (P := Try.prog) 23 9 .i64 Try.underlying23 hi066 1 hsz66 Ao9 t103.length co9 (ji52) q066 q66
          have hr66 := Kd.C_drop (m := ((ji52) : Int).toNat) (c := co9) hC66 (by omega) hroom66
          obtain ⟨A66, hA66⟩ : ∃ A1, A1 = (if co9 = ((ji52) : Int).toNat then Ao9 else (Ao9 : Option Addr).map (·.add (((ji52) : Int).toNat * 1))) := ⟨_, rfl⟩
          obtain ⟨c66, hc66⟩ : ∃ c1, c1 = co9 - ((ji52) : Int).toNat := ⟨_, rfl⟩
          have hy66 : y155.length = t103.length - ((ji52) : Int).toNat := (by rw [Ny155.out, mD] <;> omega)
          rw [show (t103).drop ((ji52) : Int).toNat = y155 from Ny155.out.symm] at hr66
          replace hr66 : Kd.C Kd.string _ A66 y155.length y155 := (by rw [hA66]; exact hr66)
          rw [← hy66, ← hA66, ← hc66] at hcut66
          have HR158 := AM hr66
          have HC158 := AM (show y155.length ≤ c66 from by rw [hy66, hc66]; exact Nat.sub_le_sub_right hroom66 _)
          clear hr66 hC66 hroom66 hi066 hsz66 hc66
          have KY66 := AM hy66
          have KA66 := AM hA66
          clear hy66 hA66
          have KL66 := AM (show ((ji52) : Int).toNat ≤ t103.length from by omega)
          replace q66 := eq_true q66
          refine hK.out _ _ ⟨(kC BK124.out 0).trans rfl, (kC BK124.out 1).trans rfl, (kC BK124.out 2).trans rfl, (kC BK124.out 3).trans rfl, (kC BK124.out 4).trans rfl, (kC BK124.out 5).trans rfl, (kC BK124.out 6).trans rfl, (kC BK110.out 0).trans rfl, (kC BK110.out 1).trans rfl, (kC BK110.out 2).trans rfl, (kC BK110.out 3).trans rfl⟩ (fun hHeld => ?_)
          clear hK K
          refine norm_ (a' := ?_) ?_ ?_
          rotate_left
          ·
           show Act.put _ (some 50) _ = _
           simp only [Act.put, sA, sB, sC, i64_w, i32_w]
           rfl
          refine pF 10 11 43 51 ?_
          refine pF 11 12 43 52 ?_
          refine pF 12 13 43 53 ?_
          refine pF 13 14 43 54 ?_
          refine pF 14 15 43 55 ?_
          refine pF2 16 57 laws_FnRetain.b3 ?_
          refine pF2 18 59 laws_FnRetain.b4 ?_
          refine pT2 15 56 laws_FnRetain.b5 ?_ hHeld
          refine pT2 17 58 (upTo 19 43) ?_ hHeld
          refine pF 19 20 43 60 ?_
          refine one_ (i := 20) (N := some 61) (upTo 21 43) rfl rfl (one_of HT_.out (by kernel_rfl)) (by decide) (fun K hK => ?_)
          refine goes_ Try.func10 (by kernel_rfl) rfl #[.slice Ao15 t113.length co15, .slice A66 y155.length c66] (by rfl) rfl rfl (by (try simp only [mA, mB, mC]); first | done | rfl | (simp only [mD, mE]; rfl)) ?_
          with_reducible refine (laws_lwTexts.calls kj4 _ _ t113 _ _ y155 true _ ?side1 ?side2 ?side3 ?side4 A55.out).mono ?_
          (case side1 => repeat (first | exact (Kd.Q_reads' HO_125002.out).2.2 | (with_reducible first | apply cA | apply cN | apply cD)))
          (case side2 => exact (Kd.Q_reads' HO_125002.out).2.1)
          (case side3 => repeat (first | exact (by repeat (first | (with_reducible exact HR158.out) | (with_reducible first | apply cA | apply cN | apply cD) | exact HR158.out)) | (with_reducible first | apply cA | apply cN | apply cD)))
          (case side4 => exact HC158.out)
          rintro e w' ⟨rfl, ⟨nd, rfl⟩⟩
          refine ⟨_, rfl, ?_⟩
          refine hK.out _ _ ⟨(kC BK124.out 0).trans rfl, (kC BK124.out 1).trans rfl, (kC BK124.out 2).trans rfl, (kC BK124.out 3).trans rfl, (kC BK124.out 4).trans rfl, (kC BK124.out 5).trans rfl, (kC BK124.out 6).trans rfl, (kC BK110.out 0).trans rfl, (kC BK110.out 1).trans rfl, (kC BK110.out 2).trans rfl, (kC BK110.out 3).trans rfl⟩ (fun hHeld => ?_)
          clear hK K
          refine norm_ (a' := ?_) ?_ ?_
          rotate_left
          ·
           show Act.put _ (some 61) _ = _
           simp only [Act.put, sA, sB, sC, i64_w, i32_w]
           rfl
          refine pF 21 22 43 62 ?_
          refine pF 22 23 43 63 ?_
          refine pF 23 24 43 64 ?_
          refine pF 24 25 43 65 ?_
          refine pF 25 26 43 66 ?_
          refine pF2 28 69 laws_FnRetain.b6 ?_
          refine pT2 26 67 laws_FnRetain.b7 ?_ hHeld
          refine pF2 27 68 (upTo 29 43) ?_
          refine pF 29 30 43 70 ?_
          refine pF 30 31 43 71 ?_
          refine pF 31 32 43 72 ?_
          refine pF 32 33 43 73 ?_
          refine pF 33 34 43 74 ?_
          refine pF 34 35 43 75 ?_
          refine pF 35 36 43 76 ?_
          refine pF 36 37 43 77 ?_
          refine pF2 39 80 laws_FnRetain.b8 ?_
          refine pT2 37 78 laws_FnRetain.b9 ?_ hHeld
          refine pF2 38 79 (upTo 40 43) ?_
          refine pF 40 41 43 81 ?_
          refine pF 41 42 43 82 ?_
          refine pF 42 43 43 83 ?_
          refine done_ (done_of HT_.out (by kernel_rfl)) ?_
          try go_wp2
          go_meet
          case rel => exact ⟨_, (((t113.length : Int) != t109)), (by first | rfl | (simp; done) | (simp [*]; done)), H', ⟨by have := HJ4.out; first | omega | exact Nat.le_refl _⟩, ⟨qX HO_111002.out⟩, ⟨rX HO_111003.out⟩, ⟨qX HO_125002.out⟩, ⟨rX HO_125003.out⟩, ⟨rX HO_125004.out⟩, ⟨kX BK110.out⟩, ⟨kX BK124.out⟩, ⟨bX HB.out⟩⟩
         rw [if_neg c62] at H
         have c62b0 : decide (0 < (ji52)) = false := decide_eq_false c62
         clear c62
         have H' := AM H
         clear H
         try go_wp2
         have _ := AM (Kd.Q_drew HO_111002.out)
         have _ := AM (rD HO_111003.out)
         have _ := AM (Kd.Q_drew HO_125002.out)
         have _ := AM (rD HO_125003.out)
         have _ := AM (rD HO_125004.out)
         have _ := AM (kD BK110.out)
         have _ := AM (kD BK124.out)
         have _ := AM (bD HB.out)
         clear HO_111002 HO_111003 HO_125002 HO_125003 HO_125004 BK110 BK124 HB
         rename_i HO_111002 HO_111003 HO_125002 HO_125003 HO_125004 BK110 BK124 HB
         refine start_ (n := 43) (S := fun w' => w'.cell? ⟨gb124, 0, none⟩ = some (.string t111) ∧ w'.cell? ⟨gb124, 1, none⟩ = some (.int .i64 t112) ∧ w'.cell? ⟨gb124, 2, none⟩ = some (.slice Ao15 t113.length co15) ∧ w'.cell? ⟨gb124, 3, none⟩ = some (.slice Ao16 t116.length co16) ∧ w'.cell? ⟨gb124, 4, none⟩ = some (.slice Ao17 t119.length co17) ∧ w'.cell? ⟨gb124, 5, none⟩ = some (.int .i64 t122) ∧ w'.cell? ⟨gb124, 6, none⟩ = some (.int .i64 t123) ∧ w'.cell? ⟨gb110, 0, none⟩ = some (.string t101) ∧ w'.cell? ⟨gb110, 1, none⟩ = some (.int .i64 t102) ∧ w'.cell? ⟨gb110, 2, none⟩ = some (.slice Ao9 t103.length co9) ∧ w'.cell? ⟨gb110, 3, none⟩ = some (.slice Ao10 t106.length co10)) (ds := []) (upTo 0 43) (by kernel_rfl) rfl rfl ⟨(kC BK124.out 0).trans rfl, (kC BK124.out 1).trans rfl, (kC BK124.out 2).trans rfl, (kC BK124.out 3).trans rfl, (kC BK124.out 4).trans rfl, (kC BK124.out 5).trans rfl, (kC BK124.out 6).trans rfl, (kC BK110.out 0).trans rfl, (kC BK110.out 1).trans rfl, (kC BK110.out 2).trans rfl, (kC BK110.out 3).trans rfl⟩ (fun hHeld => ?_); refine with_tabW laws_FnRetain.tab8 laws_FnRetain.bits8 (fun HT_ HW_ => ?_)
         generalize wc.drew = w67 at HO_111002 HO_111003 HO_125002 HO_125003 HO_125004 BK110 BK124 HB hHeld ⊢
         refine pF 0 1 43 41 ?_
         refine pF 1 2 43 42 ?_
         refine pT2 2 43 (upTo 3 43) ?_ hHeld
         refine pF 3 4 43 44 ?_
         refine pF 4 5 43 45 ?_
         refine pF 5 6 43 46 ?_
         refine pT2 6 47 (upTo 7 43) ?_ hHeld
         refine pT2 8 49 laws_FnRetain.b2 ?_ hHeld
         refine one_ (i := 7) (N := some 48) (upTo 9 43) rfl rfl (one_of HT_.out (by kernel_rfl)) (by decide) (fun K hK => ?_)
         refine goes_ Try.func9 (by kernel_rfl) rfl #[.agg #[.string t111, .int .i64 t112, .slice Ao15 t113.length co15, .slice Ao16 t116.length co16]] (by rfl) rfl rfl (by (try simp only [mA, mB, mC]); first | done | rfl | (simp only [mD, mE]; rfl)) ?_
         with_reducible refine (spec_TopicEnd.calls kj4 t111 t112 _ _ t113 _ _ t116 t153 _ ?side1 ?side2 ?side3 ?side4 A49.out).mono ?_
         (case side1 => repeat (first | exact (Kd.Q_reads' HO_125002.out).2.2 | (with_reducible first | apply cA | apply cN | apply cD)))
         (case side2 => exact (Kd.Q_reads' HO_125002.out).2.1)
         (case side3 => repeat (first | exact (Kd.R_reads' HO_125003.out).2.2 | (with_reducible first | apply cA | apply cN | apply cD)))
         (case side4 => exact (Kd.R_reads' HO_125003.out).2.1)
         rintro e w68 ⟨rfl, hb⟩
         refine ⟨_, rfl, ?_⟩
         have _ := AM (Kd.Q_below (qX HO_111002.out) hb)
         have _ := AM (Kd.R_below (rX HO_111003.out) hb)
         have _ := AM (Kd.Q_below (qX HO_125002.out) hb)
         have _ := AM (Kd.R_below (rX HO_125003.out) hb)
         have _ := AM (Kd.R_below (rX HO_125004.out) hb)
         have _ := AM (nB BK110.out hb)
         have _ := AM (nB BK124.out hb)
         have _ := AM (below_step (bX HB.out) hb)
         clear HO_111002 HO_111003 HO_125002 HO_125003 HO_125004 BK110 BK124 HB
         rename_i HO_111002 HO_111003 HO_125002 HO_125003 HO_125004 BK110 BK124 HB
         (try clear hb)
         (try clear hk)
         refine hK.out _ _ ⟨(kC BK124.out 0).trans rfl, (kC BK124.out 1).trans rfl, (kC BK124.out 2).trans rfl, (kC BK124.out 3).trans rfl, (kC BK124.out 4).trans rfl, (kC BK124.out 5).trans rfl, (kC BK124.out 6).trans rfl, (kC BK110.out 0).trans rfl, (kC BK110.out 1).trans rfl, (kC BK110.out 2).trans rfl, (kC BK110.out 3).trans rfl⟩ (fun hHeld => ?_)
         clear hK K
         refine norm_ (a' := ?_) ?_ ?_
         rotate_left
         ·
          show Act.put _ (some 48) _ = _
          simp only [Act.put, sA, sB, sC, i64_w, i32_w]
          rfl
         refine one_ (i := 9) (N := some 50) (upTo 10 43) rfl rfl (one_of HT_.out (by kernel_rfl)) (by decide) (fun K hK => ?_)
         refine goes_ Try.func9 (by kernel_rfl) rfl #[.agg #[.string t101, .int .i64 t102, .slice Ao9 t103.length co9, .slice Ao10 t106.length co10]] (by rfl) rfl rfl (by (try simp only [mA, mB, mC]); first | done | rfl | (simp only [mD, mE]; rfl)) ?_
         with_reducible refine (spec_TopicEnd.calls kj4 t101 t102 _ _ t103 _ _ t106 t154 _ ?side1 ?side2 ?side3 ?side4 A50.out).mono ?_
         (case side1 => repeat (first | exact (Kd.Q_reads' HO_111002.out).2.2 | (with_reducible first | apply cA | apply cN | apply cD)))
         (case side2 => exact (Kd.Q_reads' HO_111002.out).2.1)
         (case side3 => repeat (first | exact (Kd.R_reads' HO_111003.out).2.2 | (with_reducible first | apply cA | apply cN | apply cD)))
         (case side4 => exact (Kd.R_reads' HO_111003.out).2.1)
         rintro e w69 ⟨rfl, hb⟩
         refine ⟨_, rfl, ?_⟩
         have _ := AM (Kd.Q_below (qX HO_111002.out) hb)
         have _ := AM (Kd.R_below (rX HO_111003.out) hb)
         have _ := AM (Kd.Q_below (qX HO_125002.out) hb)
         have _ := AM (Kd.R_below (rX HO_125003.out) hb)
         have _ := AM (Kd.R_below (rX HO_125004.out) hb)
         have _ := AM (nB BK110.out hb)
         have _ := AM (nB BK124.out hb)
         have _ := AM (below_step (bX HB.out) hb)
         clear HO_111002 HO_111003 HO_125002 HO_125003 HO_125004 BK110 BK124 HB
         rename_i HO_111002 HO_111003 HO_125002 HO_125003 HO_125004 BK110 BK124 HB
         (try clear hb)
         (try clear hk)
         have q70 : ((ji52) : Int) ≤ ((t103.length : Int) : Int) := of_decide_eq_true (by assumption)
         obtain ⟨i070, hi070, _, hsz70, _⟩ := info_parts info9
         have hroom70 : t103.length ≤ co9 := (Kd.Q_reads' HO_111002.out).2.1
         have hC70 : Kd.C Kd.string _ Ao9 t103.length t103 := (Kd.Q_reads' HO_111002.out).2.2
         have q070 : (0 : Int) ≤ ((ji52) : Int) := of_decide_eq_true (by assumption)
         have hcut70 := cut_from (P := Try.prog) 23 9 .i64 Try.underlying23 hi070 1 hsz70 Ao9 t103.length co9 (ji52) q070 q70
         have hr70 := Kd.C_drop (m := ((ji52) : Int).toNat) (c := co9) hC70 (by omega) hroom70
         obtain ⟨A70, hA70⟩ : ∃ A1, A1 = (if co9 = ((ji52) : Int).toNat then Ao9 else (Ao9 : Option Addr).map (·.add (((ji52) : Int).toNat * 1))) := ⟨_, rfl⟩
         obtain ⟨c70, hc70⟩ : ∃ c1, c1 = co9 - ((ji52) : Int).toNat := ⟨_, rfl⟩
         have hy70 : y155.length = t103.length - ((ji52) : Int).toNat := (by rw [Ny155.out, mD] <;> omega)
         rw [show (t103).drop ((ji52) : Int).toNat = y155 from Ny155.out.symm] at hr70
         replace hr70 : Kd.C Kd.string _ A70 y155.length y155 := (by rw [hA70]; exact hr70)
         rw [← hy70, ← hA70, ← hc70] at hcut70
         have HR158 := AM hr70
         have HC158 := AM (show y155.length ≤ c70 from by rw [hy70, hc70]; exact Nat.sub_le_sub_right hroom70 _)
         clear hr70 hC70 hroom70 hi070 hsz70 hc70
         have KY70 := AM hy70
         have KA70 := AM hA70
         clear hy70 hA70
         have KL70 := AM (show ((ji52) : Int).toNat ≤ t103.length from by omega)
         replace q70 := eq_true q70
         refine hK.out _ _ ⟨(kC BK124.out 0).trans rfl, (kC BK124.out 1).trans rfl, (kC BK124.out 2).trans rfl, (kC BK124.out 3).trans rfl, (kC BK124.out 4).trans rfl, (kC BK124.out 5).trans rfl, (kC BK124.out 6).trans rfl, (kC BK110.out 0).trans rfl, (kC BK110.out 1).trans rfl, (kC BK110.out 2).trans rfl, (kC BK110.out 3).trans rfl⟩ (fun hHeld => ?_)
         clear hK K
         refine norm_ (a' := ?_) ?_ ?_
         rotate_left
         ·
          show Act.put _ (some 50) _ = _
          simp only [Act.put, sA, sB, sC, i64_w, i32_w]
          rfl
         refine pF 10 11 43 51 ?_
         refine pF 11 12 43 52 ?_
         refine pF 12 13 43 53 ?_
         refine pF 13 14 43 54 ?_
         refine pF 14 15 43 55 ?_
         refine pF2 16 57 laws_FnRetain.b3 ?_
         refine pF2 18 59 laws_FnRetain.b4 ?_
         refine pT2 15 56 laws_FnRetain.b5 ?_ hHeld
         refine pT2 17 58 (upTo 19 43) ?_ hHeld
         refine pF 19 20 43 60 ?_
         refine one_ (i := 20) (N := some 61) (upTo 21 43) rfl rfl (one_of HT_.out (by kernel_rfl)) (by decide) (fun K hK => ?_)
         refine goes_ Try.func10 (by kernel_rfl) rfl #[.slice Ao15 t113.length co15, .slice A70 y155.length c70] (by rfl) rfl rfl (by (try simp only [mA, mB, mC]); first | done | rfl | (simp only [mD, mE]; rfl)) ?_
         with_reducible refine (laws_lwTexts.calls kj4 _ _ t113 _ _ y155 true _ ?side1 ?side2 ?side3 ?side4 A55.out).mono ?_
         (case side1 => repeat (first | exact (Kd.Q_reads' HO_125002.out).2.2 | (with_reducible first | apply cA | apply cN | apply cD)))
         (case side2 => exact (Kd.Q_reads' HO_125002.out).2.1)
         (case side3 => repeat (first | exact (by repeat (first | (with_reducible exact HR158.out) | (with_reducible first | apply cA | apply cN | apply cD) | exact HR158.out)) | (with_reducible first | apply cA | apply cN | apply cD)))
         (case side4 => exact HC158.out)
         rintro e w' ⟨rfl, ⟨nd, rfl⟩⟩
         refine ⟨_, rfl, ?_⟩
         refine hK.out _ _ ⟨(kC BK124.out 0).trans rfl, (kC BK124.out 1).trans rfl, (kC BK124.out 2).trans rfl, (kC BK124.out 3).trans rfl, (kC BK124.out 4).trans rfl, (kC BK124.out 5).trans rfl, (kC BK124.out 6).trans rfl, (kC BK110.out 0).trans rfl, (kC BK110.out 1).trans rfl, (kC BK110.out 2).trans rfl, (kC BK110.out 3).trans rfl⟩ (fun hHeld => ?_)
         clear hK K
         refine norm_ (a' := ?_) ?_ ?_
         rotate_left
         ·
          show Act.put _ (some 61) _ = _
          simp only [Act.put, sA, sB, sC, i64_w, i32_w]
          rfl
         refine pF 21 22 43 62 ?_
         refine pF 22 23 43 63 ?_
         refine pF 23 24 43 64 ?_
         refine pF 24 25 43 65 ?_
         refine pF 25 26 43 66 ?_
         refine pF2 28 69 laws_FnRetain.b6 ?_
         refine pT2 26 67 laws_FnRetain.b7 ?_ hHeld
         refine pF2 27 68 (upTo 29 43) ?_
         refine pF 29 30 43 70 ?_
         refine pF 30 31 43 71 ?_
         refine pF 31 32 43 72 ?_
         refine pF 32 33 43 73 ?_
         refine pF 33 34 43 74 ?_
         refine pF 34 35 43 75 ?_
         refine pU 35 36 43 76 ?_
         refine pU 36 37 43 77 ?_
         refine pU 37 38 43 78 ?_
         refine pU 38 39 43 79 ?_
         refine pU 39 40 43 80 ?_
         refine pU 40 41 43 81 ?_
         refine pF 41 42 43 82 ?_
         refine pF 42 43 43 83 ?_
         refine done_ (done_of HT_.out (by kernel_rfl)) ?_
         try go_wp2
         go_meet
         case rel => exact ⟨_, (false), (by first | rfl | (simp; done) | (simp [*]; done)), H', ⟨by have := HJ4.out; first | omega | exact Nat.le_refl _⟩, ⟨qX HO_111002.out⟩, ⟨rX HO_111003.out⟩, ⟨qX HO_125002.out⟩, ⟨rX HO_125003.out⟩, ⟨rX HO_125004.out⟩, ⟨kX BK110.out⟩, ⟨kX BK124.out⟩, ⟨bX HB.out⟩⟩
        replace c56 := Bool.eq_false_iff.mpr c56
        subst c56
        have H1 : (laws_FnRetain.j1 kj4 true t101 t102 t103 t106 t111 t112 t113 t116 t119 t122 t123) = some r := by rw [if_neg (show ¬ (false = true) by decide)] at H; exact H
        clear H
        have H := H1
        clear H1
        have H' := AM H
        clear H
        try go_wp2
        have _ := AM (Kd.Q_drew HO_111002.out)
        have _ := AM (rD HO_111003.out)
        have _ := AM (Kd.Q_drew HO_125002.out)
        have _ := AM (rD HO_125003.out)
        have _ := AM (rD HO_125004.out)
        have _ := AM (kD BK110.out)
        have _ := AM (kD BK124.out)
        have _ := AM (bD HB.out)
        clear HO_111002 HO_111003 HO_125002 HO_125003 HO_125004 BK110 BK124 HB
        rename_i HO_111002 HO_111003 HO_125002 HO_125003 HO_125004 BK110 BK124 HB
        refine start_ (n := 43) (S := fun w' => w'.cell? ⟨gb124, 0, none⟩ = some (.string t111) ∧ w'.cell? ⟨gb124, 1, none⟩ = some (.int .i64 t112) ∧ w'.cell? ⟨gb124, 2, none⟩ = some (.slice Ao15 t113.length co15) ∧ w'.cell? ⟨gb124, 3, none⟩ = some (.slice Ao16 t116.length co16) ∧ w'.cell? ⟨gb124, 4, none⟩ = some (.slice Ao17 t119.length co17) ∧ w'.cell? ⟨gb124, 5, none⟩ = some (.int .i64 t122) ∧ w'.cell? ⟨gb124, 6, none⟩ = some (.int .i64 t123) ∧ w'.cell? ⟨gb110, 0, none⟩ = some (.string t101) ∧ w'.cell? ⟨gb110, 1, none⟩ = some (.int .i64 t102) ∧ w'.cell? ⟨gb110, 2, none⟩ = some (.slice Ao9 t103.length co9) ∧ w'.cell? ⟨gb110, 3, none⟩ = some (.slice Ao10 t106.length co10)) (ds := []) (upTo 0 43) (by kernel_rfl) rfl rfl ⟨(kC BK124.out 0).trans rfl, (kC BK124.out 1).trans rfl, (kC BK124.out 2).trans rfl, (kC BK124.out 3).trans rfl, (kC BK124.out 4).trans rfl, (kC BK124.out 5).trans rfl, (kC BK124.out 6).trans rfl, (kC BK110.out 0).trans rfl, (kC BK110.out 1).trans rfl, (kC BK110.out 2).trans rfl, (kC BK110.out 3).trans rfl⟩ (fun hHeld => ?_); refine with_tabW laws_FnRetain.tab8 laws_FnRetain.bits8 (fun HT_ HW_ => ?_)
        generalize wc.drew = w71 at HO_111002 HO_111003 HO_125002 HO_125003 HO_125004 BK110 BK124 HB hHeld ⊢
        refine pF 0 1 43 41 ?_
        refine pF 1 2 43 42 ?_
        refine pT2 2 43 (upTo 3 43) ?_ hHeld
        refine pF 3 4 43 44 ?_
        refine pF 4 5 43 45 ?_
        refine pF 5 6 43 46 ?_
        refine pT2 6 47 (upTo 7 43) ?_ hHeld
        refine pT2 8 49 laws_FnRetain.b2 ?_ hHeld
        refine one_ (i := 7) (N := some 48) (upTo 9 43) rfl rfl (one_of HT_.out (by kernel_rfl)) (by decide) (fun K hK => ?_)
        refine goes_ Try.func9 (by kernel_rfl) rfl #[.agg #[.string t111, .int .i64 t112, .slice Ao15 t113.length co15, .slice Ao16 t116.length co16]] (by rfl) rfl rfl (by (try simp only [mA, mB, mC]); first | done | rfl | (simp only [mD, mE]; rfl)) ?_
        with_reducible refine (spec_TopicEnd.calls kj4 t111 t112 _ _ t113 _ _ t116 t153 _ ?side1 ?side2 ?side3 ?side4 A49.out).mono ?_
        (case side1 => repeat (first | exact (Kd.Q_reads' HO_125002.out).2.2 | (with_reducible first | apply cA | apply cN | apply cD)))
        (case side2 => exact (Kd.Q_reads' HO_125002.out).2.1)
        (case side3 => repeat (first | exact (Kd.R_reads' HO_125003.out).2.2 | (with_reducible first | apply cA | apply cN | apply cD)))
        (case side4 => exact (Kd.R_reads' HO_125003.out).2.1)
        rintro e w72 ⟨rfl, hb⟩
        refine ⟨_, rfl, ?_⟩
        have _ := AM (Kd.Q_below (qX HO_111002.out) hb)
        have _ := AM (Kd.R_below (rX HO_111003.out) hb)
        have _ := AM (Kd.Q_below (qX HO_125002.out) hb)
        have _ := AM (Kd.R_below (rX HO_125003.out) hb)
        have _ := AM (Kd.R_below (rX HO_125004.out) hb)
        have _ := AM (nB BK110.out hb)
        have _ := AM (nB BK124.out hb)
        have _ := AM (below_step (bX HB.out) hb)
        clear HO_111002 HO_111003 HO_125002 HO_125003 HO_125004 BK110 BK124 HB
        rename_i HO_111002 HO_111003 HO_125002 HO_125003 HO_125004 BK110 BK124 HB
        (try clear hb)
        (try clear hk)
        refine hK.out _ _ ⟨(kC BK124.out 0).trans rfl, (kC BK124.out 1).trans rfl, (kC BK124.out 2).trans rfl, (kC BK124.out 3).trans rfl, (kC BK124.out 4).trans rfl, (kC BK124.out 5).trans rfl, (kC BK124.out 6).trans rfl, (kC BK110.out 0).trans rfl, (kC BK110.out 1).trans rfl, (kC BK110.out 2).trans rfl, (kC BK110.out 3).trans rfl⟩ (fun hHeld => ?_)
        clear hK K
        refine norm_ (a' := ?_) ?_ ?_
        rotate_left
        ·
         show Act.put _ (some 48) _ = _
         simp only [Act.put, sA, sB, sC, i64_w, i32_w]
         rfl
        refine one_ (i := 9) (N := some 50) (upTo 10 43) rfl rfl (one_of HT_.out (by kernel_rfl)) (by decide) (fun K hK => ?_)
        refine goes_ Try.func9 (by kernel_rfl) rfl #[.agg #[.string t101, .int .i64 t102, .slice Ao9 t103.length co9, .slice Ao10 t106.length co10]] (by rfl) rfl rfl (by (try simp only [mA, mB, mC]); first | done | rfl | (simp only [mD, mE]; rfl)) ?_
        with_reducible refine (spec_TopicEnd.calls kj4 t101 t102 _ _ t103 _ _ t106 t154 _ ?side1 ?side2 ?side3 ?side4 A50.out).mono ?_
        (case side1 => repeat (first | exact (Kd.Q_reads' HO_111002.out).2.2 | (with_reducible first | apply cA | apply cN | apply cD)))
        (case side2 => exact (Kd.Q_reads' HO_111002.out).2.1)
        (case side3 => repeat (first | exact (Kd.R_reads' HO_111003.out).2.2 | (with_reducible first | apply cA | apply cN | apply cD)))
        (case side4 => exact (Kd.R_reads' HO_111003.out).2.1)
        rintro e w73 ⟨rfl, hb⟩
        refine ⟨_, rfl, ?_⟩
        have _ := AM (Kd.Q_below (qX HO_111002.out) hb)
        have _ := AM (Kd.R_below (rX HO_111003.out) hb)
        have _ := AM (Kd.Q_below (qX HO_125002.out) hb)
        have _ := AM (Kd.R_below (rX HO_125003.out) hb)
        have _ := AM (Kd.R_below (rX HO_125004.out) hb)
        have _ := AM (nB BK110.out hb)
        have _ := AM (nB BK124.out hb)
        have _ := AM (below_step (bX HB.out) hb)
        clear HO_111002 HO_111003 HO_125002 HO_125003 HO_125004 BK110 BK124 HB
        rename_i HO_111002 HO_111003 HO_125002 HO_125003 HO_125004 BK110 BK124 HB
        (try clear hb)
        (try clear hk)
        have q74 : ((ji52) : Int) ≤ ((t103.length : Int) : Int) := of_decide_eq_true (by assumption)
        obtain ⟨i074, hi074, _, hsz74, _⟩ := info_parts info9
        have hroom74 : t103.length ≤ co9 := (Kd.Q_reads' HO_111002.out).2.1
        have hC74 : Kd.C Kd.string _ Ao9 t103.length t103 := (Kd.Q_reads' HO_111002.out).2.2
        have q074 : (0 : Int) ≤ ((ji52) : Int) := of_decide_eq_true (by assumption)
        have hcut74 := cut_from (P := Try.prog) 23 9 .i64 Try.underlying23 hi074 1 hsz74 Ao9 t103.length co9 (ji52) q074 q74
        have hr74 := Kd.C_drop (m := ((ji52) : Int).toNat) (c := co9) hC74 (by omega) hroom74
        obtain ⟨A74, hA74⟩ : ∃ A1, A1 = (if co9 = ((ji52) : Int).toNat then Ao9 else (Ao9 : Option Addr).map (·.add (((ji52) : Int).toNat * 1))) := ⟨_, rfl⟩
        obtain ⟨c74, hc74⟩ : ∃ c1, c1 = co9 - ((ji52) : Int).toNat := ⟨_, rfl⟩
        have hy74 : y155.length = t103.length - ((ji52) : Int).toNat := (by rw [Ny155.out, mD] <;> omega)
        rw [show (t103).drop ((ji52) : Int).toNat = y155 from Ny155.out.symm] at hr74
        replace hr74 : Kd.C Kd.string _ A74 y155.length y155 := (by rw [hA74]; exact hr74)
        rw [← hy74, ← hA74, ← hc74] at hcut74
        have HR158 := AM hr74
        have HC158 := AM (show y155.length ≤ c74 from by rw [hy74, hc74]; exact Nat.sub_le_sub_right hroom74 _)
        clear hr74 hC74 hroom74 hi074 hsz74 hc74
        have KY74 := AM hy74
        have KA74 := AM hA74
        clear hy74 hA74
        have KL74 := AM (show ((ji52) : Int).toNat ≤ t103.length from by omega)
        replace q74 := eq_true q74
        refine hK.out _ _ ⟨(kC BK124.out 0).trans rfl, (kC BK124.out 1).trans rfl, (kC BK124.out 2).trans rfl, (kC BK124.out 3).trans rfl, (kC BK124.out 4).trans rfl, (kC BK124.out 5).trans rfl, (kC BK124.out 6).trans rfl, (kC BK110.out 0).trans rfl, (kC BK110.out 1).trans rfl, (kC BK110.out 2).trans rfl, (kC BK110.out 3).trans rfl⟩ (fun hHeld => ?_)
        clear hK K
        refine norm_ (a' := ?_) ?_ ?_
        rotate_left
        ·
         show Act.put _ (some 50) _ = _
         simp only [Act.put, sA, sB, sC, i64_w, i32_w]
         rfl
        refine pF 10 11 43 51 ?_
        refine pF 11 12 43 52 ?_
        refine pF 12 13 43 53 ?_
        refine pF 13 14 43 54 ?_
        refine pF 14 15 43 55 ?_
        refine pF2 16 57 laws_FnRetain.b3 ?_
        refine pF2 18 59 laws_FnRetain.b4 ?_
        refine pT2 15 56 laws_FnRetain.b5 ?_ hHeld
        refine pT2 17 58 (upTo 19 43) ?_ hHeld
        refine pF 19 20 43 60 ?_
        refine one_ (i := 20) (N := some 61) (upTo 21 43) rfl rfl (one_of HT_.out (by kernel_rfl)) (by decide) (fun K hK => ?_)
        refine goes_ Try.func10 (by kernel_rfl) rfl #[.slice Ao15 t113.length co15, .slice A74 y155.length c74] (by rfl) rfl rfl (by (try simp only [mA, mB, mC]); first | done | rfl | (simp only [mD, mE]; rfl)) ?_
        with_reducible refine (laws_lwTexts.calls kj4 _ _ t113 _ _ y155 false _ ?side1 ?side2 ?side3 ?side4 A55.out).mono ?_
        (case side1 => repeat (first | exact (Kd.Q_reads' HO_125002.out).2.2 | (with_reducible first | apply cA | apply cN | apply cD)))
        (case side2 => exact (Kd.Q_reads' HO_125002.out).2.1)
        (case side3 => repeat (first | exact (by repeat (first | (with_reducible exact HR158.out) | (with_reducible first | apply cA | apply cN | apply cD) | exact HR158.out)) | (with_reducible first | apply cA | apply cN | apply cD)))
        (case side4 => exact HC158.out)
        rintro e w' ⟨rfl, ⟨nd, rfl⟩⟩
        refine ⟨_, rfl, ?_⟩
        refine hK.out _ _ ⟨(kC BK124.out 0).trans rfl, (kC BK124.out 1).trans rfl, (kC BK124.out 2).trans rfl, (kC BK124.out 3).trans rfl, (kC BK124.out 4).trans rfl, (kC BK124.out 5).trans rfl, (kC BK124.out 6).trans rfl, (kC BK110.out 0).trans rfl, (kC BK110.out 1).trans rfl, (kC BK110.out 2).trans rfl, (kC BK110.out 3).trans rfl⟩ (fun hHeld => ?_)
        clear hK K
        refine norm_ (a' := ?_) ?_ ?_
        rotate_left
        ·
         show Act.put _ (some 61) _ = _
         simp only [Act.put, sA, sB, sC, i64_w, i32_w]
         rfl
        refine pF 21 22 43 62 ?_
        refine pF 22 23 43 63 ?_
        refine pF 23 24 43 64 ?_
        refine pU 24 25 43 65 ?_
        refine pU 25 26 43 66 ?_
        refine pU 26 27 43 67 ?_
        refine pU 27 28 43 68 ?_
        refine pU 28 29 43 69 ?_
        refine pU 29 30 43 70 ?_
        refine pF 30 31 43 71 ?_
        refine pF 31 32 43 72 ?_
        refine pU 32 33 43 73 ?_
        refine pU 33 34 43 74 ?_
        refine pU 34 35 43 75 ?_
        refine pU 35 36 43 76 ?_
        refine pU 36 37 43 77 ?_
        refine pU 37 38 43 78 ?_
        refine pU 38 39 43 79 ?_
        refine pU 39 40 43 80 ?_
        refine pU 40 41 43 81 ?_
        refine pU 41 42 43 82 ?_
        refine pF 42 43 43 83 ?_
        refine done_ (done_of HT_.out (by kernel_rfl)) ?_
        try go_wp2
        go_meet
        case rel => exact ⟨_, (true), (by first | rfl | (simp; done) | (simp [*]; done)), H', ⟨by have := HJ4.out; first | omega | exact Nat.le_refl _⟩, ⟨qX HO_111002.out⟩, ⟨rX HO_111003.out⟩, ⟨qX HO_125002.out⟩, ⟨rX HO_125003.out⟩, ⟨rX HO_125004.out⟩, ⟨kX BK110.out⟩, ⟨kX BK124.out⟩, ⟨bX HB.out⟩⟩
       rw [if_neg c54] at H
       exact absurd H (by simp)
      rw [if_neg c53] at H
      exact absurd H (by simp)
     rw [if_neg c51] at H
     have c51b0 : (t153 == t154) = false := beq_eq_false_iff_ne.mpr c51
     have c51b1 : (t153 != t154) = true := bne_iff_ne.mpr c51
     have H' := AM H
     clear H
     try go_wp2
     have _ := AM (Kd.Q_drew HO_111002.out)
     have _ := AM (rD HO_111003.out)
     have _ := AM (Kd.Q_drew HO_125002.out)
     have _ := AM (rD HO_125003.out)
     have _ := AM (rD HO_125004.out)
     have _ := AM (kD BK110.out)
     have _ := AM (kD BK124.out)
     have _ := AM (bD HB.out)
     clear HO_111002 HO_111003 HO_125002 HO_125003 HO_125004 BK110 BK124 HB
     rename_i HO_111002 HO_111003 HO_125002 HO_125003 HO_125004 BK110 BK124 HB
     refine start_ (n := 43) (S := fun w' => w'.cell? ⟨gb124, 0, none⟩ = some (.string t111) ∧ w'.cell? ⟨gb124, 1, none⟩ = some (.int .i64 t112) ∧ w'.cell? ⟨gb124, 2, none⟩ = some (.slice Ao15 t113.length co15) ∧ w'.cell? ⟨gb124, 3, none⟩ = some (.slice Ao16 t116.length co16) ∧ w'.cell? ⟨gb124, 4, none⟩ = some (.slice Ao17 t119.length co17) ∧ w'.cell? ⟨gb124, 5, none⟩ = some (.int .i64 t122) ∧ w'.cell? ⟨gb124, 6, none⟩ = some (.int .i64 t123) ∧ w'.cell? ⟨gb110, 0, none⟩ = some (.string t101) ∧ w'.cell? ⟨gb110, 1, none⟩ = some (.int .i64 t102) ∧ w'.cell? ⟨gb110, 2, none⟩ = some (.slice Ao9 t103.length co9) ∧ w'.cell? ⟨gb110, 3, none⟩ = some (.slice Ao10 t106.length co10)) (ds := []) (upTo 0 43) (by kernel_rfl) rfl rfl ⟨(kC BK124.out 0).trans rfl, (kC BK124.out 1).trans rfl, (kC BK124.out 2).trans rfl, (kC BK124.out 3).trans rfl, (kC BK124.out 4).trans rfl, (kC BK124.out 5).trans rfl, (kC BK124.out 6).trans rfl, (kC BK110.out 0).trans rfl, (kC BK110.out 1).trans rfl, (kC BK110.out 2).trans rfl, (kC BK110.out 3).trans rfl⟩ (fun hHeld => ?_); refine with_tabW laws_FnRetain.tab8 laws_FnRetain.bits8 (fun HT_ HW_ => ?_)
     generalize wc.drew = w75 at HO_111002 HO_111003 HO_125002 HO_125003 HO_125004 BK110 BK124 HB hHeld ⊢
     refine pF 0 1 43 41 ?_
     refine pF 1 2 43 42 ?_
     refine pT2 2 43 (upTo 3 43) ?_ hHeld
     refine pF 3 4 43 44 ?_
     refine pF 4 5 43 45 ?_
     refine pF 5 6 43 46 ?_
     refine pT2 6 47 (upTo 7 43) ?_ hHeld
     refine pT2 8 49 laws_FnRetain.b2 ?_ hHeld
     refine one_ (i := 7) (N := some 48) (upTo 9 43) rfl rfl (one_of HT_.out (by kernel_rfl)) (by decide) (fun K hK => ?_)
     refine goes_ Try.func9 (by kernel_rfl) rfl #[.agg #[.string t111, .int .i64 t112, .slice Ao15 t113.length co15, .slice Ao16 t116.length co16]] (by rfl) rfl rfl (by (try simp only [mA, mB, mC]); first | done | rfl | (simp only [mD, mE]; rfl)) ?_
     with_reducible refine (spec_TopicEnd.calls kj4 t111 t112 _ _ t113 _ _ t116 t153 _ ?side1 ?side2 ?side3 ?side4 A49.out).mono ?_
     (case side1 => repeat (first | exact (Kd.Q_reads' HO_125002.out).2.2 | (with_reducible first | apply cA | apply cN | apply cD)))
     (case side2 => exact (Kd.Q_reads' HO_125002.out).2.1)
     (case side3 => repeat (first | exact (Kd.R_reads' HO_125003.out).2.2 | (with_reducible first | apply cA | apply cN | apply cD)))
     (case side4 => exact (Kd.R_reads' HO_125003.out).2.1)
     rintro e w76 ⟨rfl, hb⟩
     refine ⟨_, rfl, ?_⟩
     have _ := AM (Kd.Q_below (qX HO_111002.out) hb)
     have _ := AM (Kd.R_below (rX HO_111003.out) hb)
     have _ := AM (Kd.Q_below (qX HO_125002.out) hb)
     have _ := AM (Kd.R_below (rX HO_125003.out) hb)
     have _ := AM (Kd.R_below (rX HO_125004.out) hb)
     have _ := AM (nB BK110.out hb)
     have _ := AM (nB BK124.out hb)
     have _ := AM (below_step (bX HB.out) hb)
     clear HO_111002 HO_111003 HO_125002 HO_125003 HO_125004 BK110 BK124 HB
     rename_i HO_111002 HO_111003 HO_125002 HO_125003 HO_125004 BK110 BK124 HB
     (try clear hb)
     (try clear hk)
     refine hK.out _ _ ⟨(kC BK124.out 0).trans rfl, (kC BK124.out 1).trans rfl, (kC BK124.out 2).trans rfl, (kC BK124.out 3).trans rfl, (kC BK124.out 4).trans rfl, (kC BK124.out 5).trans rfl, (kC BK124.out 6).trans rfl, (kC BK110.out 0).trans rfl, (kC BK110.out 1).trans rfl, (kC BK110.out 2).trans rfl, (kC BK110.out 3).trans rfl⟩ (fun hHeld => ?_)
     clear hK K
     refine norm_ (a' := ?_) ?_ ?_
     rotate_left
     ·
      show Act.put _ (some 48) _ = _
      simp only [Act.put, sA, sB, sC, i64_w, i32_w]
      rfl
     refine one_ (i := 9) (N := some 50) (upTo 10 43) rfl rfl (one_of HT_.out (by kernel_rfl)) (by decide) (fun K hK => ?_)
     refine goes_ Try.func9 (by kernel_rfl) rfl #[.agg #[.string t101, .int .i64 t102, .slice Ao9 t103.length co9, .slice Ao10 t106.length co10]] (by rfl) rfl rfl (by (try simp only [mA, mB, mC]); first | done | rfl | (simp only [mD, mE]; rfl)) ?_
     with_reducible refine (spec_TopicEnd.calls kj4 t101 t102 _ _ t103 _ _ t106 t154 _ ?side1 ?side2 ?side3 ?side4 A50.out).mono ?_
     (case side1 => repeat (first | exact (Kd.Q_reads' HO_111002.out).2.2 | (with_reducible first | apply cA | apply cN | apply cD)))
     (case side2 => exact (Kd.Q_reads' HO_111002.out).2.1)
     (case side3 => repeat (first | exact (Kd.R_reads' HO_111003.out).2.2 | (with_reducible first | apply cA | apply cN | apply cD)))
     (case side4 => exact (Kd.R_reads' HO_111003.out).2.1)
     rintro e w77 ⟨rfl, hb⟩
     refine ⟨_, rfl, ?_⟩
     have _ := AM (Kd.Q_below (qX HO_111002.out) hb)
     have _ := AM (Kd.R_below (rX HO_111003.out) hb)
     have _ := AM (Kd.Q_below (qX HO_125002.out) hb)
     have _ := AM (Kd.R_below (rX HO_125003.out) hb)
     have _ := AM (Kd.R_below (rX HO_125004.out) hb)
     have _ := AM (nB BK110.out hb)
     have _ := AM (nB BK124.out hb)
     have _ := AM (below_step (bX HB.out) hb)
     clear HO_111002 HO_111003 HO_125002 HO_125003 HO_125004 BK110 BK124 HB
     rename_i HO_111002 HO_111003 HO_125002 HO_125003 HO_125004 BK110 BK124 HB
     (try clear hb)
     (try clear hk)
     refine hK.out _ _ ⟨(kC BK124.out 0).trans rfl, (kC BK124.out 1).trans rfl, (kC BK124.out 2).trans rfl, (kC BK124.out 3).trans rfl, (kC BK124.out 4).trans rfl, (kC BK124.out 5).trans rfl, (kC BK124.out 6).trans rfl, (kC BK110.out 0).trans rfl, (kC BK110.out 1).trans rfl, (kC BK110.out 2).trans rfl, (kC BK110.out 3).trans rfl⟩ (fun hHeld => ?_)
     clear hK K
     refine norm_ (a' := ?_) ?_ ?_
     rotate_left
     ·
      show Act.put _ (some 50) _ = _
      simp only [Act.put, sA, sB, sC, i64_w, i32_w]
      rfl
     refine pF 10 11 43 51 ?_
     refine pF 11 12 43 52 ?_
     refine pF 12 13 43 53 ?_
     refine pU 13 14 43 54 ?_
     refine pU 14 15 43 55 ?_
     refine pU 15 16 43 56 ?_
     refine pU 16 17 43 57 ?_
     refine pU 17 18 43 58 ?_
     refine pU 18 19 43 59 ?_
     refine pU 19 20 43 60 ?_
     refine pU 20 21 43 61 ?_
     refine pU 21 22 43 62 ?_
     refine pF 22 23 43 63 ?_
     refine pF 23 24 43 64 ?_
     refine pU 24 25 43 65 ?_
     refine pU 25 26 43 66 ?_
     refine pU 26 27 43 67 ?_
     refine pU 27 28 43 68 ?_
     refine pU 28 29 43 69 ?_
     refine pU 29 30 43 70 ?_
     refine pF 30 31 43 71 ?_
     refine pF 31 32 43 72 ?_
     refine pU 32 33 43 73 ?_
     refine pU 33 34 43 74 ?_
     refine pU 34 35 43 75 ?_
     refine pU 35 36 43 76 ?_
     refine pU 36 37 43 77 ?_
     refine pU 37 38 43 78 ?_
     refine pU 38 39 43 79 ?_
     refine pU 39 40 43 80 ?_
     refine pU 40 41 43 81 ?_
     refine pU 41 42 43 82 ?_
     refine pF 42 43 43 83 ?_
     refine done_ (done_of HT_.out (by kernel_rfl)) ?_
     try go_wp2
     go_meet
     case rel => exact ⟨_, (true), (by first | rfl | (simp; done) | (simp [*]; done)), H', ⟨by have := HJ4.out; first | omega | exact Nat.le_refl _⟩, ⟨qX HO_111002.out⟩, ⟨rX HO_111003.out⟩, ⟨qX HO_125002.out⟩, ⟨rX HO_125003.out⟩, ⟨rX HO_125004.out⟩, ⟨kX BK110.out⟩, ⟨kX BK124.out⟩, ⟨bX HB.out⟩⟩
    rw [if_neg c48] at H
    have c48b0 : ((wrap64 (t112 - t102)) == t122) = false := beq_eq_false_iff_ne.mpr c48
    have c48b1 : ((wrap64 (t112 - t102)) != t122) = true := bne_iff_ne.mpr c48
    (first | rw [c48b0] | (simp only [i64_w, i32_w]; rw [c48b0]) | skip)
    have H' := AM H
    clear H
    try go_wp2
    have _ := AM (Kd.Q_drew HO_111002.out)
    have _ := AM (rD HO_111003.out)
    have _ := AM (Kd.Q_drew HO_125002.out)
    have _ := AM (rD HO_125003.out)
    have _ := AM (rD HO_125004.out)
    have _ := AM (kD BK110.out)
    have _ := AM (kD BK124.out)
    have _ := AM (bD HB.out)
    clear HO_111002 HO_111003 HO_125002 HO_125003 HO_125004 BK110 BK124 HB
    rename_i HO_111002 HO_111003 HO_125002 HO_125003 HO_125004 BK110 BK124 HB
    refine start_ (n := 43) (S := fun w' => w'.cell? ⟨gb124, 0, none⟩ = some (.string t111) ∧ w'.cell? ⟨gb124, 1, none⟩ = some (.int .i64 t112) ∧ w'.cell? ⟨gb124, 2, none⟩ = some (.slice Ao15 t113.length co15) ∧ w'.cell? ⟨gb124, 3, none⟩ = some (.slice Ao16 t116.length co16) ∧ w'.cell? ⟨gb124, 4, none⟩ = some (.slice Ao17 t119.length co17) ∧ w'.cell? ⟨gb124, 5, none⟩ = some (.int .i64 t122) ∧ w'.cell? ⟨gb124, 6, none⟩ = some (.int .i64 t123)) (ds := []) (upTo 0 43) (by kernel_rfl) rfl rfl ⟨(kC BK124.out 0).trans rfl, (kC BK124.out 1).trans rfl, (kC BK124.out 2).trans rfl, (kC BK124.out 3).trans rfl, (kC BK124.out 4).trans rfl, (kC BK124.out 5).trans rfl, (kC BK124.out 6).trans rfl⟩ (fun hHeld => ?_); refine with_tabW laws_FnRetain.tab8 laws_FnRetain.bits8 (fun HT_ HW_ => ?_)
    generalize wc.drew = w78 at HO_111002 HO_111003 HO_125002 HO_125003 HO_125004 BK110 BK124 HB hHeld ⊢
    refine pF 0 1 43 41 ?_
    refine pF 1 2 43 42 ?_
    refine pT2 2 43 (upTo 3 43) ?_ hHeld
    refine pF 3 4 43 44 ?_
    refine pF 4 5 43 45 ?_
    refine pU 5 6 43 46 ?_
    refine pU 6 7 43 47 ?_
    refine pU 7 8 43 48 ?_
    refine pU 8 9 43 49 ?_
    refine pU 9 10 43 50 ?_
    refine pU 10 11 43 51 ?_
    refine pF 11 12 43 52 ?_
    refine pF 12 13 43 53 ?_
    refine pU 13 14 43 54 ?_
    refine pU 14 15 43 55 ?_
    refine pU 15 16 43 56 ?_
    refine pU 16 17 43 57 ?_
    refine pU 17 18 43 58 ?_
    refine pU 18 19 43 59 ?_
    refine pU 19 20 43 60 ?_
    refine pU 20 21 43 61 ?_
    refine pU 21 22 43 62 ?_
    refine pF 22 23 43 63 ?_
    refine pF 23 24 43 64 ?_
    refine pU 24 25 43 65 ?_
    refine pU 25 26 43 66 ?_
    refine pU 26 27 43 67 ?_
    refine pU 27 28 43 68 ?_
    refine pU 28 29 43 69 ?_
    refine pU 29 30 43 70 ?_
    refine pF 30 31 43 71 ?_
    refine pF 31 32 43 72 ?_
    refine pU 32 33 43 73 ?_
    refine pU 33 34 43 74 ?_
    refine pU 34 35 43 75 ?_
    refine pU 35 36 43 76 ?_
    refine pU 36 37 43 77 ?_
    refine pU 37 38 43 78 ?_
    refine pU 38 39 43 79 ?_
    refine pU 39 40 43 80 ?_
    refine pU 40 41 43 81 ?_
    refine pU 41 42 43 82 ?_
    refine pF 42 43 43 83 ?_
    refine done_ (done_of HT_.out (by kernel_rfl)) ?_
    try go_wp2
    go_meet
    case rel => exact ⟨_, (true), (by first | rfl | (simp; done) | (simp [*]; done)), H', ⟨by have := HJ4.out; first | omega | exact Nat.le_refl _⟩, ⟨qX HO_111002.out⟩, ⟨rX HO_111003.out⟩, ⟨qX HO_125002.out⟩, ⟨rX HO_125003.out⟩, ⟨rX HO_125004.out⟩, ⟨kX BK110.out⟩, ⟨kX BK124.out⟩, ⟨bX HB.out⟩⟩
   case rest =>
    clear HC44
    (try clear p2); (try clear c4); (try clear p6); (try clear c9); (try clear c48); (try clear c48b0); (try clear c48b1); (try clear p64)
    obtain ⟨kq, x83_43, rfl, HA, HJ43, HO_111002, HO_111003, HO_125002, HO_125003, HO_125004, BK110, BK124, HB⟩ := hcut
    cases kq with
    | zero => exact absurd HA.out (by simp [laws_FnRetain.j1])
    | succ kj43 =>
     have H := HA.out
     clear HA
     simp only [laws_FnRetain.j1] at H
     by_cases c79 : x83_43 = true
     ·
      subst c79
      have H1 : (none) = some r := by rw [if_pos rfl] at H; exact H
      clear H
      have H := H1
      clear H1
      exact absurd H (by simp)
     replace c79 := Bool.eq_false_iff.mpr c79
     subst c79
     have H1 : (laws_FnRetain.l0 kj43 0 t101 t102 t103 t106 t111 t112 t113 t116 t119 t122 t123) = some r := by rw [if_neg (show ¬ (false = true) by decide)] at H; exact H
     clear H
     have H := H1
     clear H1
     have H' := AM H
     clear H
     go_wp2
     go_loopg [7] kj43 (fun kq v7 w' => ∃ (x7_3 : Int), v7 = .int .i64 x7_3 ∧ Aside0 (laws_FnRetain.l0 kq x7_3 t101 t102 t103 t106 t111 t112 t113 t116 t119 t122 t123 = some r) ∧ Aside0 (kq ≤ kj43) ∧ Aside0 (Kd.Q Kd.string 9 w' w.heap.size (fun k_ => some k_ ≠ ((.slice Ao15 t113.length co15) : Value).ownBlock ∧ some k_ ≠ ((.slice Ao17 t119.length co17) : Value).ownBlock) (.slice Ao9 t103.length co9) t103) ∧ Aside0 (Kd.R k36 36 w' w.heap.size (fun k_ => some k_ ≠ ((.slice Ao16 t116.length co16) : Value).ownBlock) (.slice Ao10 t106.length co10) t106) ∧ Aside0 (Kd.Q Kd.string 9 w' w.heap.size (fun k_ => some k_ ≠ ((.slice Ao9 t103.length co9) : Value).ownBlock ∧ some k_ ≠ ((.slice Ao17 t119.length co17) : Value).ownBlock) (.slice Ao15 t113.length co15) t113) ∧ Aside0 (Kd.R k36 36 w' w.heap.size (fun k_ => some k_ ≠ ((.slice Ao10 t106.length co10) : Value).ownBlock) (.slice Ao16 t116.length co16) t116) ∧ Aside0 (Kd.R Kd.string 9 w' w.heap.size (fun k_ => some k_ ≠ ((.slice Ao9 t103.length co9) : Value).ownBlock ∧ some k_ ≠ ((.slice Ao15 t113.length co15) : Value).ownBlock) (.slice Ao17 t119.length co17) t119) ∧ Aside0 (w'.heap[gb110]? = some (.cells #[.string t101, .int .i64 t102, (.slice Ao9 t103.length co9), (.slice Ao10 t106.length co10)] 26 (0, 0))) ∧ Aside0 (w'.heap[gb124]? = some (.cells #[.string t111, .int .i64 t112, (.slice Ao15 t113.length co15), (.slice Ao16 t116.length co16), (.slice Ao17 t119.length co17), .int .i64 t122, .int .i64 t123] 30 (0, 0))) ∧ Aside0 (Below w.heap.size w w'))
     case atStart => exact ⟨(0), (by first | rfl | (simp; done) | (simp [*]; done)), H', ⟨Nat.le_refl _⟩, ⟨qX HO_111002.out⟩, ⟨rX HO_111003.out⟩, ⟨qX HO_125002.out⟩, ⟨rX HO_125003.out⟩, ⟨rX HO_125004.out⟩, ⟨kX BK110.out⟩, ⟨kX BK124.out⟩, ⟨bX HB.out⟩⟩
     case round =>
      clear H'
      (try clear p2); (try clear c4); (try clear p6); (try clear c7); (try clear c9); (try clear c48); (try clear c48b0); (try clear c48b1); (try clear p64); (try clear c79)
      obtain ⟨x7_3, rfl, HA, HK3, HO_111002, HO_111003, HO_125002, HO_125003, HO_125004, BK110, BK124, HB⟩ := hrel
      cases gk with
      | zero => exact absurd HA.out (by simp [laws_FnRetain.l0])
      | succ k3 =>
       have H := HA.out
       clear HA
       simp only [laws_FnRetain.l0] at H
       by_cases c80 : x7_3 < (t106.length : Int)
       ·
        rw [if_pos c80] at H
        have c80b0 : decide (x7_3 < (t106.length : Int)) = true := decide_eq_true c80
        clear c80
        by_cases c81 : 0 ≤ x7_3
        ·
         rw [if_pos c81] at H
         have c81b0 : decide (0 ≤ x7_3) = true := decide_eq_true c81
         clear c81
         by_cases c82 : x7_3 < (t116.length : Int)
         ·
          rw [if_pos c82] at H
          have c82b0 : decide (x7_3 < (t116.length : Int)) = true := decide_eq_true c82
          clear c82
          by_cases c83 : ((rd_T36 t116 x7_3).f1) < ((rd_T36 t106 x7_3).f1)
          ·
           rw [if_pos c83] at H
           have c83b0 : decide (((rd_T36 t116 x7_3).f1) < ((rd_T36 t106 x7_3).f1)) = true := decide_eq_true c83
           clear c83
           exact absurd H (by simp)
          rw [if_neg c83] at H
          have c83b0 : decide (((rd_T36 t116 x7_3).f1) < ((rd_T36 t106 x7_3).f1)) = false := decide_eq_false c83
          clear c83
          by_cases c84 : ((rd_T36 t116 x7_3).f1) > ((rd_T36 t106 x7_3).f1)
          ·
           rw [if_pos c84] at H
           have c84b0 : decide (((rd_T36 t106 x7_3).f1) < ((rd_T36 t116 x7_3).f1)) = true := decide_eq_true c84
           clear c84
           by_cases c85 : ((rd_T36 t116 x7_3).f1) = t112
           ·
            rw [if_pos c85] at H
            have c85b0 : (((rd_T36 t116 x7_3).f1) == t112) = true := beq_iff_eq.mpr c85
            have c85b1 : (((rd_T36 t116 x7_3).f1) != t112) = false := bne_eq_false_iff_eq.mpr c85
            clear c85
            have H' := AM H
            clear H
            have hnb86 := NB110_124.out
            have hnc86 := NB124_110.out
            have hcz87 := q4 BK110.out
            have hfz87 := fZ BK110.out
            try go_wp2
            have _ := AM (Kd.Q_drew HO_111002.out)
            have _ := AM (rD HO_111003.out)
            have _ := AM (Kd.Q_drew HO_125002.out)
            have _ := AM (rD HO_125003.out)
            have _ := AM (rD HO_125004.out)
            have _ := AM (kD BK110.out)
            have _ := AM (kD BK124.out)
            have _ := AM (bD HB.out)
            clear HO_111002 HO_111003 HO_125002 HO_125003 HO_125004 BK110 BK124 HB
            rename_i HO_111002 HO_111003 HO_125002 HO_125003 HO_125004 BK110 BK124 HB
            have p160 : 0 ≤ (x7_3 : Int) := of_decide_eq_true (by assumption)
            have q160 : x7_3 < (t116.length : Int) := of_decide_eq_true (by assumption)
            obtain ⟨ad160, e160, hx160_0, hx160_1⟩ := at_T36 (Kd.R_reads' HO_125003.out).2.2 x7_3 p160 q160
            cases e160
            replace p160 := eq_true p160
            replace q160 := eq_true q160
            have p161 : 0 ≤ (x7_3 : Int) := of_decide_eq_true (by assumption)
            have q161 : x7_3 < (t106.length : Int) := of_decide_eq_true (by assumption)
            obtain ⟨ad161, e161, hx161_0, hx161_1⟩ := at_T36 (Kd.R_reads' HO_111003.out).2.2 x7_3 p161 q161
            cases e161
            replace p161 := eq_true p161
            replace q161 := eq_true q161
            have p162 : 0 ≤ (x7_3 : Int) := of_decide_eq_true (by assumption)
            have q162 : x7_3 < (t116.length : Int) := of_decide_eq_true (by assumption)
            obtain ⟨ad162, e162, hx162_0, hx162_1⟩ := at_T36 (Kd.R_reads' HO_125003.out).2.2 x7_3 p162 q162
            obtain rfl : ad160 = ad162 := (by injection e162)
            replace p162 := eq_true p162
            replace q162 := eq_true q162
            have p163 : 0 ≤ (x7_3 : Int) := of_decide_eq_true (by assumption)
            have q163 : x7_3 < (t106.length : Int) := of_decide_eq_true (by assumption)
            obtain ⟨ad163, e163, hx163_0, hx163_1⟩ := at_T36 (Kd.R_reads' HO_111003.out).2.2 x7_3 p163 q163
            obtain rfl : ad161 = ad163 := (by injection e163)
            replace p163 := eq_true p163
            replace q163 := eq_true q163
            have p164 : 0 ≤ (x7_3 : Int) := of_decide_eq_true (by assumption)
            have q164 : x7_3 < (t116.length : Int) := of_decide_eq_true (by assumption)
            obtain ⟨ad164, e164, hx164_0, hx164_1⟩ := at_T36 (Kd.R_reads' HO_125003.out).2.2 x7_3 p164 q164
            obtain rfl : ad160 = ad164 := (by injection e164)
            replace p164 := eq_true p164
            replace q164 := eq_true q164
            refine start_ (n := 43) (S := fun w' => w'.cell? ⟨gb124, 0, none⟩ = some (.string t111) ∧ w'.cell? ⟨gb124, 1, none⟩ = some (.int .i64 t112) ∧ w'.cell? ⟨gb124, 2, none⟩ = some (.slice Ao15 t113.length co15) ∧ w'.cell? ⟨gb124, 3, none⟩ = some (.slice (some ad160) t116.length co16) ∧ w'.cell? ⟨gb124, 4, none⟩ = some (.slice Ao17 t119.length co17) ∧ w'.cell? ⟨gb124, 5, none⟩ = some (.int .i64 t122) ∧ w'.cell? ⟨gb124, 6, none⟩ = some (.int .i64 t123) ∧ w'.cell? ⟨gb110, 0, none⟩ = some (.string t101) ∧ w'.cell? ⟨gb110, 1, none⟩ = some (.int .i64 t102) ∧ w'.cell? ⟨gb110, 2, none⟩ = some (.slice Ao9 t103.length co9) ∧ w'.cell? ⟨gb110, 3, none⟩ = some (.slice (some ad161) t106.length co10) ∧ w'.cell? (ad160.add ((x7_3).toNat * 2)) = some (.string ((rd_T36 t116 x7_3).f0)) ∧ w'.cell? ⟨(ad160.add ((x7_3).toNat * 2)).block, (ad160.add ((x7_3).toNat * 2)).off + 1, none⟩ = some (.int .i64 ((rd_T36 t116 x7_3).f1)) ∧ w'.cell? (ad161.add ((x7_3).toNat * 2)) = some (.string ((rd_T36 t106 x7_3).f0)) ∧ w'.cell? ⟨(ad161.add ((x7_3).toNat * 2)).block, (ad161.add ((x7_3).toNat * 2)).off + 1, none⟩ = some (.int .i64 ((rd_T36 t106 x7_3).f1)) ∧ w'.cell? (ad160.add ((x7_3).toNat * 2)) = some (.string ((rd_T36 t116 x7_3).f0)) ∧ w'.cell? ⟨(ad160.add ((x7_3).toNat * 2)).block, (ad160.add ((x7_3).toNat * 2)).off + 1, none⟩ = some (.int .i64 ((rd_T36 t116 x7_3).f1)) ∧ w'.cell? (ad161.add ((x7_3).toNat * 2)) = some (.string ((rd_T36 t106 x7_3).f0)) ∧ w'.cell? ⟨(ad161.add ((x7_3).toNat * 2)).block, (ad161.add ((x7_3).toNat * 2)).off + 1, none⟩ = some (.int .i64 ((rd_T36 t106 x7_3).f1)) ∧ w'.cell? (ad160.add ((x7_3).toNat * 2)) = some (.string ((rd_T36 t116 x7_3).f0)) ∧ w'.cell? ⟨(ad160.add ((x7_3).toNat * 2)).block, (ad160.add ((x7_3).toNat * 2)).off + 1, none⟩ = some (.int .i64 ((rd_T36 t116 x7_3).f1))) (ds := []) (upTo 0 43) (by kernel_rfl) rfl rfl ⟨(kC BK124.out 0).trans rfl, (kC BK124.out 1).trans rfl, (kC BK124.out 2).trans rfl, (kC BK124.out 3).trans rfl, (kC BK124.out 4).trans rfl, (kC BK124.out 5).trans rfl, (kC BK124.out 6).trans rfl, (kC BK110.out 0).trans rfl, (kC BK110.out 1).trans rfl, (kC BK110.out 2).trans rfl, (kC BK110.out 3).trans rfl, hx160_0, hx160_1, hx161_0, hx161_1, hx162_0, hx162_1, hx163_0, hx163_1, hx164_0, hx164_1⟩ (fun hHeld => ?_); refine with_tabW laws_FnRetain.tab13 laws_FnRetain.bits13 (fun HT_ HW_ => ?_)
            generalize wr.drew = w88 at HO_111002 HO_111003 HO_125002 HO_125003 HO_125004 BK110 BK124 HB hx160_0 hx160_1 hx161_0 hx161_1 hx162_0 hx162_1 hx163_0 hx163_1 hx164_0 hx164_1 hHeld ⊢
            refine pF 0 1 43 91 ?_
            refine pF 1 2 43 92 ?_
            refine pF2 3 94 laws_FnRetain.b10 ?_
            refine pF2 7 98 laws_FnRetain.b11 ?_
            refine pF2 9 100 laws_FnRetain.b12 ?_
            refine pT2 2 93 laws_FnRetain.b13 ?_ hHeld
            refine pF2 4 95 laws_FnRetain.b14 ?_
            refine pF2 5 96 laws_FnRetain.b15 ?_
            refine pT2 6 97 laws_FnRetain.b16 ?_ hHeld
            refine pT2 8 99 (upTo 10 43) ?_ hHeld
            refine pF 10 11 43 101 ?_
            refine pF 11 12 43 102 ?_
            refine pT2 12 103 (upTo 13 43) ?_ hHeld
            refine pF 13 14 43 104 ?_
            refine pF 14 15 43 105 ?_
            refine pF 15 16 43 106 ?_
            refine pF 16 17 43 107 ?_
            refine pF2 18 109 laws_FnRetain.b5 ?_
            refine pF2 22 113 laws_FnRetain.b17 ?_
            refine pF2 24 115 laws_FnRetain.b18 ?_
            refine pT2 17 108 laws_FnRetain.b19 ?_ hHeld
            refine pF2 19 110 laws_FnRetain.b20 ?_
            refine pF2 20 111 laws_FnRetain.b21 ?_
            refine pT2 21 112 laws_FnRetain.b22 ?_ hHeld
            refine pT2 23 114 (upTo 25 43) ?_ hHeld
            refine pF 25 26 43 116 ?_
            refine pF 26 27 43 117 ?_
            refine pT2 27 118 (upTo 28 43) ?_ hHeld
            refine pF 28 29 43 119 ?_
            refine pF 29 30 43 120 ?_
            refine pF 30 31 43 121 ?_
            refine pF 31 32 43 122 ?_
            refine pF2 33 124 laws_FnRetain.b23 ?_
            refine pF2 37 128 laws_FnRetain.b24 ?_
            refine pF2 38 129 laws_FnRetain.b25 ?_
            refine pT2 32 123 laws_FnRetain.b26 ?_ hHeld
            refine pF2 34 125 laws_FnRetain.b27 ?_
            refine pF2 35 126 laws_FnRetain.b28 ?_
            refine pT2 36 127 (upTo 39 43) ?_ hHeld
            refine pT2 39 130 (upTo 40 43) ?_ hHeld
            refine pF 40 41 43 131 ?_
            refine pF 41 42 43 132 ?_
            refine pF 42 43 43 133 ?_
            refine done_ (done_of HT_.out (by kernel_rfl)) ?_
            try go_wp2
            go_roundg k3
            case measure => have := HJ4.out; have := HJ43.out; have := HK3.out; omega
            case rel => exact ⟨(wrap64 (x7_3 + 1)), (by first | rfl | (simp; done) | (simp [*]; done)), H', ⟨by have := HJ4.out; have := HJ43.out; have := HK3.out; omega⟩, ⟨qX HO_111002.out⟩, ⟨rX HO_111003.out⟩, ⟨qX HO_125002.out⟩, ⟨rX HO_125003.out⟩, ⟨rX HO_125004.out⟩, ⟨kX BK110.out⟩, ⟨kX BK124.out⟩, ⟨bX HB.out⟩⟩
           rw [if_neg c85] at H
           exact absurd H (by simp)
          rw [if_neg c84] at H
          have c84b0 : decide (((rd_T36 t106 x7_3).f1) < ((rd_T36 t116 x7_3).f1)) = false := decide_eq_false c84
          clear c84
          have H' := AM H
          clear H
          have hnb89 := NB110_124.out
          have hnc89 := NB124_110.out
          have hcz90 := q4 BK110.out
          have hfz90 := fZ BK110.out
          try go_wp2
          have _ := AM (Kd.Q_drew HO_111002.out)
          have _ := AM (rD HO_111003.out)
          have _ := AM (Kd.Q_drew HO_125002.out)
          have _ := AM (rD HO_125003.out)
          have _ := AM (rD HO_125004.out)
          have _ := AM (kD BK110.out)
          have _ := AM (kD BK124.out)
          have _ := AM (bD HB.out)
          clear HO_111002 HO_111003 HO_125002 HO_125003 HO_125004 BK110 BK124 HB
          rename_i HO_111002 HO_111003 HO_125002 HO_125003 HO_125004 BK110 BK124 HB
          have p160 : 0 ≤ (x7_3 : Int) := of_decide_eq_true (by assumption)
          have q160 : x7_3 < (t116.length : Int) := of_decide_eq_true (by assumption)
          obtain ⟨ad160, e160, hx160_0, hx160_1⟩ := at_T36 (Kd.R_reads' HO_125003.out).2.2 x7_3 p160 q160
          cases e160
          replace p160 := eq_true p160
          replace q160 := eq_true q160
          have p161 : 0 ≤ (x7_3 : Int) := of_decide_eq_true (by assumption)
          have q161 : x7_3 < (t106.length : Int) := of_decide_eq_true (by assumption)
          obtain ⟨ad161, e161, hx161_0, hx161_1⟩ := at_T36 (Kd.R_reads' HO_111003.out).2.2 x7_3 p161 q161
          cases e161
          replace p161 := eq_true p161
          replace q161 := eq_true q161
          have p162 : 0 ≤ (x7_3 : Int) := of_decide_eq_true (by assumption)
          have q162 : x7_3 < (t116.length : Int) := of_decide_eq_true (by assumption)
          obtain ⟨ad162, e162, hx162_0, hx162_1⟩ := at_T36 (Kd.R_reads' HO_125003.out).2.2 x7_3 p162 q162
          obtain rfl : ad160 = ad162 := (by injection e162)
          replace p162 := eq_true p162
          replace q162 := eq_true q162
          have p163 : 0 ≤ (x7_3 : Int) := of_decide_eq_true (by assumption)
          have q163 : x7_3 < (t106.length : Int) := of_decide_eq_true (by assumption)
          obtain ⟨ad163, e163, hx163_0, hx163_1⟩ := at_T36 (Kd.R_reads' HO_111003.out).2.2 x7_3 p163 q163
          obtain rfl : ad161 = ad163 := (by injection e163)
          replace p163 := eq_true p163
          replace q163 := eq_true q163
          refine start_ (n := 43) (S := fun w' => w'.cell? ⟨gb124, 0, none⟩ = some (.string t111) ∧ w'.cell? ⟨gb124, 1, none⟩ = some (.int .i64 t112) ∧ w'.cell? ⟨gb124, 2, none⟩ = some (.slice Ao15 t113.length co15) ∧ w'.cell? ⟨gb124, 3, none⟩ = some (.slice (some ad160) t116.length co16) ∧ w'.cell? ⟨gb124, 4, none⟩ = some (.slice Ao17 t119.length co17) ∧ w'.cell? ⟨gb124, 5, none⟩ = some (.int .i64 t122) ∧ w'.cell? ⟨gb124, 6, none⟩ = some (.int .i64 t123) ∧ w'.cell? ⟨gb110, 0, none⟩ = some (.string t101) ∧ w'.cell? ⟨gb110, 1, none⟩ = some (.int .i64 t102) ∧ w'.cell? ⟨gb110, 2, none⟩ = some (.slice Ao9 t103.length co9) ∧ w'.cell? ⟨gb110, 3, none⟩ = some (.slice (some ad161) t106.length co10) ∧ w'.cell? (ad160.add ((x7_3).toNat * 2)) = some (.string ((rd_T36 t116 x7_3).f0)) ∧ w'.cell? ⟨(ad160.add ((x7_3).toNat * 2)).block, (ad160.add ((x7_3).toNat * 2)).off + 1, none⟩ = some (.int .i64 ((rd_T36 t116 x7_3).f1)) ∧ w'.cell? (ad161.add ((x7_3).toNat * 2)) = some (.string ((rd_T36 t106 x7_3).f0)) ∧ w'.cell? ⟨(ad161.add ((x7_3).toNat * 2)).block, (ad161.add ((x7_3).toNat * 2)).off + 1, none⟩ = some (.int .i64 ((rd_T36 t106 x7_3).f1)) ∧ w'.cell? (ad160.add ((x7_3).toNat * 2)) = some (.string ((rd_T36 t116 x7_3).f0)) ∧ w'.cell? ⟨(ad160.add ((x7_3).toNat * 2)).block, (ad160.add ((x7_3).toNat * 2)).off + 1, none⟩ = some (.int .i64 ((rd_T36 t116 x7_3).f1)) ∧ w'.cell? (ad161.add ((x7_3).toNat * 2)) = some (.string ((rd_T36 t106 x7_3).f0)) ∧ w'.cell? ⟨(ad161.add ((x7_3).toNat * 2)).block, (ad161.add ((x7_3).toNat * 2)).off + 1, none⟩ = some (.int .i64 ((rd_T36 t106 x7_3).f1))) (ds := []) (upTo 0 43) (by kernel_rfl) rfl rfl ⟨(kC BK124.out 0).trans rfl, (kC BK124.out 1).trans rfl, (kC BK124.out 2).trans rfl, (kC BK124.out 3).trans rfl, (kC BK124.out 4).trans rfl, (kC BK124.out 5).trans rfl, (kC BK124.out 6).trans rfl, (kC BK110.out 0).trans rfl, (kC BK110.out 1).trans rfl, (kC BK110.out 2).trans rfl, (kC BK110.out 3).trans rfl, hx160_0, hx160_1, hx161_0, hx161_1, hx162_0, hx162_1, hx163_0, hx163_1⟩ (fun hHeld => ?_); refine with_tabW laws_FnRetain.tab13 laws_FnRetain.bits13 (fun HT_ HW_ => ?_)
          generalize wr.drew = w91 at HO_111002 HO_111003 HO_125002 HO_125003 HO_125004 BK110 BK124 HB hx160_0 hx160_1 hx161_0 hx161_1 hx162_0 hx162_1 hx163_0 hx163_1 hHeld ⊢
          refine pF 0 1 43 91 ?_
          refine pF 1 2 43 92 ?_
          refine pF2 3 94 laws_FnRetain.b10 ?_
          refine pF2 7 98 laws_FnRetain.b11 ?_
          refine pF2 9 100 laws_FnRetain.b12 ?_
          refine pT2 2 93 laws_FnRetain.b13 ?_ hHeld
          refine pF2 4 95 laws_FnRetain.b14 ?_
          refine pF2 5 96 laws_FnRetain.b15 ?_
          refine pT2 6 97 laws_FnRetain.b16 ?_ hHeld
          refine pT2 8 99 (upTo 10 43) ?_ hHeld
          refine pF 10 11 43 101 ?_
          refine pF 11 12 43 102 ?_
          refine pT2 12 103 (upTo 13 43) ?_ hHeld
          refine pF 13 14 43 104 ?_
          refine pF 14 15 43 105 ?_
          refine pF 15 16 43 106 ?_
          refine pF 16 17 43 107 ?_
          refine pF2 18 109 laws_FnRetain.b5 ?_
          refine pF2 22 113 laws_FnRetain.b17 ?_
          refine pF2 24 115 laws_FnRetain.b18 ?_
          refine pT2 17 108 laws_FnRetain.b19 ?_ hHeld
          refine pF2 19 110 laws_FnRetain.b20 ?_
          refine pF2 20 111 laws_FnRetain.b21 ?_
          refine pT2 21 112 laws_FnRetain.b22 ?_ hHeld
          refine pT2 23 114 (upTo 25 43) ?_ hHeld
          refine pF 25 26 43 116 ?_
          refine pF 26 27 43 117 ?_
          refine pT2 27 118 (upTo 28 43) ?_ hHeld
          refine pF 28 29 43 119 ?_
          refine pF 29 30 43 120 ?_
          refine pU 30 31 43 121 ?_
          refine pU 31 32 43 122 ?_
          refine pU 32 33 43 123 ?_
          refine pU 33 34 43 124 ?_
          refine pU 34 35 43 125 ?_
          refine pU 35 36 43 126 ?_
          refine pU 36 37 43 127 ?_
          refine pU 37 38 43 128 ?_
          refine pU 38 39 43 129 ?_
          refine pU 39 40 43 130 ?_
          refine pU 40 41 43 131 ?_
          refine pF 41 42 43 132 ?_
          refine pF 42 43 43 133 ?_
          refine done_ (done_of HT_.out (by kernel_rfl)) ?_
          try go_wp2
          go_roundg k3
          case measure => have := HJ4.out; have := HJ43.out; have := HK3.out; omega
          case rel => exact ⟨(wrap64 (x7_3 + 1)), (by first | rfl | (simp; done) | (simp [*]; done)), H', ⟨by have := HJ4.out; have := HJ43.out; have := HK3.out; omega⟩, ⟨qX HO_111002.out⟩, ⟨rX HO_111003.out⟩, ⟨qX HO_125002.out⟩, ⟨rX HO_125003.out⟩, ⟨rX HO_125004.out⟩, ⟨kX BK110.out⟩, ⟨kX BK124.out⟩, ⟨bX HB.out⟩⟩
         rw [if_neg c82] at H
         exact absurd H (by simp)
        rw [if_neg c81] at H
        exact absurd H (by simp)
       rw [if_neg c80] at H
       have c80b0 : decide (x7_3 < (t106.length : Int)) = false := decide_eq_false c80
       clear c80
       obtain rfl := Option.some.inj H
       have hnb92 := NB110_124.out
       have hnc92 := NB124_110.out
       have hcz93 := q4 BK110.out
       have hfz93 := fZ BK110.out
       go_wp2
       go_ret
       exact ⟨by first | rfl | (simp [*, errW_none, errW_some] <;> rfl), bX HB.out⟩

end Go.Proofs.Ytcnilcipcnjmjaa.Q
