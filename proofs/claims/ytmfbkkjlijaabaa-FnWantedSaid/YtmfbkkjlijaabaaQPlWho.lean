/- Who may be a replica: 0 to 3, in the reference and in the program. -/
import Derived.Test.YtmfbkkjlijaabaaQx3
import Derived.Test.YtmfbkkjlijaabaaQx5
import Derived.Test.YtmfbkkjlijaabaaQPlBase
namespace Go.Proofs.Ytmfbkkjlijaabaa.Q
open Go.RowKit Go.Proofs.YtmfbkkjlijaabaaW.PrintWords Go.Proofs.YtmfbkkjlijaabaaW.PrintLast
set_option linter.unusedVariables false
set_option linter.unusedSimpArgs false

theorem l03Is_eq (a b c : Int) : spec_l03Is.f a b c = some (decide (b ≤ a ∧ a ≤ c)) := by
  unfold spec_l03Is.f
  by_cases h : a ≥ b
  · rw [if_pos h]; simp [show b ≤ a from h]
  · rw [if_neg h]; simp [show ¬ b ≤ a from h]
theorem within_eq (a b c : Int) : impl_within.f a b c = some (decide (b ≤ a ∧ a ≤ c)) := by
  unfold impl_within.f
  by_cases h : a ≥ b
  · rw [if_pos h]; simp [show b ≤ a from h]
  · rw [if_neg h]; simp [show ¬ b ≤ a from h]
def whoB (a : Int) : Bool := decide (0 ≤ a ∧ a ≤ 3)
theorem l09Who_eq (a : Int) : spec_l09Who.f a = some (whoB a) := by unfold spec_l09Who.f; rw [l03Is_eq]; rfl
theorem isReplica_eq (a : Int) : impl_isReplica.f a = some (whoB a) := by unfold impl_isReplica.f; rw [within_eq]; rfl

end Go.Proofs.Ytmfbkkjlijaabaa.Q
