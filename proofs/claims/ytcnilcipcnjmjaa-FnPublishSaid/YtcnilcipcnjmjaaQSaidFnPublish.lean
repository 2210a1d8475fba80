/- The pure statement of FnPublish, and what a reading of its parameters gives. Printed by a program of this session (wip/mphand.py). -/
import Derived.Test.YtcnilcipcnjmjaaQx20
import Derived.Test.YtcnilcipcnjmjaaOpen
namespace Go.Proofs.Ytcnilcipcnjmjaa.Q
open Go.RowKit Go.Proofs.YtcnilcipcnjmjaaW.PrintWords Go.Proofs.YtcnilcipcnjmjaaW.PrintLast Go.Proofs.Ytcnilcipcnjmjaa.Opn
namespace SaidFnPublish
def Pure : Prop := ∀ (x0 : List Int) (x1 : List Int), (x0.length ≤ maxLen ∧ ∀ y ∈ x0, (Lit.int .u8 y).wf = true) → (x1.length ≤ maxLen ∧ ∀ y ∈ x1, (Lit.int .u8 y).wf = true) → ∃ k, laws_FnPublish.f k x0 x1 = some true
end SaidFnPublish
end Go.Proofs.Ytcnilcipcnjmjaa.Q
