/- The pure statement of FnRetain, and what a reading of its parameters gives. Printed by a program of this session (wip/mphand.py). -/
import Derived.Test.YtcnilcipcnjmjaaQx17
import Derived.Test.YtcnilcipcnjmjaaOpen
namespace Go.Proofs.Ytcnilcipcnjmjaa.Q
open Go.RowKit Go.Proofs.YtcnilcipcnjmjaaW.PrintWords Go.Proofs.YtcnilcipcnjmjaaW.PrintLast Go.Proofs.Ytcnilcipcnjmjaa.Opn
namespace SaidFnRetain
def Pure : Prop := ∀ (x0 : List Int), (x0.length ≤ maxLen ∧ ∀ y ∈ x0, (Lit.int .u8 y).wf = true) → ∃ k, laws_FnRetain.f k x0 = some true
end SaidFnRetain
end Go.Proofs.Ytcnilcipcnjmjaa.Q
