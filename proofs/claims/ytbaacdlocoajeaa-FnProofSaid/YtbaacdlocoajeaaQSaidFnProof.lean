/- The pure statement of FnProof, and what a reading of its parameters gives. Printed by a program of this session (wip/mphand.py). -/
import Derived.Test.YtbaacdlocoajeaaQx10
import Derived.Test.YtbaacdlocoajeaaOpen
namespace Go.Proofs.Ytbaacdlocoajeaa.Q
open Go.RowKit Go.Proofs.YtbaacdlocoajeaaW.PrintWords Go.Proofs.YtbaacdlocoajeaaW.PrintLast Go.Proofs.Ytbaacdlocoajeaa.Opn
namespace SaidFnProof
def Pure : Prop := ∀ (x0 : List Int) (x1 : List Int), (x0.length ≤ maxLen ∧ ∀ y ∈ x0, (Lit.int .u8 y).wf = true) → (x1.length ≤ maxLen ∧ ∀ y ∈ x1, (Lit.int .u8 y).wf = true) → ∃ k, laws_FnProof.f k x0 x1 = some true
end SaidFnProof
end Go.Proofs.Ytbaacdlocoajeaa.Q
