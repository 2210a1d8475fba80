/- The pure statement of FnExactVector, and what a reading of its parameters gives. Printed by a program of this session (wip/mphand.py). -/
import Derived.Test.YtgpgamapopnfcaaDoorQx18
import Derived.Test.YtgpgamapopnfcaaDoorOpen
namespace Go.Proofs.YtgpgamapopnfcaaDoor.Q
open Go.RowKit Go.Proofs.YtgpgamapopnfcaaDoorW.PrintWords Go.Proofs.YtgpgamapopnfcaaDoorW.PrintLast Go.Proofs.YtgpgamapopnfcaaDoor.Opn
namespace SaidFnExactVector
def Pure : Prop := ∀ (x0 : ByteArray) (x1 : Int) (x2 : ByteArray), (x0.size ≤ maxLen) → ((Lit.int .i64 x1).wf = true) → (x2.size ≤ maxLen) → ∃ k, laws_FnExactVector.f k x0 x1 x2 = some true
end SaidFnExactVector
end Go.Proofs.YtgpgamapopnfcaaDoor.Q
