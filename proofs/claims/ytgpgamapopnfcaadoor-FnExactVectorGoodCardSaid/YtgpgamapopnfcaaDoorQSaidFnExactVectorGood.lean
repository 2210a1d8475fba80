/- The pure statement of FnExactVectorGood, and what a reading of its parameters gives. Printed by a program of this session (wip/mphand.py). -/
import Derived.Test.YtgpgamapopnfcaaDoorQx20
import Derived.Test.YtgpgamapopnfcaaDoorOpen
namespace Go.Proofs.YtgpgamapopnfcaaDoor.Q
open Go.RowKit Go.Proofs.YtgpgamapopnfcaaDoorW.PrintWords Go.Proofs.YtgpgamapopnfcaaDoorW.PrintLast Go.Proofs.YtgpgamapopnfcaaDoor.Opn
namespace SaidFnExactVectorGood
def Pure : Prop := ∀ (x0 : ByteArray) (x1 : Int) (x2 : Int) (x3 : ByteArray) (x4 : List ByteArray), (x0.size ≤ maxLen) → ((Lit.int .i64 x1).wf = true) → ((Lit.int .i64 x2).wf = true) → (x3.size ≤ maxLen) → (x4.length ≤ maxLen ∧ ∀ y ∈ x4, y.size ≤ maxLen) → ∃ k, laws_FnExactVectorGood.f k x0 x1 x2 x3 x4 = some true
end SaidFnExactVectorGood
end Go.Proofs.YtgpgamapopnfcaaDoor.Q
