/- The pure statement of FnExactPairKey, and what a reading of its parameters gives. Printed by a program of this session (wip/mphand.py). -/
import Derived.Test.YtgpgamapopnfcaaDoorQx16
import Derived.Test.YtgpgamapopnfcaaDoorOpen
namespace Go.Proofs.YtgpgamapopnfcaaDoor.Q
open Go.RowKit Go.Proofs.YtgpgamapopnfcaaDoorW.PrintWords Go.Proofs.YtgpgamapopnfcaaDoorW.PrintLast Go.Proofs.YtgpgamapopnfcaaDoor.Opn
namespace SaidFnExactPairKey
def Pure : Prop := ∀ (x0 : ByteArray) (x1 : Int) (x2 : Int), (x0.size ≤ maxLen) → ((Lit.int .i64 x1).wf = true) → ((Lit.int .i64 x2).wf = true) → ∃ k, laws_FnExactPairKey.f k x0 x1 x2 = some true
end SaidFnExactPairKey
end Go.Proofs.YtgpgamapopnfcaaDoor.Q
