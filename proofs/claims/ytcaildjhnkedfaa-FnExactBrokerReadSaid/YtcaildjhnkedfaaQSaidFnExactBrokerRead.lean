/- The pure statement of FnExactBrokerRead, and what a reading of its parameters gives. Printed by a program of this session (wip/mphand.py). -/
import Derived.Test.YtcaildjhnkedfaaQx15
import Derived.Test.YtcaildjhnkedfaaOpen
namespace Go.Proofs.Ytcaildjhnkedfaa.Q
open Go.RowKit Go.Proofs.YtcaildjhnkedfaaW.PrintWords Go.Proofs.YtcaildjhnkedfaaW.PrintLast Go.Proofs.Ytcaildjhnkedfaa.Opn
namespace SaidFnExactBrokerRead
def Pure : Prop := ∀ (x0 : ByteArray), (x0.size ≤ maxLen) → ∃ k, laws_FnExactBrokerRead.f k x0 = some true
end SaidFnExactBrokerRead
end Go.Proofs.Ytcaildjhnkedfaa.Q
