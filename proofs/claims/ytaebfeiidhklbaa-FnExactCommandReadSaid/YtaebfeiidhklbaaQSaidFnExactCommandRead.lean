/- The pure statement of FnExactCommandRead, and what a reading of its parameters gives. Printed by a program of this session (wip/mphand.py). -/
import Derived.Test.YtaebfeiidhklbaaQx6
import Derived.Test.YtaebfeiidhklbaaOpen
namespace Go.Proofs.Ytaebfeiidhklbaa.Q
open Go.RowKit Go.Proofs.YtaebfeiidhklbaaW.PrintWords Go.Proofs.YtaebfeiidhklbaaW.PrintLast Go.Proofs.Ytaebfeiidhklbaa.Opn
namespace SaidFnExactCommandRead
def Pure : Prop := ∀ (x0 : ByteArray), (x0.size ≤ maxLen) → ∃ k, laws_FnExactCommandRead.f k x0 = some true
end SaidFnExactCommandRead
end Go.Proofs.Ytaebfeiidhklbaa.Q
