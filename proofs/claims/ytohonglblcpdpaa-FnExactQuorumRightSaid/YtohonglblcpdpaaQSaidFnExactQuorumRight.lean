/- The pure statement of FnExactQuorumRight, and what a reading of its parameters gives. Printed by a program of this session (wip/mphand.py). -/
import Derived.Test.YtohonglblcpdpaaQx2
import Derived.Test.YtohonglblcpdpaaOpen
namespace Go.Proofs.Ytohonglblcpdpaa.Q
open Go.RowKit Go.Proofs.YtohonglblcpdpaaW.PrintWords Go.Proofs.YtohonglblcpdpaaW.PrintLast Go.Proofs.Ytohonglblcpdpaa.Opn
namespace SaidFnExactQuorumRight
def Pure : Prop := ∀ (x0 : List Int), (x0.length ≤ maxLen ∧ ∀ y ∈ x0, (Lit.int .i64 y).wf = true) → ∃ k, laws_FnExactQuorumRight.f k x0 = some true
end SaidFnExactQuorumRight
end Go.Proofs.Ytohonglblcpdpaa.Q
