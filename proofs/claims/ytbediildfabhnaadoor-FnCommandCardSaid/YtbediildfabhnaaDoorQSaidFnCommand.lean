/- The pure statement of FnCommand, and what a reading of its parameters gives. Printed by a program of this session (wip/mphand.py). -/
import Derived.Test.YtbediildfabhnaaDoorQx11
import Derived.Test.YtbediildfabhnaaDoorOpen
namespace Go.Proofs.YtbediildfabhnaaDoor.Q
open Go.RowKit Go.Proofs.YtbediildfabhnaaDoorW.PrintWords Go.Proofs.YtbediildfabhnaaDoorW.PrintLast Go.Proofs.YtbediildfabhnaaDoor.Opn
namespace SaidFnCommand
def Pure : Prop := ∀ (x0 : List Int) (x1 : List Int), (x0.length ≤ maxLen ∧ ∀ y ∈ x0, (Lit.int .u8 y).wf = true) → (x1.length ≤ maxLen ∧ ∀ y ∈ x1, (Lit.int .u8 y).wf = true) → ∃ k, laws_FnCommand.f k x0 x1 = some true
end SaidFnCommand
end Go.Proofs.YtbediildfabhnaaDoor.Q
