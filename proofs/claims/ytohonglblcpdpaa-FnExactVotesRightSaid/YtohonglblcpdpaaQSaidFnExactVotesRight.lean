/- The pure statement of FnExactVotesRight, and what a reading of its parameters gives. Printed by a program of this session (wip/mphand.py). -/
import Derived.Test.YtohonglblcpdpaaQx7
import Derived.Test.YtohonglblcpdpaaOpen
namespace Go.Proofs.Ytohonglblcpdpaa.Q
open Go.RowKit Go.Proofs.YtohonglblcpdpaaW.PrintWords Go.Proofs.YtohonglblcpdpaaW.PrintLast Go.Proofs.Ytohonglblcpdpaa.Opn
namespace SaidFnExactVotesRight
def G69 (x : S69) : Prop := ((Lit.int .i64 x.f0).wf = true) ∧ ((Lit.int .i64 x.f1).wf = true) ∧ ((Lit.int .i64 x.f2).wf = true) ∧ (x.f3.size ≤ maxLen) ∧ ((Lit.int .i64 x.f4).wf = true)
theorem opens69 : Opens Try.prog 69 k69 G69 :=
  opens_struct (f := fun x : S69 => (x.f0, x.f1, x.f2, x.f3, x.f4)) (fun y => ⟨y.1, y.2.1, y.2.2.1, y.2.2.2.1, y.2.2.2.2⟩) (fun _ => rfl) Try.underlying69 (by kernel_rfl) (opensFs_cons rfl (by kernel_rfl) (opens_int Try.underlying2) (opensFs_cons rfl (by kernel_rfl) (opens_int Try.underlying2) (opensFs_cons rfl (by kernel_rfl) (opens_int Try.underlying2) (opensFs_cons rfl (by kernel_rfl) (opens_string Try.underlying9) (opensFs_last rfl (by kernel_rfl) (opens_int Try.underlying2)))))) rfl (fun _ h => h)
def Pure : Prop := ∀ (x0 : List (S69)), (x0.length ≤ maxLen ∧ ∀ y ∈ x0, G69 y) → ∃ k, laws_FnExactVotesRight.f k x0 = some true
end SaidFnExactVotesRight
end Go.Proofs.Ytohonglblcpdpaa.Q
