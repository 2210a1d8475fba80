/- The pure statement of FnExactChangeRight, and what a reading of its parameters gives. Printed by a program of this session (wip/mphand.py). -/
import Derived.Test.YtohonglblcpdpaaQx18
import Derived.Test.YtohonglblcpdpaaOpen
namespace Go.Proofs.Ytohonglblcpdpaa.Q
open Go.RowKit Go.Proofs.YtohonglblcpdpaaW.PrintWords Go.Proofs.YtohonglblcpdpaaW.PrintLast Go.Proofs.Ytohonglblcpdpaa.Opn
namespace SaidFnExactChangeRight
def G30 (x : S30) : Prop := ((Lit.int .i64 x.f0).wf = true) ∧ ((Lit.int .i64 x.f1).wf = true) ∧ (x.f2.size ≤ maxLen) ∧ (x.f3.length ≤ maxLen ∧ ∀ y ∈ x.f3, (Lit.int .i64 y).wf = true)
theorem opens30 : Opens Try.prog 30 k30 G30 :=
  opens_struct (f := fun x : S30 => (x.f0, x.f1, x.f2, x.f3)) (fun y => ⟨y.1, y.2.1, y.2.2.1, y.2.2.2⟩) (fun _ => rfl) Try.underlying30 (by kernel_rfl) (opensFs_cons rfl (by kernel_rfl) (opens_int Try.underlying2) (opensFs_cons rfl (by kernel_rfl) (opens_int Try.underlying2) (opensFs_cons rfl (by kernel_rfl) (opens_string Try.underlying9) (opensFs_last rfl (by kernel_rfl) (opens_slice Try.underlying25 (by kernel_rfl) (opens_int Try.underlying2)))))) rfl (fun _ h => h)
def G46 (x : S46) : Prop := ((Lit.int .i64 x.f0).wf = true) ∧ ((Lit.int .i64 x.f1).wf = true) ∧ (x.f2.length ≤ maxLen ∧ ∀ y ∈ x.f2, G30 y)
theorem opens46 : Opens Try.prog 46 k46 G46 :=
  opens_struct (f := fun x : S46 => (x.f0, x.f1, x.f2)) (fun y => ⟨y.1, y.2.1, y.2.2⟩) (fun _ => rfl) Try.underlying46 (by kernel_rfl) (opensFs_cons rfl (by kernel_rfl) (opens_int Try.underlying2) (opensFs_cons rfl (by kernel_rfl) (opens_int Try.underlying2) (opensFs_last rfl (by kernel_rfl) (opens_slice Try.underlying44 (by kernel_rfl) opens30)))) rfl (fun _ h => h)
def Pure : Prop := ∀ (x0 : S46), (G46 x0) → ∃ k, laws_FnExactChangeRight.f k x0.f0 x0.f1 x0.f2 = some true
end SaidFnExactChangeRight
end Go.Proofs.Ytohonglblcpdpaa.Q
