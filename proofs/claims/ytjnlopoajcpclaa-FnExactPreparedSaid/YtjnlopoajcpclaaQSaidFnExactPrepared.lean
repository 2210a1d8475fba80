/- The pure statement of FnExactPrepared, and what a reading of its parameters gives. Printed by a program of this session (wip/mphand.py). -/
import Derived.Test.YtjnlopoajcpclaaQx27
import Derived.Test.YtjnlopoajcpclaaOpen
namespace Go.Proofs.Ytjnlopoajcpclaa.Q
open Go.RowKit Go.Proofs.YtjnlopoajcpclaaW.PrintWords Go.Proofs.YtjnlopoajcpclaaW.PrintLast Go.Proofs.Ytjnlopoajcpclaa.Opn
namespace SaidFnExactPrepared
def G24 (x : S24) : Prop := ((Lit.int .i64 x.f0).wf = true) ∧ ((Lit.int .i64 x.f1).wf = true) ∧ ((Lit.int .i64 x.f2).wf = true) ∧ (x.f3.size ≤ maxLen) ∧ ((Lit.int .i64 x.f4).wf = true)
theorem opens24 : Opens Try.prog 24 k24 G24 :=
  opens_struct (f := fun x : S24 => (x.f0, x.f1, x.f2, x.f3, x.f4)) (fun y => ⟨y.1, y.2.1, y.2.2.1, y.2.2.2.1, y.2.2.2.2⟩) (fun _ => rfl) Try.underlying24 (by kernel_rfl) (opensFs_cons rfl (by kernel_rfl) (opens_int Try.underlying2) (opensFs_cons rfl (by kernel_rfl) (opens_int Try.underlying2) (opensFs_cons rfl (by kernel_rfl) (opens_int Try.underlying2) (opensFs_cons rfl (by kernel_rfl) (opens_string Try.underlying9) (opensFs_last rfl (by kernel_rfl) (opens_int Try.underlying2)))))) rfl (fun _ h => h)
def Pure : Prop := ∀ (x0 : List (S24)) (x1 : Int), (x0.length ≤ maxLen ∧ ∀ y ∈ x0, G24 y) → ((Lit.int .i64 x1).wf = true) → ∃ k, laws_FnExactPrepared.f k x0 x1 = some true
end SaidFnExactPrepared
end Go.Proofs.Ytjnlopoajcpclaa.Q
