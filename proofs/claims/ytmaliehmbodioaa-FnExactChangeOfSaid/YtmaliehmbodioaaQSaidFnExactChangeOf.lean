/- The pure statement of FnExactChangeOf, and what a reading of its parameters gives. Printed by a program of this session (wip/mphand.py). -/
import Derived.Test.YtmaliehmbodioaaQx8
import Derived.Test.YtmaliehmbodioaaOpen
namespace Go.Proofs.Ytmaliehmbodioaa.Q
open Go.RowKit Go.Proofs.YtmaliehmbodioaaW.PrintWords Go.Proofs.YtmaliehmbodioaaW.PrintLast Go.Proofs.Ytmaliehmbodioaa.Opn
namespace SaidFnExactChangeOf
def G48 (x : S48) : Prop := ((Lit.int .i64 x.f0).wf = true) ∧ ((Lit.int .i64 x.f1).wf = true) ∧ ((Lit.int .i64 x.f2).wf = true) ∧ (x.f3.size ≤ maxLen) ∧ ((Lit.int .i64 x.f4).wf = true)
theorem opens48 : Opens Try.prog 48 k48 G48 :=
  opens_struct (f := fun x : S48 => (x.f0, x.f1, x.f2, x.f3, x.f4)) (fun y => ⟨y.1, y.2.1, y.2.2.1, y.2.2.2.1, y.2.2.2.2⟩) (fun _ => rfl) Try.underlying48 (by kernel_rfl) (opensFs_cons rfl (by kernel_rfl) (opens_int Try.underlying2) (opensFs_cons rfl (by kernel_rfl) (opens_int Try.underlying2) (opensFs_cons rfl (by kernel_rfl) (opens_int Try.underlying2) (opensFs_cons rfl (by kernel_rfl) (opens_string Try.underlying9) (opensFs_last rfl (by kernel_rfl) (opens_int Try.underlying2)))))) rfl (fun _ h => h)
def Pure : Prop := ∀ (x0 : List (S48)) (x1 : Int) (x2 : Int), (x0.length ≤ maxLen ∧ ∀ y ∈ x0, G48 y) → ((Lit.int .i64 x1).wf = true) → ((Lit.int .i64 x2).wf = true) → ∃ k, laws_FnExactChangeOf.f k x0 x1 x2 = some true
end SaidFnExactChangeOf
end Go.Proofs.Ytmaliehmbodioaa.Q
