/- The pure statement of FnExactWanted, and what a reading of its parameters gives. Printed by a program of this session (wip/mphand.py). -/
import Derived.Test.YtmaliehmbodioaaQx7
import Derived.Test.YtmaliehmbodioaaOpen
namespace Go.Proofs.Ytmaliehmbodioaa.Q
open Go.RowKit Go.Proofs.YtmaliehmbodioaaW.PrintWords Go.Proofs.YtmaliehmbodioaaW.PrintLast Go.Proofs.Ytmaliehmbodioaa.Opn
namespace SaidFnExactWanted
def G89 (x : S89) : Prop := ((Lit.int .i64 x.f0).wf = true) ∧ ((Lit.int .i64 x.f1).wf = true) ∧ (x.f2.size ≤ maxLen) ∧ (x.f3.length ≤ maxLen ∧ ∀ y ∈ x.f3, (Lit.int .i64 y).wf = true)
theorem opens89 : Opens Try.prog 89 k89 G89 :=
  opens_struct (f := fun x : S89 => (x.f0, x.f1, x.f2, x.f3)) (fun y => ⟨y.1, y.2.1, y.2.2.1, y.2.2.2⟩) (fun _ => rfl) Try.underlying89 (by kernel_rfl) (opensFs_cons rfl (by kernel_rfl) (opens_int Try.underlying2) (opensFs_cons rfl (by kernel_rfl) (opens_int Try.underlying2) (opensFs_cons rfl (by kernel_rfl) (opens_string Try.underlying9) (opensFs_last rfl (by kernel_rfl) (opens_slice Try.underlying70 (by kernel_rfl) (opens_int Try.underlying2)))))) rfl (fun _ h => h)
def G62 (x : S62) : Prop := ((Lit.int .i64 x.f0).wf = true) ∧ ((Lit.int .i64 x.f1).wf = true) ∧ (x.f2.length ≤ maxLen ∧ ∀ y ∈ x.f2, G89 y)
theorem opens62 : Opens Try.prog 62 k62 G62 :=
  opens_struct (f := fun x : S62 => (x.f0, x.f1, x.f2)) (fun y => ⟨y.1, y.2.1, y.2.2⟩) (fun _ => rfl) Try.underlying62 (by kernel_rfl) (opensFs_cons rfl (by kernel_rfl) (opens_int Try.underlying2) (opensFs_cons rfl (by kernel_rfl) (opens_int Try.underlying2) (opensFs_last rfl (by kernel_rfl) (opens_slice Try.underlying60 (by kernel_rfl) opens89)))) rfl (fun _ h => h)
def Pure : Prop := ∀ (x0 : List (S62)), (x0.length ≤ maxLen ∧ ∀ y ∈ x0, G62 y) → ∃ k, laws_FnExactWanted.f k x0 = some true
end SaidFnExactWanted
end Go.Proofs.Ytmaliehmbodioaa.Q
