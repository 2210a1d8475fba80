/- The pure statement of FnExactSayBytes, and what a reading of its parameters gives. Printed by a program of this session (wip/mphand.py). -/
import Derived.Test.YtlkpjekalidkdaaQx17
import Derived.Test.YtlkpjekalidkdaaOpen
namespace Go.Proofs.Ytlkpjekalidkdaa.Q
open Go.RowKit Go.Proofs.YtlkpjekalidkdaaW.PrintWords Go.Proofs.YtlkpjekalidkdaaW.PrintLast Go.Proofs.Ytlkpjekalidkdaa.Opn
namespace SaidFnExactSayBytes
def G74 (x : S74) : Prop := ((Lit.int .i64 x.f0).wf = true) ∧ ((Lit.int .i64 x.f1).wf = true) ∧ (x.f2.size ≤ maxLen) ∧ (x.f3.length ≤ maxLen ∧ ∀ y ∈ x.f3, (Lit.int .i64 y).wf = true)
theorem opens74 : Opens Try.prog 74 k74 G74 :=
  opens_struct (f := fun x : S74 => (x.f0, x.f1, x.f2, x.f3)) (fun y => ⟨y.1, y.2.1, y.2.2.1, y.2.2.2⟩) (fun _ => rfl) Try.underlying74 (by kernel_rfl) (opensFs_cons rfl (by kernel_rfl) (opens_int Try.underlying2) (opensFs_cons rfl (by kernel_rfl) (opens_int Try.underlying2) (opensFs_cons rfl (by kernel_rfl) (opens_string Try.underlying9) (opensFs_last rfl (by kernel_rfl) (opens_slice Try.underlying50 (by kernel_rfl) (opens_int Try.underlying2)))))) rfl (fun _ h => h)
def G48 (x : S48) : Prop := ((Lit.int .i64 x.f0).wf = true) ∧ ((Lit.int .i64 x.f1).wf = true) ∧ (x.f2.length ≤ maxLen ∧ ∀ y ∈ x.f2, G74 y)
theorem opens48 : Opens Try.prog 48 k48 G48 :=
  opens_struct (f := fun x : S48 => (x.f0, x.f1, x.f2)) (fun y => ⟨y.1, y.2.1, y.2.2⟩) (fun _ => rfl) Try.underlying48 (by kernel_rfl) (opensFs_cons rfl (by kernel_rfl) (opens_int Try.underlying2) (opensFs_cons rfl (by kernel_rfl) (opens_int Try.underlying2) (opensFs_last rfl (by kernel_rfl) (opens_slice Try.underlying46 (by kernel_rfl) opens74)))) rfl (fun _ h => h)
def G24 (x : S24) : Prop := ((Lit.int .i64 x.f0).wf = true) ∧ ((Lit.int .i64 x.f1).wf = true) ∧ ((Lit.int .i64 x.f2).wf = true) ∧ ((Lit.int .i64 x.f3).wf = true) ∧ (x.f4.size ≤ maxLen) ∧ (x.f5.length ≤ maxLen ∧ ∀ y ∈ x.f5, G48 y)
theorem opens24 : Opens Try.prog 24 k24 G24 :=
  opens_struct (f := fun x : S24 => (x.f0, x.f1, x.f2, x.f3, x.f4, x.f5)) (fun y => ⟨y.1, y.2.1, y.2.2.1, y.2.2.2.1, y.2.2.2.2.1, y.2.2.2.2.2⟩) (fun _ => rfl) Try.underlying24 (by kernel_rfl) (opensFs_cons rfl (by kernel_rfl) (opens_int Try.underlying2) (opensFs_cons rfl (by kernel_rfl) (opens_int Try.underlying2) (opensFs_cons rfl (by kernel_rfl) (opens_int Try.underlying2) (opensFs_cons rfl (by kernel_rfl) (opens_int Try.underlying2) (opensFs_cons rfl (by kernel_rfl) (opens_string Try.underlying9) (opensFs_last rfl (by kernel_rfl) (opens_slice Try.underlying22 (by kernel_rfl) opens48))))))) rfl (fun _ h => h)
def Pure : Prop := ∀ (x0 : S24), (G24 x0) → ∃ k, laws_FnExactSayBytes.f k x0.f0 x0.f1 x0.f2 x0.f3 x0.f4 x0.f5 = some true
end SaidFnExactSayBytes
end Go.Proofs.Ytlkpjekalidkdaa.Q
