/- The pure statement of FnExactCommandBytes, and what a reading of its parameters gives. Printed by a program of this session (wip/mphand.py). -/
import Derived.Test.YtpeddcmoekecpaaQx40
import Derived.Test.YtpeddcmoekecpaaOpen
namespace Go.Proofs.Ytpeddcmoekecpaa.Q
open Go.RowKit Go.Proofs.YtpeddcmoekecpaaW.PrintWords Go.Proofs.YtpeddcmoekecpaaW.PrintLast Go.Proofs.Ytpeddcmoekecpaa.Opn
namespace SaidFnExactCommandBytes
def G61 (x : S61) : Prop := ((Lit.int .i64 x.f0).wf = true) ∧ ((Lit.int .i64 x.f1).wf = true) ∧ ((Lit.int .i64 x.f2).wf = true) ∧ (x.f3.size ≤ maxLen) ∧ (x.f4.size ≤ maxLen) ∧ (x.f5.size ≤ maxLen) ∧ ((Lit.int .i64 x.f6).wf = true)
theorem opens61 : Opens Try.prog 61 k61 G61 :=
  opens_struct (f := fun x : S61 => (x.f0, x.f1, x.f2, x.f3, x.f4, x.f5, x.f6)) (fun y => ⟨y.1, y.2.1, y.2.2.1, y.2.2.2.1, y.2.2.2.2.1, y.2.2.2.2.2.1, y.2.2.2.2.2.2⟩) (fun _ => rfl) Try.underlying61 (by kernel_rfl) (opensFs_cons rfl (by kernel_rfl) (opens_int Try.underlying2) (opensFs_cons rfl (by kernel_rfl) (opens_int Try.underlying2) (opensFs_cons rfl (by kernel_rfl) (opens_int Try.underlying2) (opensFs_cons rfl (by kernel_rfl) (opens_string Try.underlying9) (opensFs_cons rfl (by kernel_rfl) (opens_string Try.underlying9) (opensFs_cons rfl (by kernel_rfl) (opens_string Try.underlying9) (opensFs_last rfl (by kernel_rfl) (opens_int Try.underlying2)))))))) rfl (fun _ h => h)
def Pure : Prop := ∀ (x0 : S61), (G61 x0) → ∃ k, laws_FnExactCommandBytes.f k x0.f0 x0.f1 x0.f2 x0.f3 x0.f4 x0.f5 x0.f6 = some true
end SaidFnExactCommandBytes
end Go.Proofs.Ytpeddcmoekecpaa.Q
