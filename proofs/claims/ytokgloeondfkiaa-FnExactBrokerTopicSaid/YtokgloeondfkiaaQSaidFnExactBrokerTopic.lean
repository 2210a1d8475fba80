/- The pure statement of FnExactBrokerTopic, and what a reading of its parameters gives. Printed by a program of this session (wip/mphand.py). -/
import Derived.Test.YtokgloeondfkiaaQx13
import Derived.Test.YtokgloeondfkiaaOpen
namespace Go.Proofs.Ytokgloeondfkiaa.Q
open Go.RowKit Go.Proofs.YtokgloeondfkiaaW.PrintWords Go.Proofs.YtokgloeondfkiaaW.PrintLast Go.Proofs.Ytokgloeondfkiaa.Opn
namespace SaidFnExactBrokerTopic
def G92 (x : S92) : Prop := (x.f0.size ≤ maxLen) ∧ ((Lit.int .i64 x.f1).wf = true)
theorem opens92 : Opens Try.prog 92 k92 G92 :=
  opens_struct (f := fun x : S92 => (x.f0, x.f1)) (fun y => ⟨y.1, y.2⟩) (fun _ => rfl) Try.underlying92 (by kernel_rfl) (opensFs_cons rfl (by kernel_rfl) (opens_string Try.underlying9) (opensFs_last rfl (by kernel_rfl) (opens_int Try.underlying2))) rfl (fun _ h => h)
def G62 (x : S62) : Prop := (x.f0.size ≤ maxLen) ∧ ((Lit.int .i64 x.f1).wf = true) ∧ (x.f2.length ≤ maxLen ∧ ∀ y ∈ x.f2, y.size ≤ maxLen) ∧ (x.f3.length ≤ maxLen ∧ ∀ y ∈ x.f3, G92 y)
theorem opens62 : Opens Try.prog 62 k62 G62 :=
  opens_struct (f := fun x : S62 => (x.f0, x.f1, x.f2, x.f3)) (fun y => ⟨y.1, y.2.1, y.2.2.1, y.2.2.2⟩) (fun _ => rfl) Try.underlying62 (by kernel_rfl) (opensFs_cons rfl (by kernel_rfl) (opens_string Try.underlying9) (opensFs_cons rfl (by kernel_rfl) (opens_int Try.underlying2) (opensFs_cons rfl (by kernel_rfl) (opens_slice Try.underlying27 (by kernel_rfl) (opens_string Try.underlying9)) (opensFs_last rfl (by kernel_rfl) (opens_slice Try.underlying60 (by kernel_rfl) opens92))))) rfl (fun _ h => h)
def G65 (x : S65) : Prop := ((Lit.int .i64 x.f0).wf = true) ∧ ((Lit.int .i64 x.f1).wf = true) ∧ (x.f2.size ≤ maxLen)
theorem opens65 : Opens Try.prog 65 k65 G65 :=
  opens_struct (f := fun x : S65 => (x.f0, x.f1, x.f2)) (fun y => ⟨y.1, y.2.1, y.2.2⟩) (fun _ => rfl) Try.underlying65 (by kernel_rfl) (opensFs_cons rfl (by kernel_rfl) (opens_int Try.underlying2) (opensFs_cons rfl (by kernel_rfl) (opens_int Try.underlying2) (opensFs_last rfl (by kernel_rfl) (opens_string Try.underlying9)))) rfl (fun _ h => h)
def G25 (x : S25) : Prop := (x.f0.length ≤ maxLen ∧ ∀ y ∈ x.f0, G62 y) ∧ (x.f1.length ≤ maxLen ∧ ∀ y ∈ x.f1, G65 y)
theorem opens25 : Opens Try.prog 25 k25 G25 :=
  opens_struct (f := fun x : S25 => (x.f0, x.f1)) (fun y => ⟨y.1, y.2⟩) (fun _ => rfl) Try.underlying25 (by kernel_rfl) (opensFs_cons rfl (by kernel_rfl) (opens_slice Try.underlying22 (by kernel_rfl) opens62) (opensFs_last rfl (by kernel_rfl) (opens_slice Try.underlying23 (by kernel_rfl) opens65))) rfl (fun _ h => h)
def Pure : Prop := ∀ (x0 : S25) (x1 : ByteArray), (G25 x0) → (x1.size ≤ maxLen) → ∃ k, laws_FnExactBrokerTopic.f k x0.f0 x0.f1 x1 = some true
end SaidFnExactBrokerTopic
end Go.Proofs.Ytokgloeondfkiaa.Q
