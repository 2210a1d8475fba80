/- The pure statement of FnExactBrokerBytes, and what a reading of its parameters gives. Printed by a program of this session (wip/mphand.py). -/
import Derived.Test.YtjjdakpnjiocjaaQx16
import Derived.Test.YtjjdakpnjiocjaaOpen
namespace Go.Proofs.Ytjjdakpnjiocjaa.Q
open Go.RowKit Go.Proofs.YtjjdakpnjiocjaaW.PrintWords Go.Proofs.YtjjdakpnjiocjaaW.PrintLast Go.Proofs.Ytjjdakpnjiocjaa.Opn
namespace SaidFnExactBrokerBytes
def G108 (x : S108) : Prop := (x.f0.size ≤ maxLen) ∧ ((Lit.int .i64 x.f1).wf = true)
theorem opens108 : Opens Try.prog 108 k108 G108 :=
  opens_struct (f := fun x : S108 => (x.f0, x.f1)) (fun y => ⟨y.1, y.2⟩) (fun _ => rfl) Try.underlying108 (by kernel_rfl) (opensFs_cons rfl (by kernel_rfl) (opens_string Try.underlying9) (opensFs_last rfl (by kernel_rfl) (opens_int Try.underlying2))) rfl (fun _ h => h)
def G73 (x : S73) : Prop := (x.f0.size ≤ maxLen) ∧ ((Lit.int .i64 x.f1).wf = true) ∧ (x.f2.length ≤ maxLen ∧ ∀ y ∈ x.f2, y.size ≤ maxLen) ∧ (x.f3.length ≤ maxLen ∧ ∀ y ∈ x.f3, G108 y)
theorem opens73 : Opens Try.prog 73 k73 G73 :=
  opens_struct (f := fun x : S73 => (x.f0, x.f1, x.f2, x.f3)) (fun y => ⟨y.1, y.2.1, y.2.2.1, y.2.2.2⟩) (fun _ => rfl) Try.underlying73 (by kernel_rfl) (opensFs_cons rfl (by kernel_rfl) (opens_string Try.underlying9) (opensFs_cons rfl (by kernel_rfl) (opens_int Try.underlying2) (opensFs_cons rfl (by kernel_rfl) (opens_slice Try.underlying41 (by kernel_rfl) (opens_string Try.underlying9)) (opensFs_last rfl (by kernel_rfl) (opens_slice Try.underlying71 (by kernel_rfl) opens108))))) rfl (fun _ h => h)
def G75 (x : S75) : Prop := ((Lit.int .i64 x.f0).wf = true) ∧ ((Lit.int .i64 x.f1).wf = true) ∧ (x.f2.size ≤ maxLen)
theorem opens75 : Opens Try.prog 75 k75 G75 :=
  opens_struct (f := fun x : S75 => (x.f0, x.f1, x.f2)) (fun y => ⟨y.1, y.2.1, y.2.2⟩) (fun _ => rfl) Try.underlying75 (by kernel_rfl) (opensFs_cons rfl (by kernel_rfl) (opens_int Try.underlying2) (opensFs_cons rfl (by kernel_rfl) (opens_int Try.underlying2) (opensFs_last rfl (by kernel_rfl) (opens_string Try.underlying9)))) rfl (fun _ h => h)
def G25 (x : S25) : Prop := (x.f0.length ≤ maxLen ∧ ∀ y ∈ x.f0, G73 y) ∧ (x.f1.length ≤ maxLen ∧ ∀ y ∈ x.f1, G75 y)
theorem opens25 : Opens Try.prog 25 k25 G25 :=
  opens_struct (f := fun x : S25 => (x.f0, x.f1)) (fun y => ⟨y.1, y.2⟩) (fun _ => rfl) Try.underlying25 (by kernel_rfl) (opensFs_cons rfl (by kernel_rfl) (opens_slice Try.underlying22 (by kernel_rfl) opens73) (opensFs_last rfl (by kernel_rfl) (opens_slice Try.underlying23 (by kernel_rfl) opens75))) rfl (fun _ h => h)
def Pure : Prop := ∀ (x0 : S25), (G25 x0) → ∃ k, laws_FnExactBrokerBytes.f k x0.f0 x0.f1 = some true
end SaidFnExactBrokerBytes
end Go.Proofs.Ytjjdakpnjiocjaa.Q
