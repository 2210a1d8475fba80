/- The pure statement of FnExactTopicSeek, and what a reading of its parameters gives. Printed by a program of this session (wip/mphand.py). -/
import Derived.Test.YtnjnjffjblgldaaQx15
import Derived.Test.YtnjnjffjblgldaaOpen
namespace Go.Proofs.Ytnjnjffjblgldaa.Q
open Go.RowKit Go.Proofs.YtnjnjffjblgldaaW.PrintWords Go.Proofs.YtnjnjffjblgldaaW.PrintLast Go.Proofs.Ytnjnjffjblgldaa.Opn
namespace SaidFnExactTopicSeek
def G78 (x : S78) : Prop := (x.f0.size ≤ maxLen) ∧ ((Lit.int .i64 x.f1).wf = true)
theorem opens78 : Opens Try.prog 78 k78 G78 :=
  opens_struct (f := fun x : S78 => (x.f0, x.f1)) (fun y => ⟨y.1, y.2⟩) (fun _ => rfl) Try.underlying78 (by kernel_rfl) (opensFs_cons rfl (by kernel_rfl) (opens_string Try.underlying9) (opensFs_last rfl (by kernel_rfl) (opens_int Try.underlying2))) rfl (fun _ h => h)
def G25 (x : S25) : Prop := (x.f0.size ≤ maxLen) ∧ ((Lit.int .i64 x.f1).wf = true) ∧ (x.f2.length ≤ maxLen ∧ ∀ y ∈ x.f2, y.size ≤ maxLen) ∧ (x.f3.length ≤ maxLen ∧ ∀ y ∈ x.f3, G78 y)
theorem opens25 : Opens Try.prog 25 k25 G25 :=
  opens_struct (f := fun x : S25 => (x.f0, x.f1, x.f2, x.f3)) (fun y => ⟨y.1, y.2.1, y.2.2.1, y.2.2.2⟩) (fun _ => rfl) Try.underlying25 (by kernel_rfl) (opensFs_cons rfl (by kernel_rfl) (opens_string Try.underlying9) (opensFs_cons rfl (by kernel_rfl) (opens_int Try.underlying2) (opensFs_cons rfl (by kernel_rfl) (opens_slice Try.underlying22 (by kernel_rfl) (opens_string Try.underlying9)) (opensFs_last rfl (by kernel_rfl) (opens_slice Try.underlying23 (by kernel_rfl) opens78))))) rfl (fun _ h => h)
def Pure : Prop := ∀ (x0 : S25) (x1 : ByteArray) (x2 : Int), (G25 x0) → (x1.size ≤ maxLen) → ((Lit.int .i64 x2).wf = true) → ∃ k, laws_FnExactTopicSeek.f k x0.f0 x0.f1 x0.f2 x0.f3 x1 x2 = some true
end SaidFnExactTopicSeek
end Go.Proofs.Ytnjnjffjblgldaa.Q
