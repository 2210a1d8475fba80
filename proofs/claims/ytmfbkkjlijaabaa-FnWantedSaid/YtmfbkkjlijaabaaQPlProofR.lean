/- What ProofRight and isProof answer: one and the same function. -/
import Derived.Test.YtmfbkkjlijaabaaQx3
import Derived.Test.YtmfbkkjlijaabaaQx5
import Derived.Test.YtmfbkkjlijaabaaQPlQuorum
namespace Go.Proofs.Ytmfbkkjlijaabaa.Q
open Go.RowKit Go.Proofs.YtmfbkkjlijaabaaW.PrintWords Go.Proofs.YtmfbkkjlijaabaaW.PrintLast
set_option linter.unusedVariables false
set_option linter.unusedSimpArgs false

theorem opRight_eq (s : ByteArray) : spec_OpRight.f s = some (decide (s.size ≤ 120)) := by
  unfold spec_OpRight.f; congr 1; exact decide_eq_decide.2 (by omega)
theorem isOp_eq (s : ByteArray) : impl_isOp.f s = some (decide (s.size ≤ 120)) := by
  unfold impl_isOp.f; congr 1; exact decide_eq_decide.2 (by omega)
def proofB (v s : Int) (op : ByteArray) (by_ : List Int) : Bool := decide (0 ≤ v ∧ v ≤ 7) && (decide (1 ≤ s ∧ s ≤ 6) && (decide (op.size ≤ 120) && quorumB by_))
theorem l10View_eq (a : Int) : spec_l10View.f a = some (decide (0 ≤ a ∧ a ≤ 7)) := by unfold spec_l10View.f; rw [l03Is_eq]; rfl
theorem l10Seq_eq (a : Int) : spec_l10Seq.f a = some (decide (1 ≤ a ∧ a ≤ 6)) := by unfold spec_l10Seq.f; rw [l03Is_eq]; rfl
theorem isView_eq (a b : Int) : impl_isView.f a b = some (decide (b ≤ a ∧ a ≤ 7)) := by unfold impl_isView.f; rw [within_eq]; rfl
theorem isSeq_eq (a : Int) : impl_isSeq.f a = some (decide (1 ≤ a ∧ a ≤ 6)) := by unfold impl_isSeq.f; rw [within_eq]; rfl
theorem spec_proof_eq {v s : Int} {op : ByteArray} {l : List Int} (hl : l.length ≤ 9223372036854775807) {k : Nat} (hk : l.length < k) : spec_ProofRight.f k v s op l = some (proofB v s op l) := by
  unfold spec_ProofRight.f proofB
  rw [l10View_eq]
  simp only [Option.bind_some]
  rw [l10Seq_eq]
  simp only [Option.bind_some]
  rw [opRight_eq, spec_quorum_eq hl hk]
  simp only [Option.bind_some]
  cases decide (0 ≤ v ∧ v ≤ 7) <;> cases decide (1 ≤ s ∧ s ≤ 6) <;> cases decide (op.size ≤ 120) <;> simp
theorem impl_proof_eq {v s : Int} {op : ByteArray} {l : List Int} (hl : l.length ≤ 9223372036854775807) {k : Nat} (hk : l.length < k) : impl_isProof.f k v s op l = some (proofB v s op l) := by
  unfold impl_isProof.f proofB
  rw [isView_eq]
  simp only [Option.bind_some]
  rw [isSeq_eq]
  simp only [Option.bind_some]
  rw [isOp_eq, impl_quorum_eq hl hk]
  simp only [Option.bind_some]
  cases decide (0 ≤ v ∧ v ≤ 7) <;> cases decide (1 ≤ s ∧ s ≤ 6) <;> cases decide (op.size ≤ 120) <;> simp
end Go.Proofs.Ytmfbkkjlijaabaa.Q
