/- ProofRight of the program returns what the reference's ProofRight returns, for every proof. No condition. -/
import Derived.Test.YtohonglblcpdpaaQSaidFnExactProofRight
import Derived.Test.YtohonglblcpdpaaQPlProof
import Derived.Test.YtohonglblcpdpaaQx2
namespace Go.Proofs.Ytohonglblcpdpaa.Q.PureFnExactProofRight
open Go.RowKit Go.Proofs.YtohonglblcpdpaaW.PrintWords Go.Proofs.YtohonglblcpdpaaW.PrintLast Go.Proofs.Ytohonglblcpdpaa.Q

theorem proved : SaidFnExactProofRight.Pure := by
  rintro ⟨v, s, op, l⟩ ⟨_, _, ho, hl, _⟩
  have ho : op.size ≤ 9223372036854775807 := le_maxLen ho
  have hl : l.length ≤ 9223372036854775807 := le_maxLen hl
  obtain ⟨r, hr, h1, h2, h3⟩ := szProof_eq v s op l 1048576 ho hl (by omega) (by omega)
  refine ⟨l.length + 1, ?_⟩
  show laws_FnExactProofRight.f (l.length + 1) v s op l = some true
  unfold laws_FnExactProofRight.f
  rw [hr]
  simp only [Option.bind_some]
  by_cases h : r < 0
  · rw [if_pos h]
  · have := h3 (by omega)
    rw [if_neg h, toProof_eq (by omega) (by omega)]
    simp only [Option.bind_some]
    rw [spec_proof_eq hl (by omega)]
    unfold impl_ProofRight.f
    simp only [Option.bind_some]
    rw [impl_proof_eq hl (by omega)]
    simp only [Option.bind_some]
    rw [if_neg (by simp), eqProof_eq hl (by omega)]
    simp

end Go.Proofs.Ytohonglblcpdpaa.Q.PureFnExactProofRight
