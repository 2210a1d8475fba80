/- QuorumRight of the program returns what the reference's QuorumRight returns, for every list of whole numbers. No condition. -/
import Derived.Test.YtohonglblcpdpaaQSaidFnExactQuorumRight
import Derived.Test.YtohonglblcpdpaaQPlInts
import Derived.Test.YtohonglblcpdpaaQPlQuorum
import Derived.Test.YtohonglblcpdpaaQx2
namespace Go.Proofs.Ytohonglblcpdpaa.Q.PureFnExactQuorumRight
open Go.RowKit Go.Proofs.YtohonglblcpdpaaW.PrintWords Go.Proofs.YtohonglblcpdpaaW.PrintLast Go.Proofs.Ytohonglblcpdpaa.Q

theorem proved : SaidFnExactQuorumRight.Pure := by
  rintro l ⟨hl, _⟩
  have hl := le_maxLen hl
  refine ⟨l.length + 1, ?_⟩
  unfold laws_FnExactQuorumRight.f
  by_cases h : (l.length : Int) > 1048576
  · rw [if_pos h]
  · rw [if_neg h, toInt64S_eq (by omega) (by omega)]
    simp only [Option.bind_some]
    rw [spec_quorum_eq hl (by omega)]
    unfold impl_QuorumRight.f
    simp only [Option.bind_some]
    rw [impl_quorum_eq hl (by omega)]
    simp only [Option.bind_some]
    rw [if_neg (by simp), eqInt64S_eq hl (by omega)]
    simp

end Go.Proofs.Ytohonglblcpdpaa.Q.PureFnExactQuorumRight
