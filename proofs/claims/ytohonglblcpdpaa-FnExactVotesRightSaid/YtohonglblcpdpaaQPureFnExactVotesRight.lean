/- VotesRight of the program returns what the reference's VotesRight returns, for every list of votes. No condition. -/
import Derived.Test.YtohonglblcpdpaaQSaidFnExactVotesRight
import Derived.Test.YtohonglblcpdpaaQPlVotes
import Derived.Test.YtohonglblcpdpaaQx7
namespace Go.Proofs.Ytohonglblcpdpaa.Q.PureFnExactVotesRight
open Go.RowKit Go.Proofs.YtohonglblcpdpaaW.PrintWords Go.Proofs.YtohonglblcpdpaaW.PrintLast Go.Proofs.Ytohonglblcpdpaa.Q

theorem proved : SaidFnExactVotesRight.Pure := by
  rintro l ⟨hl, hg⟩
  have hl : l.length ≤ 9223372036854775807 := le_maxLen hl
  refine ⟨l.length + l.length + 1, ?_⟩
  obtain ⟨r, hr, h1, h2, h3⟩ := szVoteS_eq (l := l) (n := 1048576) hl (fun x hx => le_maxLen (hg x hx).2.2.2.1) (by omega) (by omega) (k := l.length + l.length + 1) (by omega)
  unfold laws_FnExactVotesRight.f
  rw [hr]
  simp only [Option.bind_some]
  by_cases h : r < 0
  · rw [if_pos h]
  · have := h3 (by omega)
    have e : (l.map voteOf).length = l.length := by simp
    rw [if_neg h, toVoteS_eq (by omega) (by omega)]
    simp only [Option.bind_some]
    rw [spec_votes_eq (by omega)]
    unfold impl_VotesRight.f
    simp only [Option.bind_some]
    rw [impl_votes_eq (by omega)]
    simp only [Option.bind_some]
    rw [if_neg (by simp), eqVoteS_eq (by omega) (by omega)]
    simp

end Go.Proofs.Ytohonglblcpdpaa.Q.PureFnExactVotesRight
