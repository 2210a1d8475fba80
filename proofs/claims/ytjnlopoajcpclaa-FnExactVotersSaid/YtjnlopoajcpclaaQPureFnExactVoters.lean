/- Voters of the program returns what the reference's Voters returns, for all arguments; what it returns is new memory. No condition. -/
import Derived.Test.YtjnlopoajcpclaaQSaidFnExactVoters
import Derived.Test.YtjnlopoajcpclaaQPlVoters
import Derived.Test.YtjnlopoajcpclaaQPlMark
import Derived.Test.YtjnlopoajcpclaaQPlMarkVotes
import Derived.Test.YtjnlopoajcpclaaQPlEqInts
import Derived.Test.YtjnlopoajcpclaaQx24
namespace Go.Proofs.Ytjnlopoajcpclaa.Q.PureFnExactVoters
open Go.RowKit Go.Proofs.YtjnlopoajcpclaaW.PrintWords Go.Proofs.YtjnlopoajcpclaaW.PrintLast Go.Proofs.Ytjnlopoajcpclaa.Q Go.Proofs.Ytjnlopoajcpclaa.HB

theorem proved : SaidFnExactVoters.Pure := by
  rintro l0 a b c op ⟨hl, hg⟩ _ _ _ ho
  have hl : l0.length ≤ 9223372036854775807 := le_maxLen hl
  let K := 4 * l0.length + 500
  have hK : K = 4 * l0.length + 500 := rfl
  refine ⟨K + 1, ?_⟩
  clear_value K
  unfold laws_FnExactVoters.f
  by_cases hop : (op.size : Int) > 1048576
  · rw [if_pos hop]
  · obtain ⟨r, hr, h1, h2, h3⟩ := szVoteS_eq (l := l0) (n := 1048576) hl (fun x hx => le_maxLen (hg x hx).2.2.2.1) (by omega) (by omega) (k := K + 1) (by omega)
    rw [if_neg hop, hr]
    simp only [Option.bind_some]
    by_cases h : r < 0
    · rw [if_pos h]
    · have := h3 (by omega)
      have e : (l0.map voteOf).length = l0.length := by simp
      let l : List VT := l0.map voteOf
      have hl2 : l.length = l0.length := e
      have ht : ∀ k', l0.length < k' → laws_toVoteS.f k' l0 = some l := fun k' hk' => toVoteS_eq (by omega) hk'
      clear_value l
      have hb := votersB_len l a b c op
      obtain ⟨o, m1, m2, _⟩ := markVoteS_eq (l := l) (by omega) (k := K + 1) (by omega)
      obtain ⟨o2, n1, n2, n3⟩ := markInt64S_eq (l := votersB l a b c op) (by omega) (k := K) (by omega)
      rw [if_neg h, ht _ (by omega)]
      simp only [Option.bind_some]
      rw [spec_voters_eq (by omega), impl_voters_eq (by omega)]
      simp only [Option.bind_some]
      rw [eqInt64S_eq (by omega) (by omega)]
      simp only [Option.bind_some, if_true]
      rw [eqVoteS_eq (by omega) (by omega)]
      simp only [Option.bind_some, if_true]
      rw [m1]
      simp only [Option.bind_some]
      rw [if_neg (by omega)]
      simp only [laws_FnExactVoters.j0, Bool.not_true, Bool.false_eq_true, if_false]
      rw [n1]
      simp only [Option.bind_some]
      rw [n3 _ (by omega)]
      simp only [Option.bind_some]
      rw [if_neg (by omega)]
      simp only [if_true]
      rw [ht _ (by omega)]
      simp only [Option.bind_some]
      rw [impl_voters_eq (by omega)]
      simp only [Option.bind_some]
      rw [eqInt64S_eq (by omega) (by omega)]
      simp only [Option.bind_some, if_true]
      rw [if_neg (by omega)]

end Go.Proofs.Ytjnlopoajcpclaa.Q.PureFnExactVoters
