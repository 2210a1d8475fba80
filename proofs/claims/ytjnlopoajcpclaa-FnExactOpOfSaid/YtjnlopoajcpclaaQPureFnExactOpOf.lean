/- OpOf of the program returns what the reference's OpOf returns, for all arguments. No condition. -/
import Derived.Test.YtjnlopoajcpclaaQSaidFnExactOpOf
import Derived.Test.YtjnlopoajcpclaaQPlDecided
import Derived.Test.YtjnlopoajcpclaaQPlMarkVotes
import Derived.Test.YtjnlopoajcpclaaQx30
namespace Go.Proofs.Ytjnlopoajcpclaa.Q.PureFnExactOpOf
open Go.RowKit Go.Proofs.YtjnlopoajcpclaaW.PrintWords Go.Proofs.YtjnlopoajcpclaaW.PrintLast Go.Proofs.Ytjnlopoajcpclaa.Q Go.Proofs.Ytjnlopoajcpclaa.HB

theorem spec_eq {l : List VT} {s : Int} {k : Nat} (hk : decR l < k) : spec_OpOf.f k l s = some (decB l s).1 := by
  unfold spec_OpOf.f decB
  have hge := decR_ge l
  by_cases h : l.length > 400
  · rw [if_pos (by omega)]
    have : votesB l ≠ true := fun hv => by have := (votesB_step hv).1; omega
    rw [if_neg this]
  · rw [if_neg (by omega), spec_votes_eq (by omega)]
    simp only [Option.bind_some]
    rw [spec_dec_eq (by omega) hk]
    split <;> rfl
theorem impl_eq {l : List VT} {s : Int} {k : Nat} (hl : l.length ≤ 9223372036854775807) (hk : decR l < k) : impl_OpOf.f k l s = some (decB l s).1 := by
  unfold impl_OpOf.f decB
  have hge := decR_ge l
  rw [impl_votes_eq (by omega)]
  simp only [Option.bind_some]
  by_cases h : votesB l = true
  · rw [if_pos h, if_pos h, impl_dec_eq h hk]
    rfl
  · rw [if_neg h, if_neg h]
theorem proved : SaidFnExactOpOf.Pure := by
  rintro l0 s ⟨hl, hg⟩ _
  have hl : l0.length ≤ 9223372036854775807 := le_maxLen hl
  let K := decR (l0.map voteOf) + 10
  have hK : K = decR (l0.map voteOf) + 10 := rfl
  have hge := decR_ge (l0.map voteOf)
  have e : (l0.map voteOf).length = l0.length := by simp
  refine ⟨K, ?_⟩
  clear_value K
  unfold laws_FnExactOpOf.f
  obtain ⟨r, hr, h1, h2, h3⟩ := szVoteS_eq (l := l0) (n := 1048576) hl (fun x hx => le_maxLen (hg x hx).2.2.2.1) (by omega) (by omega) (k := K) (by omega)
  rw [hr]
  simp only [Option.bind_some]
  by_cases h : r < 0
  · rw [if_pos h]
  · have := h3 (by omega)
    have ht : ∀ k', l0.length < k' → laws_toVoteS.f k' l0 = some (l0.map voteOf) := fun k' hk' => toVoteS_eq (by omega) hk'
    generalize l0.map voteOf = l at hK hge e ht
    rw [if_neg h, ht _ (by omega)]
    simp only [Option.bind_some]
    rw [spec_eq (by omega), impl_eq (by omega) (by omega)]
    simp only [Option.bind_some]
    rw [if_pos trivial, eqVoteS_eq (by omega) (by omega)]
    simp

end Go.Proofs.Ytjnlopoajcpclaa.Q.PureFnExactOpOf
