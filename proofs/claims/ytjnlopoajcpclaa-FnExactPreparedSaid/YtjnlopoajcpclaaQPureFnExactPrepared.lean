/- Prepared of the program returns what the reference's Prepared returns, for all arguments; what it returns is new memory. No condition. -/
import Derived.Test.YtjnlopoajcpclaaQSaidFnExactPrepared
import Derived.Test.YtjnlopoajcpclaaQPlPrepared
import Derived.Test.YtjnlopoajcpclaaQPlMark
import Derived.Test.YtjnlopoajcpclaaQPlMarkV
import Derived.Test.YtjnlopoajcpclaaQPlEqInts
import Derived.Test.YtjnlopoajcpclaaQx27
namespace Go.Proofs.Ytjnlopoajcpclaa.Q.PureFnExactPrepared
open Go.RowKit Go.Proofs.YtjnlopoajcpclaaW.PrintWords Go.Proofs.YtjnlopoajcpclaaW.PrintLast Go.Proofs.Ytjnlopoajcpclaa.Q Go.Proofs.Ytjnlopoajcpclaa.HB
set_option linter.unusedVariables false
set_option linter.unusedSimpArgs false

theorem spec_eq {l : List VT} {s : Int} {k : Nat} (hk : prepR l < k) : spec_Prepared.f k l s = some (prepB l s) := by
  have hge := prepR_ge l
  unfold spec_Prepared.f prepB
  by_cases h : l.length > 400
  · rw [if_pos (by omega)]
    have : votesB l ≠ true := fun hv => by have := (votesB_step hv).1; omega
    rw [if_neg this]
  · rw [if_neg (by omega), spec_votes_eq (by omega)]
    simp only [Option.bind_some]
    rw [spec_best_eq (by omega) hk]
    simp only [Option.bind_some]
    split <;> rfl
theorem impl_eq {l : List VT} {s : Int} {k : Nat} (hk : prepR l < k) : impl_Prepared.f k l s = some (prepB l s) := by
  have hge := prepR_ge l
  unfold impl_Prepared.f prepB
  rw [impl_votes_eq (by omega)]
  simp only [Option.bind_some]
  by_cases h : votesB l = true
  · rw [if_pos h, if_pos h, impl_prep_eq h hk]
    rfl
  · rw [if_neg h, if_neg h]
theorem eqProof_eq {p : Int × Int × ByteArray × List Int} {k : Nat} (hl : p.2.2.2.length ≤ 16) (hk : 16 < k) : laws_eqProof.f k p.1 p.2.1 p.2.2.1 p.2.2.2 p.1 p.2.1 p.2.2.1 p.2.2.2 = some true := by
  unfold laws_eqProof.f
  rw [eqInt64S_eq (by omega) (by omega)]
  simp

theorem proved : SaidFnExactPrepared.Pure := by
  rintro l0 a ⟨hl, hg⟩ _
  have hl : l0.length ≤ 9223372036854775807 := le_maxLen hl
  let K := prepR (l0.map voteOf) + 10
  have hK : K = prepR (l0.map voteOf) + 10 := rfl
  have hge := prepR_ge (l0.map voteOf)
  have e : (l0.map voteOf).length = l0.length := by simp
  refine ⟨K + 1, ?_⟩
  clear_value K
  unfold laws_FnExactPrepared.f
  obtain ⟨r, hr, h1, h2, h3⟩ := szVoteS_eq (l := l0) (n := 1048576) hl (fun x hx => le_maxLen (hg x hx).2.2.2.1) (by omega) (by omega) (k := K + 1) (by omega)
  rw [hr]
  simp only [Option.bind_some]
  by_cases h : r < 0
  · rw [if_pos h]
  · have := h3 (by omega)
    have ht : ∀ k', l0.length < k' → laws_toVoteS.f k' l0 = some (l0.map voteOf) := fun k' hk' => toVoteS_eq (by omega) hk'
    generalize l0.map voteOf = l at hK hge e ht
    have hb := prepB_len l a
    obtain ⟨o, m1⟩ := markVoteS_1 (l := l) (by omega) (k := K + 1) (by omega)
    rw [if_neg h, ht _ (by omega)]
    simp only [Option.bind_some]
    rw [spec_eq (by omega), impl_eq (by omega)]
    simp only [Option.bind_some]
    have hq2 := impl_eq (l := l) (s := a) (k := K) (by omega)
    generalize prepB l a = p at hb hq2 ⊢
    obtain ⟨o2, n1, n2, n3⟩ := markInt64S_eq (l := p.2.2.2) (by omega) (k := K) (by omega)
    rw [eqProof_eq hb (by omega)]
    simp only [Option.bind_some, if_true]
    rw [eqVoteS_eq (by omega) (by omega)]
    simp only [Option.bind_some, if_true]
    rw [m1]
    simp only [Option.bind_some]
    rw [if_neg (by omega)]
    simp only [laws_FnExactPrepared.j0, laws_markProof.f, laws_heldProof.f, Bool.not_true, Bool.false_eq_true, if_false]
    rw [n1]
    simp only [Option.bind_some]
    rw [n3 _ (by omega)]
    simp only [Option.bind_some]
    rw [if_neg (by omega)]
    simp only [Option.bind_some]
    rw [if_neg (by omega)]
    simp only [if_true]
    rw [ht _ (by omega)]
    simp only [Option.bind_some]
    rw [hq2]
    simp only [Option.bind_some]
    rw [eqProof_eq hb (by omega)]
    simp only [Option.bind_some, if_true]
    rw [if_neg (by omega)]

end Go.Proofs.Ytjnlopoajcpclaa.Q.PureFnExactPrepared
