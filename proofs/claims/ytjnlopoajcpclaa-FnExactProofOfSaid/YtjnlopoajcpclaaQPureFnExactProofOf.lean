/- ProofOf of the program returns what the reference's ProofOf returns, for all arguments; what it returns is new memory. No condition. -/
import Derived.Test.YtjnlopoajcpclaaQSaidFnExactProofOf
import Derived.Test.YtjnlopoajcpclaaQPlVoters
import Derived.Test.YtjnlopoajcpclaaQPlMark
import Derived.Test.YtjnlopoajcpclaaQPlMarkVotes
import Derived.Test.YtjnlopoajcpclaaQPlEqInts
import Derived.Test.YtjnlopoajcpclaaQx30
namespace Go.Proofs.Ytjnlopoajcpclaa.Q.PureFnExactProofOf
open Go.RowKit Go.Proofs.YtjnlopoajcpclaaW.PrintWords Go.Proofs.YtjnlopoajcpclaaW.PrintLast Go.Proofs.Ytjnlopoajcpclaa.Q Go.Proofs.Ytjnlopoajcpclaa.HB

/-- What ProofOf answers. -/
def proofB (l : List VT) (a b : Int) (op : ByteArray) : Int × Int × ByteArray × List Int :=
  if (votersB l 2 a b op).length < 3 then (0, 0, ⟨#[]⟩, []) else (a, b, op, votersB l 2 a b op)
theorem proofB_len (l : List VT) (a b : Int) (op : ByteArray) : (proofB l a b op).2.2.2.length ≤ 16 := by
  unfold proofB
  split
  · simp
  · exact votersB_len ..
theorem spec_proofOf_eq {l : List VT} {a b : Int} {op : ByteArray} {k : Nat} (hk : 4 * l.length + 10 ≤ k) : spec_ProofOf.f k l a b op = some (proofB l a b op) := by
  unfold spec_ProofOf.f proofB
  rw [spec_voters_eq hk]
  simp only [Option.bind_some]
  by_cases h : (votersB l 2 a b op).length < 3
  · rw [if_pos (by omega), if_pos h]
  · rw [if_neg (by omega), if_neg h]
theorem impl_proofOf_eq {l : List VT} {a b : Int} {op : ByteArray} {k : Nat} (hk : l.length + 100 ≤ k) : impl_ProofOf.f k l a b op = some (proofB l a b op) := by
  have hv := impl_voters_eq (l := l) (a := 2) (b := a) (c := b) (op := op) hk
  unfold impl_Voters.f at hv
  unfold impl_ProofOf.f
  by_cases ho : (op.size : Int) > 20000
  · rw [if_pos ho] at hv ⊢
    have : votersB l 2 a b op = [] := (Option.some.inj hv).symm
    simp [proofB, this]
  · rw [if_neg ho] at hv ⊢
    rw [impl_votes_eq (by omega)] at hv ⊢
    simp only [Option.bind_some] at hv ⊢
    by_cases h : votesB l = true
    · rw [if_pos h] at hv ⊢
      unfold impl_proofOf.f
      cases e : impl_voters.f k l 2 a b op with
      | none => rw [e] at hv; exact absurd hv (by simp)
      | some t =>
        rw [e] at hv
        have ht : t = votersB l 2 a b op := Option.some.inj hv
        subst ht
        simp only [Option.bind_some, proofB]
        by_cases h3 : (votersB l 2 a b op).length < 3
        · rw [if_pos (by omega), if_pos h3]
          rfl
        · rw [if_neg (by omega), if_neg h3]
          rfl
    · rw [if_neg h] at hv ⊢
      have : votersB l 2 a b op = [] := (Option.some.inj hv).symm
      simp [proofB, this]
theorem eqProof_eq {p : Int × Int × ByteArray × List Int} {k : Nat} (hl : p.2.2.2.length ≤ 16) (hk : 16 < k) : laws_eqProof.f k p.1 p.2.1 p.2.2.1 p.2.2.2 p.1 p.2.1 p.2.2.1 p.2.2.2 = some true := by
  unfold laws_eqProof.f
  rw [eqInt64S_eq (by omega) (by omega)]
  simp

theorem proved : SaidFnExactProofOf.Pure := by
  rintro l0 a b op ⟨hl, hg⟩ _ _ ho
  have hl : l0.length ≤ 9223372036854775807 := le_maxLen hl
  let K := 4 * l0.length + 500
  have hK : K = 4 * l0.length + 500 := rfl
  refine ⟨K + 1, ?_⟩
  clear_value K
  unfold laws_FnExactProofOf.f
  by_cases hop : (op.size : Int) > 1048576
  · rw [if_pos hop]
  · obtain ⟨r, hr, h1, h2, h3⟩ := szVoteS_eq (l := l0) (n := 1048576) hl (fun x hx => le_maxLen (hg x hx).2.2.2.1) (by omega) (by omega) (k := K + 1) (by omega)
    rw [if_neg hop, hr]
    simp only [Option.bind_some]
    by_cases h : r < 0
    · rw [if_pos h]
    · have := h3 (by omega)
      have e : (l0.map voteOf).length = l0.length := by simp
      let l : List VT := l0.map voteOf
      have hl2 : l.length = l0.length := e
      have ht : ∀ k', l0.length < k' → laws_toVoteS.f k' l0 = some l := fun k' hk' => toVoteS_eq (by omega) hk'
      clear_value l
      have hb := proofB_len l a b op
      obtain ⟨o, m1, m2, _⟩ := markVoteS_eq (l := l) (by omega) (k := K + 1) (by omega)
      rw [if_neg h, ht _ (by omega)]
      simp only [Option.bind_some]
      rw [spec_proofOf_eq (by omega), impl_proofOf_eq (by omega)]
      simp only [Option.bind_some]
      have hq2 := impl_proofOf_eq (l := l) (a := a) (b := b) (op := op) (k := K) (by omega)
      generalize proofB l a b op = p at hb hq2 ⊢
      obtain ⟨o2, n1, n2, n3⟩ := markInt64S_eq (l := p.2.2.2) (by omega) (k := K) (by omega)
      rw [eqProof_eq hb (by omega)]
      simp only [Option.bind_some, if_true]
      rw [eqVoteS_eq (by omega) (by omega)]
      simp only [Option.bind_some, if_true]
      rw [m1]
      simp only [Option.bind_some]
      rw [if_neg (by omega)]
      simp only [laws_FnExactProofOf.j0, laws_markProof.f, laws_heldProof.f, Bool.not_true, Bool.false_eq_true, if_false]
      rw [n1]
      simp only [Option.bind_some]
      rw [n3 _ (by omega)]
      simp only [Option.bind_some]
      rw [if_neg (by omega)]
      simp only [Option.bind_some]
      rw [if_neg (by omega)]
      simp only [if_true]
      rw [ht _ (by omega)]
      simp only [Option.bind_some]
      rw [hq2]
      simp only [Option.bind_some]
      rw [eqProof_eq hb (by omega)]
      simp only [Option.bind_some, if_true]
      rw [if_neg (by omega)]

end Go.Proofs.Ytjnlopoajcpclaa.Q.PureFnExactProofOf
