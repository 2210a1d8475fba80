/- VoteAdd of the program returns what the reference's VoteAdd returns, for all votes and every vote; what it returns is new memory. No condition. -/
import Derived.Test.YtjnlopoajcpclaaQSaidFnExactVoteAdd
import Derived.Test.YtjnlopoajcpclaaQPlVotes
import Derived.Test.YtjnlopoajcpclaaQPlMarkVotes
import Derived.Test.YtjnlopoajcpclaaQx12
namespace Go.Proofs.Ytjnlopoajcpclaa.Q.PureFnExactVoteAdd
open Go.RowKit Go.Proofs.YtjnlopoajcpclaaW.PrintWords Go.Proofs.YtjnlopoajcpclaaW.PrintLast Go.Proofs.Ytjnlopoajcpclaa.Q Go.Proofs.Ytjnlopoajcpclaa.HB

/-- What VoteAdd answers. -/
def addB (l : List VI) (v : VI) : List VI × Bool × Int :=
  if l.length > 400 then ([], false, 2) else
  if votesB l = true then (if voteB v.f0 v.f1 v.f2 v.f3 v.f4 = true then
    (if (l.any fun x => sameB x v) = true then (l, false, 0) else if l.length ≥ 400 then ([], false, 9) else (l ++ [v], true, 0)) else ([], false, 1)) else ([], false, 1)
theorem addB_len (l : List VI) (v : VI) : (addB l v).1.length ≤ 401 := by
  unfold addB
  split
  · simp
  · split
    · split
      · split
        · simp; omega
        · split
          · simp
          · simp; omega
      · simp
    · simp
theorem spec_add_eq {l : List VI} {v : VI} {k : Nat} (hl : l.length ≤ 1048576) (hk : l.length + l.length < k) : spec_VoteAdd.f k l v.f0 v.f1 v.f2 v.f3 v.f4 = some (addB l v) := by
  unfold spec_VoteAdd.f addB
  by_cases h : l.length > 400
  · rw [if_pos (by omega), if_pos h]
  · rw [if_neg (by omega), if_neg h, spec_votes_eq hk]
    simp only [Option.bind_some]
    by_cases hv : votesB l = true
    · rw [if_pos hv, if_pos hv, spec_vote_eq]
      simp only [Option.bind_some]
      by_cases hw : voteB v.f0 v.f1 v.f2 v.f3 v.f4 = true
      · rw [if_pos hw, if_pos hw]
        unfold spec_l11Add.f
        rw [has_eq (by omega) (by omega)]
        simp only [Option.bind_some]
        by_cases hs : (l.any fun x => sameB x v) = true
        · rw [if_pos hs, if_pos hs, if_pos (by simp; omega)]
          simp
        · rw [if_neg hs, if_neg hs]
          by_cases h4 : l.length ≥ 400
          · rw [if_pos (by omega), if_pos h4]
            rfl
          · rw [if_neg (by omega), if_neg h4, if_pos (by simp; omega), if_pos (by simp; omega)]
            simp
      · rw [if_neg hw, if_neg hw]
    · rw [if_neg hv, if_neg hv]
theorem ixFrom_ge {α : Type} (p : α → Bool) : ∀ (l : List α) (b : Nat), (ixFrom p l b ≥ 0 ↔ (l.any p) = true) := by
  intro l
  induction l with
  | nil => intro b; simp [ixFrom]
  | cons x xs ih =>
    intro b
    unfold ixFrom
    by_cases hx : p x = true
    · simp [hx]
    · simp only [hx, Bool.false_eq_true, if_false, List.any_cons, Bool.false_or]
      exact ih (b + 1)
theorem impl_add_eq {l : List VI} {v : VI} {k : Nat} (hl : l.length ≤ 1048576) (hk : l.length < k) : impl_VoteAdd.f k l v.f0 v.f1 v.f2 v.f3 v.f4 = some (addB l v) := by
  unfold impl_VoteAdd.f addB
  by_cases h : l.length > 400
  · rw [if_pos (by omega), if_pos h]
  · rw [if_neg (by omega), if_neg h, impl_votes_eq hk]
    simp only [Option.bind_some]
    by_cases hv : votesB l = true
    · rw [if_pos hv, if_pos hv, impl_vote_eq]
      simp only [Option.bind_some]
      by_cases hw : voteB v.f0 v.f1 v.f2 v.f3 v.f4 = true
      · rw [if_pos hw, if_pos hw]
        unfold impl_Vote.f
        simp only [Option.bind_some]
        rw [if_pos (by simp; omega)]
        simp only [Option.bind_some, List.nil_append]
        unfold impl_voteAdd.f impl_voteIndex.f
        simp only [Option.bind_some]
        have hz := ixFrom_ge (impl_voteIndex_p v.f0 v.f1 v.f2 v.f4) l 0
        by_cases hs : (l.any fun x => sameB x v) = true
        · rw [if_pos (hz.2 hs), if_pos hs]
          simp
        · rw [if_neg (fun h => hs (hz.1 h)), if_neg hs]
          by_cases h4 : l.length ≥ 400
          · rw [if_pos (by omega), if_pos h4]
            simp
          · rw [if_neg (by omega), if_neg h4, if_pos (by omega)]
            simp
      · rw [if_neg hw, if_neg hw]
    · rw [if_neg hv, if_neg hv]
theorem eqOut_eq {x : List VI × Bool × Int} (hl : x.1.length ≤ 401) {k : Nat} (hk : 401 < k) : laws_eqVotesOut.f k x.1 x.2.1 x.2.2 x.1 x.2.1 x.2.2 = some true := by
  unfold laws_eqVotesOut.f
  rw [eqVoteS_eq (by omega) (by omega)]
  simp

theorem proved : SaidFnExactVoteAdd.Pure := by
  rintro l0 v0 ⟨hl, hg⟩ hv
  have hl : l0.length ≤ 9223372036854775807 := le_maxLen hl
  let K := l0.length + l0.length + 500
  have hK : K = l0.length + l0.length + 500 := rfl
  refine ⟨K + 1, ?_⟩
  clear_value K
  obtain ⟨r, hr, h1, h2, h3⟩ := szVoteS_eq (l := l0) (n := 1048576) hl (fun x hx => le_maxLen (hg x hx).2.2.2.1) (by omega) (by omega) (k := K + 1) (by omega)
  unfold laws_FnExactVoteAdd.f
  rw [hr]
  simp only [Option.bind_some]
  by_cases h : r < 0
  · rw [if_pos h]
  · have := h3 (by omega)
    obtain ⟨r2, hr2, h4, h5, _⟩ := szVote_eq v0.f0 v0.f1 v0.f2 v0.f3 v0.f4 r (le_maxLen hv.2.2.2.1) (by omega) (by omega)
    rw [if_neg h, hr2]
    simp only [Option.bind_some]
    by_cases h6 : r2 < 0
    · rw [if_pos h6]
    · have e : (l0.map voteOf).length = l0.length := by simp
      let v : VI := voteOf v0
      have hvv : laws_toVote.f v0.f0 v0.f1 v0.f2 v0.f3 v0.f4 = some (v.f0, v.f1, v.f2, v.f3, v.f4) := rfl
      clear_value v
      let l := l0.map voteOf
      have hl2 : l.length = l0.length := e
      have ht : ∀ k', l0.length < k' → laws_toVoteS.f k' l0 = some l := fun k' hk' => toVoteS_eq (by omega) hk'
      clear_value l
      have hb := addB_len l v
      obtain ⟨o, m1, m2, _⟩ := markVoteS_eq (l := l) (by omega) (k := K + 1) (by omega)
      obtain ⟨o2, n1, n2, n3⟩ := markVoteS_eq (l := (addB l v).1) (by omega) (k := K) (by omega)
      rw [if_neg h6, ht _ (by omega), hvv]
      simp only [Option.bind_some]
      rw [spec_add_eq (by omega) (by omega), impl_add_eq (by omega) (by omega)]
      simp only [Option.bind_some]
      rw [eqOut_eq hb (by omega)]
      simp only [Option.bind_some, if_true]
      rw [eqVoteS_eq (by omega) (by omega)]
      simp only [Option.bind_some, if_true]
      rw [m1]
      simp only [Option.bind_some]
      rw [if_neg (by omega)]
      simp only [laws_FnExactVoteAdd.j0, Bool.not_true, Bool.false_eq_true, if_false, laws_markVotesOut.f, laws_heldVotesOut.f]
      rw [n1]
      simp only [Option.bind_some]
      rw [n3 _ (by omega)]
      simp only [Option.bind_some]
      rw [if_neg (by omega)]
      simp only [Option.bind_some]
      simp only [if_true]
      rw [ht _ (by omega)]
      simp only [Option.bind_some, hvv]
      rw [impl_add_eq (by omega) (by omega)]
      simp only [Option.bind_some]
      rw [eqOut_eq hb (by omega)]
      simp only [Option.bind_some, if_true]
      rw [if_neg (by omega)]
      try rw [if_neg (by omega)]

end Go.Proofs.Ytjnlopoajcpclaa.Q.PureFnExactVoteAdd
