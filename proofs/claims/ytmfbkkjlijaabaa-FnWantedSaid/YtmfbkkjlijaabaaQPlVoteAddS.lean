/- What VoteAdd answers, in the reference and in the program. -/
import Derived.Test.YtmfbkkjlijaabaaQx9
import Derived.Test.YtmfbkkjlijaabaaQPlVoterF
namespace Go.Proofs.Ytmfbkkjlijaabaa.Q
open Go.RowKit Go.Proofs.YtmfbkkjlijaabaaW.PrintWords Go.Proofs.YtmfbkkjlijaabaaW.PrintLast Go.Proofs.Ytmfbkkjlijaabaa.HB
set_option linter.unusedVariables false
set_option linter.unusedSimpArgs false

/-- What VoteAdd answers. -/
def addB (l : List VT) (v : VT) : List VT × Bool × Int :=
  if l.length > 400 then ([], false, 2) else
  if votesB l = true then (if voteB v.f0 v.f1 v.f2 v.f3 v.f4 = true then
    (if (l.any fun x => sameB x v) = true then (l, false, 0) else if l.length ≥ 400 then ([], false, 9) else (l ++ [v], true, 0)) else ([], false, 1)) else ([], false, 1)
theorem addB_len (l : List VT) (v : VT) : (addB l v).1.length ≤ 401 := by
  unfold addB
  split
  · simp
  · split
    · split
      · split
        · simp; omega
        · split
          · simp
          · simp; omega
      · simp
    · simp
theorem spec_add_eq {l : List VT} {v : VT} {k : Nat} (hl : l.length ≤ 1048576) (hk : l.length + l.length < k) : spec_VoteAdd.f k l v.f0 v.f1 v.f2 v.f3 v.f4 = some (addB l v) := by
  unfold spec_VoteAdd.f addB
  by_cases h : l.length > 400
  · rw [if_pos (by omega), if_pos h]
  · rw [if_neg (by omega), if_neg h, spec_votes_eq hk]
    simp only [Option.bind_some]
    by_cases hv : votesB l = true
    · rw [if_pos hv, if_pos hv, spec_vote_eq]
      simp only [Option.bind_some]
      by_cases hw : voteB v.f0 v.f1 v.f2 v.f3 v.f4 = true
      · rw [if_pos hw, if_pos hw]
        unfold spec_l11Add.f
        rw [has_eq (by omega) (by omega)]
        simp only [Option.bind_some]
        by_cases hs : (l.any fun x => sameB x v) = true
        · rw [if_pos hs, if_pos hs, if_pos (by simp; omega)]
          simp
        · rw [if_neg hs, if_neg hs]
          by_cases h4 : l.length ≥ 400
          · rw [if_pos (by omega), if_pos h4]
            rfl
          · rw [if_neg (by omega), if_neg h4, if_pos (by simp; omega), if_pos (by simp; omega)]
            simp
      · rw [if_neg hw, if_neg hw]
    · rw [if_neg hv, if_neg hv]
end Go.Proofs.Ytmfbkkjlijaabaa.Q
