/- What spec.QuorumRight and impl.isQuorum answer: one and the same function. Lists of at most 2^63 - 1 elements. -/
import Derived.Test.YtmfbkkjlijaabaaQx3
import Derived.Test.YtmfbkkjlijaabaaQx5
import Derived.Test.YtmfbkkjlijaabaaQPlWho
namespace Go.Proofs.Ytmfbkkjlijaabaa.Q
open Go.RowKit Go.Proofs.YtmfbkkjlijaabaaW.PrintWords Go.Proofs.YtmfbkkjlijaabaaW.PrintLast
set_option linter.unusedVariables false
set_option linter.unusedSimpArgs false

/-- From element i on, d elements being left. -/
def quorumFrom (l : List Int) : Nat → Nat → Bool
  | 0, _ => decide (3 ≤ l.length)
  | d + 1, i => if whoB (rd l i) = true then (if i = 0 then quorumFrom l d (i + 1) else if rd l ((i : Int) - 1) ≥ rd l i then false else quorumFrom l d (i + 1)) else false
def quorumB (l : List Int) : Bool := quorumFrom l l.length 0

theorem spec_quorum_l0 (l : List Int) (hl : l.length ≤ 9223372036854775807) (d : Nat) : ∀ (k i : Nat), i + d = l.length → d < k → spec_QuorumRight.l0 k l (i : Int) = some (quorumFrom l d i) := by
  induction d with
  | zero =>
    intro k i hi hk
    obtain ⟨k, rfl⟩ := k_succ hk
    simp only [spec_QuorumRight.l0, quorumFrom]
    rw [if_neg (by omega)]
    congr 1
    exact decide_eq_decide.2 (by omega)
  | succ d ih =>
    intro k i hi hk
    obtain ⟨k, rfl⟩ := k_succ hk
    have h1 := ih k (i + 1) (by omega) (by omega)
    simp only [spec_QuorumRight.l0, quorumFrom]
    rw [if_pos (by omega), if_pos (by omega), l09Who_eq, w_succ (n := l.length) (by omega) (by omega) (by omega)]
    simp only [Option.bind_some]
    by_cases hw : whoB (rd l i) = true
    · rw [if_pos hw, if_pos hw]
      by_cases h0 : i = 0
      · subst h0
        rw [if_neg (by omega), if_pos rfl]
        simpa using h1
      · rw [if_pos (by omega), if_neg h0, w_id (by omega) (by omega), if_pos (by omega), if_pos (by omega)]
        by_cases hg : rd l ((i : Int) - 1) ≥ rd l i
        · rw [if_pos hg, if_pos hg]
        · rw [if_neg hg, if_neg hg]
          simpa using h1
    · rw [if_neg hw, if_neg hw]

theorem spec_quorum_eq {l : List Int} (hl : l.length ≤ 9223372036854775807) {k : Nat} (hk : l.length < k) : spec_QuorumRight.f k l = some (quorumB l) := by
  unfold spec_QuorumRight.f quorumB
  exact spec_quorum_l0 l hl l.length k 0 (by omega) hk

theorem impl_quorum_l0 (l : List Int) (hl : l.length ≤ 9223372036854775807) (d : Nat) : ∀ (k i : Nat), i + d = l.length → d < k → impl_isQuorum.l0 k l l (l.length : Int) (i : Int) = some (quorumFrom l d i) := by
  induction d with
  | zero =>
    intro k i hi hk
    obtain ⟨k, rfl⟩ := k_succ hk
    simp only [impl_isQuorum.l0, quorumFrom]
    rw [if_neg (by omega)]
    congr 1
    exact decide_eq_decide.2 (by omega)
  | succ d ih =>
    intro k i hi hk
    obtain ⟨k, rfl⟩ := k_succ hk
    have h1 := ih k (i + 1) (by omega) (by omega)
    simp only [impl_isQuorum.l0, quorumFrom]
    rw [if_pos (by omega), if_pos (by omega), if_pos (by omega), isReplica_eq, w_succ (n := l.length) (by omega) (by omega) (by omega)]
    simp only [Option.bind_some]
    by_cases hw : whoB (rd l i) = true
    · rw [if_pos hw, if_pos hw]
      by_cases h0 : i = 0
      · subst h0
        rw [if_neg (by omega), if_pos rfl]
        simpa using h1
      · rw [if_pos (by omega), if_neg h0, w_id (by omega) (by omega), if_pos (by omega), if_pos (by omega)]
        by_cases hg : rd l ((i : Int) - 1) ≥ rd l i
        · rw [if_pos hg, if_pos hg]
        · rw [if_neg hg, if_neg hg]
          simpa using h1
    · rw [if_neg hw, if_neg hw]

theorem impl_quorum_eq {l : List Int} (hl : l.length ≤ 9223372036854775807) {k : Nat} (hk : l.length < k) : impl_isQuorum.f k l = some (quorumB l) := by
  unfold impl_isQuorum.f quorumB
  exact impl_quorum_l0 l hl l.length k 0 (by omega) hk

end Go.Proofs.Ytmfbkkjlijaabaa.Q
