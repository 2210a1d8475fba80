/- Marks: what markInt64S, markVoteS write is what heldInt64S, heldVoteS find. Short lists. -/
import Derived.Test.YtjnlopoajcpclaaQx16
import Derived.Test.YtjnlopoajcpclaaQx17
import Derived.Test.YtjnlopoajcpclaaQPlLoops
namespace Go.Proofs.Ytjnlopoajcpclaa.Q
open Go.RowKit Go.Proofs.YtjnlopoajcpclaaW.PrintWords Go.Proofs.YtjnlopoajcpclaaW.PrintLast
set_option linter.unusedVariables false
set_option linter.unusedSimpArgs false

/-- The first i elements are marked, from 1 on. -/
def markedI (l : List Int) (i : Nat) : Prop := ∀ j, j < i → l.getD j 0 = 1 + (j : Int)
theorem markInt64S_l0 (n : Nat) (hn : n ≤ 2000000) (d : Nat) : ∀ (k i : Nat) (o : List Int), i + d = n → d < k → o.length = n → markedI o i →
    ∃ o', laws_markInt64S.l0 k o (1 + (i : Int)) (i : Int) = some (1 + (n : Int), o') ∧ o'.length = n ∧ markedI o' n := by
  induction d with
  | zero =>
    intro k i o hi hk ho hm
    obtain ⟨k, rfl⟩ := k_succ hk
    obtain rfl : i = n := by omega
    simp only [laws_markInt64S.l0]
    rw [if_neg (by omega)]
    exact ⟨o, rfl, ho, hm⟩
  | succ d ih =>
    intro k i o hi hk ho hm
    obtain ⟨k, rfl⟩ := k_succ hk
    simp only [laws_markInt64S.l0]
    rw [if_pos (by omega), if_pos (by omega), w_id (by omega) (by omega), w_id (by omega) (by omega), Int.toNat_natCast]
    have := ih k (i + 1) (o.set i (1 + (i : Int))) (by omega) (by omega) (by simpa using ho) (fun j hj => by
      by_cases e : j = i
      · subst e
        simp [List.getD, show j < o.length by omega]
      · have := hm j (by omega)
        simp only [List.getD_eq_getElem?_getD] at this ⊢
        rw [List.getElem?_set_ne (by omega)]
        exact this)
    have e : (1 + (i : Int) + 1) = 1 + ((i + 1 : Nat) : Int) := by omega
    have e2 : ((i : Int) + 1) = ((i + 1 : Nat) : Int) := by omega
    rw [e, e2]
    exact this
theorem heldInt64S_l0 (n : Nat) (hn : n ≤ 2000000) (o : List Int) (ho : o.length = n) (hm : markedI o n) (d : Nat) : ∀ (k i : Nat), i + d = n → d < k →
    laws_heldInt64S.l0 k o (1 + (i : Int)) (i : Int) = some (1 + (n : Int)) := by
  induction d with
  | zero =>
    intro k i hi hk
    obtain ⟨k, rfl⟩ := k_succ hk
    obtain rfl : i = n := by omega
    simp only [laws_heldInt64S.l0]
    rw [if_neg (by omega)]
  | succ d ih =>
    intro k i hi hk
    obtain ⟨k, rfl⟩ := k_succ hk
    simp only [laws_heldInt64S.l0]
    have e : (1 + (i : Int) + 1) = 1 + ((i + 1 : Nat) : Int) := by omega
    have e2 : ((i : Int) + 1) = ((i + 1 : Nat) : Int) := by omega
    rw [if_pos (by omega), if_pos (by omega), if_pos (by exact hm i (by omega)), w_id (by omega) (by omega), w_id (by omega) (by omega), e, e2]
    exact ih k (i + 1) (by omega) (by omega)
/-- What is marked is found marked. -/
theorem markInt64S_eq {l : List Int} (hl : l.length ≤ 2000000) {k : Nat} (hk : l.length < k) :
    ∃ o', laws_markInt64S.f k l 1 = some (1 + (l.length : Int), o') ∧ o'.length = l.length ∧ ∀ k', l.length < k' → laws_heldInt64S.f k' o' 1 = some (1 + (l.length : Int)) := by
  obtain ⟨o', h1, h2, h3⟩ := markInt64S_l0 l.length hl l.length k 0 l (by omega) hk rfl (fun j hj => absurd hj (by omega))
  refine ⟨o', by unfold laws_markInt64S.f; simpa using h1, h2, fun k' hk' => ?_⟩
  have := heldInt64S_l0 l.length hl o' h2 h3 l.length k' 0 (by omega) hk'
  unfold laws_heldInt64S.f
  simpa using this

end Go.Proofs.Ytjnlopoajcpclaa.Q
