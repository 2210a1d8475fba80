/- Marks: what markVoteS writes. Short lists. -/
import Derived.Test.YtmaliehmbodioaaQx7
import Derived.Test.YtmaliehmbodioaaQPlMarkText
namespace Go.Proofs.Ytmaliehmbodioaa.Q
open Go.RowKit Go.Proofs.YtmaliehmbodioaaW.PrintWords Go.Proofs.YtmaliehmbodioaaW.PrintLast
set_option linter.unusedVariables false
set_option linter.unusedSimpArgs false

abbrev VI := S52
def markV (j : Nat) : VI := ⟨1 + 5 * (j : Int), 2 + 5 * (j : Int), 3 + 5 * (j : Int), mt (4 + 5 * (j : Int)), 5 + 5 * (j : Int)⟩
def markedV (l : List VI) (i : Nat) : Prop := ∀ j, j < i → l.getD j z52 = markV j
theorem rdV (l : List VI) (i : Nat) : rd_T52 l (i : Int) = l.getD i z52 := of_eq_true (eq_self _)
theorem obind {α β : Type} (a : α) (f : α → Option β) : (some a).bind f = f a := of_eq_true (eq_self _)
theorem toNatV (i : Nat) : ((i : Int)).toNat = i := of_eq_true (eq_self _)
theorem getD_set_self {α : Type} (l : List α) (i : Nat) (x z : α) (h : i < l.length) : (l.set i x).getD i z = x := by simp [List.getD, h]
theorem getD_set_ne {α : Type} (l : List α) (i j : Nat) (x z : α) (h : i ≠ j) : (l.set i x).getD j z = l.getD j z := by
  simp only [List.getD_eq_getElem?_getD, List.getElem?_set_ne h]
theorem wv {i n : Nat} (c e : Int) (he : e = c + 1) (h0 : 0 ≤ c) (hc : c ≤ 10) (hn : n ≤ 2000000) (hi : i < n) : wrap64 (c + 5 * (i : Int) + 1) = e + 5 * (i : Int) := by
  rw [w_id (by omega) (by omega)]
  omega
theorem wv5 {i n : Nat} (hn : n ≤ 2000000) (hi : i < n) : wrap64 (5 + 5 * (i : Int) + 1) = 1 + 5 * ((i + 1 : Nat) : Int) := by
  rw [w_id (by omega) (by omega)]
  omega
theorem markVoteS_l0 (n : Nat) (hn : n ≤ 2000000) (d : Nat) : ∀ (k i : Nat) (o : List VI), i + d = n → d + 30 < k → o.length = n → markedV o i →
    ∃ o', laws_markVoteS.l0 k o (1 + 5 * (i : Int)) (i : Int) = some (1 + 5 * (n : Int), o') ∧ o'.length = n ∧ markedV o' n := by
  induction d with
  | zero =>
    intro k i o hi hk ho hm
    obtain ⟨k, rfl⟩ : ∃ m, k = m + 1 := ⟨k - 1, by omega⟩
    obtain rfl : i = n := by omega
    simp only [laws_markVoteS.l0]
    rw [if_neg (by omega)]
    exact ⟨o, rfl, ho, hm⟩
  | succ d ih =>
    intro k i o hi hk ho hm
    obtain ⟨k, rfl⟩ : ∃ m, k = m + 1 := ⟨k - 1, by omega⟩
    have hlt : i < o.length := by omega
    simp only [laws_markVoteS.l0]
    rw [if_pos (by omega), if_pos (by omega)]
    simp only [obind, toNatV, rdV]
    have hin : i < n := by omega
    have w1 : wrap64 (1 + 5 * (i : Int) + 1) = 2 + 5 * (i : Int) := wv (n := n) 1 2 (by decide) (by decide) (by decide) hn hin
    have w2 : wrap64 (2 + 5 * (i : Int) + 1) = 3 + 5 * (i : Int) := wv (n := n) 2 3 (by decide) (by decide) (by decide) hn hin
    have w3 : wrap64 (3 + 5 * (i : Int) + 1) = 4 + 5 * (i : Int) := wv (n := n) 3 4 (by decide) (by decide) (by decide) hn hin
    have w4 : wrap64 (4 + 5 * (i : Int) + 1) = 5 + 5 * (i : Int) := wv (n := n) 4 5 (by decide) (by decide) (by decide) hn hin
    have w5 : wrap64 (5 + 5 * (i : Int) + 1) = 1 + 5 * ((i + 1 : Nat) : Int) := wv5 (n := n) hn hin
    have w6 : wrap64 ((i : Int) + 1) = ((i + 1 : Nat) : Int) := w_nat (n := n) (by omega) (by omega)
    simp only [w1, w2, w3, w4, w5, w6]
    clear w1 w2 w3 w4 w5 w6
    rw [markText_eq (by omega) (by omega) (by omega)]
    simp only [obind]
    refine ih k (i + 1) _ (by omega) (by omega) (by simpa using ho) (fun j hj => ?_)
    by_cases e : j = i
    · subst e
      rw [getD_set_self _ _ _ _ (by simpa using hlt), getD_set_self _ _ _ _ (by simpa using hlt), getD_set_self _ _ _ _ (by simpa using hlt), getD_set_self _ _ _ _ (by simpa using hlt), getD_set_self _ _ _ _ (by simpa using hlt)]
      rfl
    · rw [getD_set_ne _ _ _ _ _ (Ne.symm e), getD_set_ne _ _ _ _ _ (Ne.symm e), getD_set_ne _ _ _ _ _ (Ne.symm e), getD_set_ne _ _ _ _ _ (Ne.symm e), getD_set_ne _ _ _ _ _ (Ne.symm e)]
      exact hm j (by omega)
theorem markVoteS_1 {l : List VI} (hl : l.length ≤ 2000000) {k : Nat} (hk : l.length + 30 < k) : ∃ o', laws_markVoteS.f k l 1 = some (1 + 5 * (l.length : Int), o') := by
  obtain ⟨o', h1, h2, h3⟩ := markVoteS_l0 l.length hl l.length k 0 l (by omega) hk rfl (fun j hj => absurd hj (by omega))
  exact ⟨o', by unfold laws_markVoteS.f; simpa using h1⟩

end Go.Proofs.Ytmaliehmbodioaa.Q
