/- Marks over rows of texts and of groups. -/
import Derived.Test.YtcaildjhnkedfaaQx12
import Derived.Test.YtcaildjhnkedfaaQx13
import Derived.Test.YtcaildjhnkedfaaQPlMarkText
import Derived.Test.YtcaildjhnkedfaaQPlTopicR
namespace Go.Proofs.Ytcaildjhnkedfaa.Q
open Go.RowKit Go.Proofs.YtcaildjhnkedfaaW.PrintWords Go.Proofs.YtcaildjhnkedfaaW.PrintLast Go.Proofs.Ytcaildjhnkedfaa.HB
set_option linter.unusedVariables false
set_option linter.unusedSimpArgs false

theorem tset_self {α : Type} (l : List α) (i : Nat) (x z : α) (h : i < l.length) : (l.set i x).getD i z = x := by simp [List.getD, h]
theorem tset_ne {α : Type} (l : List α) (i j : Nat) (x z : α) (h : i ≠ j) : (l.set i x).getD j z = l.getD j z := by
  simp only [List.getD_eq_getElem?_getD, List.getElem?_set_ne h]
theorem w_up {a : Int} {i n : Nat} (h0 : 0 ≤ a) (ha : a ≤ 100000000) (hn : n ≤ 2000000) (hi : i < n) : wrap64 (a + (i : Int) + 1) = a + ((i + 1 : Nat) : Int) := by
  rw [w_id (by omega) (by omega)]
  omega
theorem w_up1 {a : Int} {i n : Nat} (h0 : 0 ≤ a) (ha : a ≤ 100000000) (hn : n ≤ 2000000) (hi : i < n) : wrap64 (a + 2 * (i : Int) + 1) = a + 2 * (i : Int) + 1 := by
  rw [w_id (by omega) (by omega)]
theorem w_up2 {a : Int} {i n : Nat} (h0 : 0 ≤ a) (ha : a ≤ 100000000) (hn : n ≤ 2000000) (hi : i < n) : wrap64 (a + 2 * (i : Int) + 1 + 1) = a + 2 * ((i + 1 : Nat) : Int) := by
  rw [w_id (by omega) (by omega)]
  omega
def markedS (a : Int) (l : List ByteArray) (i : Nat) : Prop := ∀ j, j < i → l.getD j ByteArray.empty = mt (a + (j : Int))
theorem markStringS_l0 (n : Nat) (hn : n ≤ 2000000) (a : Int) (h0 : 0 ≤ a) (ha : a ≤ 100000000) (d : Nat) : ∀ (k i : Nat) (o : List ByteArray), i + d = n → d + 30 < k → o.length = n → markedS a o i →
    ∃ o', laws_markStringS.l0 k o (a + (i : Int)) (i : Int) = some (a + (n : Int), o') ∧ o'.length = n ∧ markedS a o' n := by
  induction d with
  | zero =>
    intro k i o hi hk ho hm
    obtain ⟨k, rfl⟩ : ∃ m, k = m + 1 := ⟨k - 1, by omega⟩
    obtain rfl : i = n := by omega
    simp only [laws_markStringS.l0]
    rw [if_neg (by omega)]
    exact ⟨o, rfl, ho, hm⟩
  | succ d ih =>
    intro k i o hi hk ho hm
    obtain ⟨k, rfl⟩ : ∃ m, k = m + 1 := ⟨k - 1, by omega⟩
    have hin : i < n := by omega
    simp only [laws_markStringS.l0]
    rw [if_pos (by omega), markText_eq (by omega) (by omega) (by omega)]
    simp only [tbind, tNat]
    rw [if_pos (by omega), w_up h0 ha hn hin, w_nat (n := n) hin (by omega)]
    refine ih k (i + 1) _ (by omega) (by omega) (by simpa using ho) (fun j hj => ?_)
    by_cases e : j = i
    · subst e
      rw [tset_self _ _ _ _ (by omega)]
    · rw [tset_ne _ _ _ _ _ (Ne.symm e)]
      exact hm j (by omega)
theorem heldStringS_l0 (n : Nat) (hn : n ≤ 2000000) (a : Int) (h0 : 0 ≤ a) (ha : a ≤ 100000000) (o : List ByteArray) (ho : o.length = n) (hm : markedS a o n) (d : Nat) : ∀ (k i : Nat), i + d = n → d + 30 < k →
    laws_heldStringS.l0 k o (a + (i : Int)) (i : Int) = some (a + (n : Int)) := by
  induction d with
  | zero =>
    intro k i hi hk
    obtain ⟨k, rfl⟩ : ∃ m, k = m + 1 := ⟨k - 1, by omega⟩
    obtain rfl : i = n := by omega
    simp only [laws_heldStringS.l0]
    rw [if_neg (by omega)]
  | succ d ih =>
    intro k i hi hk
    obtain ⟨k, rfl⟩ : ∃ m, k = m + 1 := ⟨k - 1, by omega⟩
    have hin : i < n := by omega
    have e : rdOf ByteArray.empty o (i : Int) = mt (a + (i : Int)) := hm i hin
    simp only [laws_heldStringS.l0]
    rw [if_pos (by omega), if_pos (by omega), markText_eq (by omega) (by omega) (by omega)]
    simp only [tbind]
    rw [e, if_pos rfl, w_up h0 ha hn hin, w_nat (n := n) hin (by omega)]
    exact ih k (i + 1) (by omega) (by omega)
def markG (a : Int) (j : Nat) : GT := ⟨mt (a + 2 * (j : Int)), a + 2 * (j : Int) + 1⟩
def markedG (a : Int) (l : List GT) (i : Nat) : Prop := ∀ j, j < i → l.getD j z61 = markG a j
theorem rdGD (l : List GT) (i : Nat) : rd_T61 l (i : Int) = l.getD i z61 := of_eq_true (eq_self _)
theorem markGroupS_l0 (n : Nat) (hn : n ≤ 2000000) (a : Int) (h0 : 0 ≤ a) (ha : a ≤ 100000000) (d : Nat) : ∀ (k i : Nat) (o : List GT), i + d = n → d + 30 < k → o.length = n → markedG a o i →
    ∃ o', laws_markGroupS.l0 k o (a + 2 * (i : Int)) (i : Int) = some (a + 2 * (n : Int), o') ∧ o'.length = n ∧ markedG a o' n := by
  induction d with
  | zero =>
    intro k i o hi hk ho hm
    obtain ⟨k, rfl⟩ : ∃ m, k = m + 1 := ⟨k - 1, by omega⟩
    obtain rfl : i = n := by omega
    simp only [laws_markGroupS.l0]
    rw [if_neg (by omega)]
    exact ⟨o, rfl, ho, hm⟩
  | succ d ih =>
    intro k i o hi hk ho hm
    obtain ⟨k, rfl⟩ : ∃ m, k = m + 1 := ⟨k - 1, by omega⟩
    have hin : i < n := by omega
    have hlt : i < o.length := by omega
    simp only [laws_markGroupS.l0]
    rw [if_pos (by omega), markText_eq (by omega) (by omega) (by omega)]
    simp only [tbind, tNat, rdGD]
    rw [if_pos (by omega)]
    have w1 : wrap64 (a + 2 * (i : Int) + 1) = a + 2 * (i : Int) + 1 := w_up1 h0 ha hn hin
    have w2 : wrap64 (a + 2 * (i : Int) + 1 + 1) = a + 2 * ((i + 1 : Nat) : Int) := w_up2 h0 ha hn hin
    have w3 : wrap64 ((i : Int) + 1) = ((i + 1 : Nat) : Int) := w_nat (n := n) hin (by omega)
    simp only [w1, w2, w3]
    clear w1 w2 w3
    refine ih k (i + 1) _ (by omega) (by omega) (by simpa using ho) (fun j hj => ?_)
    by_cases e : j = i
    · subst e
      rw [tset_self _ _ _ _ (by simpa using hlt), tset_self _ _ _ _ (by simpa using hlt)]
      rfl
    · rw [tset_ne _ _ _ _ _ (Ne.symm e), tset_ne _ _ _ _ _ (Ne.symm e)]
      exact hm j (by omega)
theorem heldGroupS_l0 (n : Nat) (hn : n ≤ 2000000) (a : Int) (h0 : 0 ≤ a) (ha : a ≤ 100000000) (o : List GT) (ho : o.length = n) (hm : markedG a o n) (d : Nat) : ∀ (k i : Nat), i + d = n → d + 30 < k →
    laws_heldGroupS.l0 k o (a + 2 * (i : Int)) (i : Int) = some (a + 2 * (n : Int)) := by
  induction d with
  | zero =>
    intro k i hi hk
    obtain ⟨k, rfl⟩ : ∃ m, k = m + 1 := ⟨k - 1, by omega⟩
    obtain rfl : i = n := by omega
    simp only [laws_heldGroupS.l0]
    rw [if_neg (by omega)]
  | succ d ih =>
    intro k i hi hk
    obtain ⟨k, rfl⟩ : ∃ m, k = m + 1 := ⟨k - 1, by omega⟩
    have hin : i < n := by omega
    have e : rd_T61 o (i : Int) = markG a i := hm i hin
    simp only [laws_heldGroupS.l0]
    rw [if_pos (by omega), if_pos (by omega), markText_eq (by omega) (by omega) (by omega)]
    have w1 : wrap64 (a + 2 * (i : Int) + 1) = a + 2 * (i : Int) + 1 := w_up1 h0 ha hn hin
    have w2 : wrap64 (a + 2 * (i : Int) + 1 + 1) = a + 2 * ((i + 1 : Nat) : Int) := w_up2 h0 ha hn hin
    have w3 : wrap64 ((i : Int) + 1) = ((i + 1 : Nat) : Int) := w_nat (n := n) hin (by omega)
    simp only [tbind, e, w1, w2, w3]
    clear w1 w2 w3
    rw [if_pos (by rfl), if_pos (by rfl)]
    exact ih k (i + 1) (by omega) (by omega)
theorem markStringS_eq {l : List ByteArray} {a : Int} (hl : l.length ≤ 2000000) (h0 : 0 ≤ a) (ha : a ≤ 100000000) {k : Nat} (hk : l.length + 30 < k) :
    ∃ o', laws_markStringS.f k l a = some (a + (l.length : Int), o') ∧ o'.length = l.length ∧ ∀ k', l.length + 30 < k' → laws_heldStringS.f k' o' a = some (a + (l.length : Int)) := by
  obtain ⟨o', h1, h2, h3⟩ := markStringS_l0 l.length hl a h0 ha l.length k 0 l (by omega) hk rfl (fun j hj => absurd hj (by omega))
  refine ⟨o', by unfold laws_markStringS.f; simpa using h1, h2, fun k' hk' => ?_⟩
  have := heldStringS_l0 l.length hl a h0 ha o' h2 h3 l.length k' 0 (by omega) hk'
  unfold laws_heldStringS.f
  simpa using this
theorem markGroupS_eq {l : List GT} {a : Int} (hl : l.length ≤ 2000000) (h0 : 0 ≤ a) (ha : a ≤ 100000000) {k : Nat} (hk : l.length + 30 < k) :
    ∃ o', laws_markGroupS.f k l a = some (a + 2 * (l.length : Int), o') ∧ o'.length = l.length ∧ ∀ k', l.length + 30 < k' → laws_heldGroupS.f k' o' a = some (a + 2 * (l.length : Int)) := by
  obtain ⟨o', h1, h2, h3⟩ := markGroupS_l0 l.length hl a h0 ha l.length k 0 l (by omega) hk rfl (fun j hj => absurd hj (by omega))
  refine ⟨o', by unfold laws_markGroupS.f; simpa using h1, h2, fun k' hk' => ?_⟩
  have := heldGroupS_l0 l.length hl a h0 ha o' h2 h3 l.length k' 0 (by omega) hk'
  unfold laws_heldGroupS.f
  simpa using this
end Go.Proofs.Ytcaildjhnkedfaa.Q
