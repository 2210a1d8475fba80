/- Marks over a broker's rows, of any size that a broker may have here: they end. -/
import Derived.Test.YtokgloeondfkiaaQx9
import Derived.Test.YtokgloeondfkiaaQx12
import Derived.Test.YtokgloeondfkiaaQPlMarkText
import Derived.Test.YtokgloeondfkiaaQPlBroker
namespace Go.Proofs.Ytokgloeondfkiaa.Q
open Go.RowKit Go.Proofs.YtokgloeondfkiaaW.PrintWords Go.Proofs.YtokgloeondfkiaaW.PrintLast Go.Proofs.Ytokgloeondfkiaa.HB
set_option linter.unusedVariables false
set_option linter.unusedSimpArgs false

theorem bbind {α β : Type} (a : α) (f : α → Option β) : (some a).bind f = f a := of_eq_true (eq_self _)
theorem markTextB {n : Int} (h0 : 0 ≤ n) (hn : n ≤ 9000000000000000000) {k : Nat} (hk : 30 ≤ k) : ∃ r, laws_markText.f k n = some r := by
  have h : ∃ r, laws_markText.f 30 n = some r := by
    unfold laws_markText.f
    split
    · exact ⟨_, rfl⟩
    · exact markText_l0 19 30 n _ h0 (by omega) (by have : (10 : Int) ^ 19 = 10000000000000000000 := by decide
                                                    omega) (by omega) (by decide)
  obtain ⟨r, hr⟩ := h
  exact ⟨r, at_rounds (fun k => laws_markText.mono n k) hk hr⟩
theorem markStrB_l0 (n : Nat) (hn : n ≤ 9000000000000000000) (d : Nat) : ∀ (k i : Nat) (m : Int) (o : List ByteArray), i + d = n → d + 30 < k → o.length = n → 0 ≤ m → m + (d : Int) ≤ 9000000000000000000 →
    ∃ o', laws_markStringS.l0 k o m (i : Int) = some (m + (d : Int), o') := by
  induction d with
  | zero =>
    intro k i m o hi hk ho h0 hm
    obtain ⟨k, rfl⟩ := k_succ hk
    simp only [laws_markStringS.l0]
    rw [if_neg (by omega)]
    exact ⟨o, by simp⟩
  | succ d ih =>
    intro k i m o hi hk ho h0 hm
    obtain ⟨k, rfl⟩ := k_succ hk
    obtain ⟨t, ht⟩ := markTextB (n := m) h0 (by omega) (k := k) (by omega)
    simp only [laws_markStringS.l0]
    rw [if_pos (by omega), ht, bbind, if_pos (by omega), w_id (by omega) (by omega), w_id (by omega) (by omega)]
    obtain ⟨o', h'⟩ := ih k (i + 1) (m + 1) (o.set (i : Int).toNat t) (by omega) (by omega) (by simpa using ho) (by omega) (by omega)
    refine ⟨o', ?_⟩
    rw [show (i : Int) + 1 = ((i + 1 : Nat) : Int) by omega, h', show m + 1 + (d : Int) = m + ((d + 1 : Nat) : Int) by omega]
theorem markStrB {l : List ByteArray} {m : Int} (h0 : 0 ≤ m) (hm : m + (l.length : Int) ≤ 9000000000000000000) {k : Nat} (hk : l.length + 30 < k) : ∃ o, laws_markStringS.f k l m = some (m + (l.length : Int), o) :=
  markStrB_l0 l.length (by omega) l.length k 0 m l (by omega) hk rfl h0 hm
theorem markGrpB_l0 (n : Nat) (hn : n ≤ 9000000000000000000) (d : Nat) : ∀ (k i : Nat) (m : Int) (o : List GT), i + d = n → d + 30 < k → o.length = n → 0 ≤ m → m + 2 * (d : Int) ≤ 9000000000000000000 →
    ∃ o', laws_markGroupS.l0 k o m (i : Int) = some (m + 2 * (d : Int), o') := by
  induction d with
  | zero =>
    intro k i m o hi hk ho h0 hm
    obtain ⟨k, rfl⟩ := k_succ hk
    simp only [laws_markGroupS.l0]
    rw [if_neg (by omega)]
    exact ⟨o, by simp⟩
  | succ d ih =>
    intro k i m o hi hk ho h0 hm
    obtain ⟨k, rfl⟩ := k_succ hk
    obtain ⟨t, ht⟩ := markTextB (n := m) h0 (by omega) (k := k) (by omega)
    simp only [laws_markGroupS.l0]
    rw [if_pos (by omega), ht, bbind, if_pos (by omega), bbind, w_id (by omega) (by omega), w_id (i := m + 1 + 1) (by omega) (by omega), w_id (i := (i : Int) + 1) (by omega) (by omega)]
    generalize hq : List.set _ _ _ = q
    have hql : q.length = n := by rw [← hq]; simpa using ho
    obtain ⟨o', h'⟩ := ih k (i + 1) (m + 1 + 1) q (by omega) (by omega) hql (by omega) (by omega)
    refine ⟨o', ?_⟩
    rw [show (i : Int) + 1 = ((i + 1 : Nat) : Int) by omega, h', show m + 1 + 1 + 2 * (d : Int) = m + 2 * ((d + 1 : Nat) : Int) by omega]
theorem markGrpB {l : List GT} {m : Int} (h0 : 0 ≤ m) (hm : m + 2 * (l.length : Int) ≤ 9000000000000000000) {k : Nat} (hk : l.length + 30 < k) : ∃ o, laws_markGroupS.f k l m = some (m + 2 * (l.length : Int), o) :=
  markGrpB_l0 l.length (by omega) l.length k 0 m l (by omega) hk rfl h0 hm
theorem rd_midB (a : List TI) (x : TI) (b : List TI) : rd_T30 (a ++ x :: b) (a.length : Int) = x := by
  show (a ++ x :: b).getD a.length _ = x
  rw [List.getD_eq_getElem?_getD, List.getElem?_append_right (Nat.le_refl _), Nat.sub_self]
  rfl
theorem set_midB {α : Type} (a : List α) (x y : α) (b : List α) : (a ++ x :: b).set a.length y = (a ++ [y]) ++ b := by
  rw [List.set_append_right _ _ (Nat.le_refl _), Nat.sub_self, List.set_cons_zero, List.append_assoc]
  rfl
theorem bwrap {n : Int} (h0 : 0 ≤ n) (h1 : n ≤ 9000000000000000000) : wrap64 (n + 1) = n + 1 := w_id (by omega) (by omega)
theorem markTopicsB (B : Nat) : ∀ (rest done : List TI) (m : Int) (k : Nat), 0 ≤ m → m + (rest.length : Int) * (3 * (B : Int) + 3) ≤ 9000000000000000000 → done.length + rest.length ≤ 9000000000000000000 → (∀ p ∈ rest, p.f2.length ≤ B ∧ p.f3.length ≤ B) → rest.length + B + 40 < k →
    ∃ m' o, laws_markTopicS.l0 k (done ++ rest) m (done.length : Int) = some (m', o) ∧ m ≤ m' ∧ m' ≤ m + (rest.length : Int) * (3 * (B : Int) + 3)
  | [], done, m, k, h0, h1, hn, hb, hk => by
    obtain ⟨k, rfl⟩ : ∃ q, k = q + 1 := ⟨k - 1, by omega⟩
    refine ⟨m, done ++ [], ?_, Int.le_refl _, by simp⟩
    simp only [laws_markTopicS.l0]
    rw [if_neg (by simp)]
  | p :: rest, done, m, k, h0, h1, hn, hb, hk => by
    obtain ⟨k, rfl⟩ : ∃ q, k = q + 1 := ⟨k - 1, by omega⟩
    simp only [List.length_cons] at h1 hn hk
    obtain ⟨hp, hp'⟩ := hb p (List.mem_cons_self ..)
    have e1 : ((rest.length + 1 : Nat) : Int) * (3 * (B : Int) + 3) = (rest.length : Int) * (3 * (B : Int) + 3) + (3 * (B : Int) + 3) := by rw [Int.natCast_add, Int.add_mul]; simp
    rw [e1] at h1
    have e2 : 0 ≤ (rest.length : Int) * (3 * (B : Int) + 3) := Int.mul_nonneg (by omega) (by omega)
    obtain ⟨t, ht⟩ := markTextB (n := m) (by omega) (by omega) (k := k) (by omega)
    obtain ⟨o, q1⟩ := markStrB (l := p.f2) (m := m + 1 + 1) (by omega) (by omega) (k := k) (by omega)
    obtain ⟨o2, q2⟩ := markGrpB (l := p.f3) (m := m + 1 + 1 + (p.f2.length : Int)) (by omega) (by omega) (k := k) (by omega)
    obtain ⟨m', o', r1, r2, r3⟩ := markTopicsB B rest (done ++ [(⟨t, m + 1, o, o2⟩ : TI)]) (m + 1 + 1 + (p.f2.length : Int) + 2 * (p.f3.length : Int)) k (by omega) (by omega) (by simp; omega) (fun x hx => hb x (List.mem_cons_of_mem _ hx)) (by omega)
    refine ⟨m', o', ?_, by omega, by simp only [List.length_cons]; rw [e1]; omega⟩
    simp only [laws_markTopicS.l0]
    rw [if_pos (by simp; omega), if_pos (by omega), rd_midB, bwrap (n := m) (by omega) (by omega), bwrap (n := m + 1) (by omega) (by omega), ht, bbind, q1, bbind, q2, bbind, Int.toNat_natCast, set_midB, bwrap (n := (done.length : Int)) (by omega) (by omega)]
    have e := r1
    simp only [List.append_assoc, List.singleton_append, List.length_append, List.length_singleton] at e
    simp only [List.append_assoc, List.singleton_append]
    exact e
theorem markRepB_l0 (n : Nat) (hn : n ≤ 9000000000000000000) (d : Nat) : ∀ (k i : Nat) (m : Int) (o : List RI), i + d = n → d + 30 < k → o.length = n → 0 ≤ m → m + 3 * (d : Int) ≤ 9000000000000000000 →
    ∃ o', laws_markReplyS.l0 k o m (i : Int) = some (m + 3 * (d : Int), o') := by
  induction d with
  | zero =>
    intro k i m o hi hk ho h0 hm
    obtain ⟨k, rfl⟩ := k_succ hk
    simp only [laws_markReplyS.l0]
    rw [if_neg (by omega)]
    exact ⟨o, by simp⟩
  | succ d ih =>
    intro k i m o hi hk ho h0 hm
    obtain ⟨k, rfl⟩ := k_succ hk
    obtain ⟨t, ht⟩ := markTextB (n := m + 1 + 1) (by omega) (by omega) (k := k) (by omega)
    simp only [laws_markReplyS.l0]
    rw [if_pos (by omega), if_pos (by omega), bbind, bbind, bwrap (n := m) (by omega) (by omega), bwrap (n := m + 1) (by omega) (by omega), bwrap (n := m + 1 + 1) (by omega) (by omega), ht, bbind, bwrap (n := (i : Int)) (by omega) (by omega)]
    generalize hq : List.set _ _ _ = q
    have hql : q.length = n := by rw [← hq]; simpa using ho
    obtain ⟨o', h'⟩ := ih k (i + 1) (m + 1 + 1 + 1) q (by omega) (by omega) hql (by omega) (by omega)
    refine ⟨o', ?_⟩
    rw [show (i : Int) + 1 = ((i + 1 : Nat) : Int) by omega, h', show m + 1 + 1 + 1 + 3 * (d : Int) = m + 3 * ((d + 1 : Nat) : Int) by omega]
theorem markBroker_ok {l : List TI} {r : List RI} {B : Nat} (hB : B ≤ 1048576) (hl : l.length ≤ 1048576) (hr : r.length ≤ 1048576) (hb : ∀ p ∈ l, p.f2.length ≤ B ∧ p.f3.length ≤ B) {k : Nat} (hk : l.length + r.length + B + 40 < k) :
    ∃ m o1 o2, laws_markBroker.f k l r 1 = some (m, o1, o2) ∧ 0 ≤ m := by
  have hp : (l.length : Int) * (3 * (B : Int) + 3) ≤ 1048576 * (3 * (B : Int) + 3) := Int.mul_le_mul_of_nonneg_right (by omega) (by omega)
  obtain ⟨m, o, h1, h2, h3⟩ := markTopicsB B l [] 1 k (by omega) (by omega) (by simp; omega) hb (by omega)
  obtain ⟨o', h4⟩ := markRepB_l0 r.length (by omega) r.length k 0 m r (by omega) (by omega) rfl (by omega) (by omega)
  refine ⟨m + 3 * (r.length : Int), o, o', ?_, by omega⟩
  unfold laws_markBroker.f laws_markTopicS.f laws_markReplyS.f
  have h1' : laws_markTopicS.l0 k l 1 0 = some (m, o) := h1
  have h4' : laws_markReplyS.l0 k r m 0 = some (m + 3 * (r.length : Int), o') := h4
  rw [h1', bbind, h4', bbind]
end Go.Proofs.Ytokgloeondfkiaa.Q
