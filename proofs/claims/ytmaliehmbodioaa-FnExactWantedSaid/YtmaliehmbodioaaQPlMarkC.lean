/- Marks over rows of changes of any size: they answer a number that is not negative. -/
import Derived.Test.YtmaliehmbodioaaQx7
import Derived.Test.YtmaliehmbodioaaQPlMarkText
import Derived.Test.YtmaliehmbodioaaQPlChanges
namespace Go.Proofs.Ytmaliehmbodioaa.Q
open Go.RowKit Go.Proofs.YtmaliehmbodioaaW.PrintWords Go.Proofs.YtmaliehmbodioaaW.PrintLast Go.Proofs.Ytmaliehmbodioaa.HB
set_option linter.unusedVariables false
set_option linter.unusedSimpArgs false

abbrev PM := S72
abbrev CM := S26
theorem gbind {α β : Type} (a : α) (f : α → Option β) : (some a).bind f = f a := of_eq_true (eq_self _)
theorem markTextG {n : Int} (h0 : 0 ≤ n) (hn : n ≤ 9000000000000000000) {k : Nat} (hk : 30 ≤ k) : ∃ r, laws_markText.f k n = some r := by
  have h : ∃ r, laws_markText.f 30 n = some r := by
    unfold laws_markText.f
    split
    · exact ⟨_, rfl⟩
    · exact markText_l0 19 30 n _ h0 (by omega) (by have : (10 : Int) ^ 19 = 10000000000000000000 := by decide
                                                    omega) (by omega) (by decide)
  obtain ⟨r, hr⟩ := h
  exact ⟨r, at_rounds (fun k => laws_markText.mono n k) hk hr⟩
theorem markIntG_l0 (n : Nat) (hn : n ≤ 9000000000000000000) (d : Nat) : ∀ (k i : Nat) (m : Int) (o : List Int), i + d = n → d < k → o.length = n → 0 ≤ m → m + (d : Int) ≤ 9000000000000000000 →
    ∃ o', laws_markInt64S.l0 k o m (i : Int) = some (m + (d : Int), o') := by
  induction d with
  | zero =>
    intro k i m o hi hk ho h0 hm
    obtain ⟨k, rfl⟩ := k_succ hk
    simp only [laws_markInt64S.l0]
    rw [if_neg (by omega)]
    exact ⟨o, by simp⟩
  | succ d ih =>
    intro k i m o hi hk ho h0 hm
    obtain ⟨k, rfl⟩ := k_succ hk
    simp only [laws_markInt64S.l0]
    rw [if_pos (by omega), if_pos (by omega), w_id (by omega) (by omega), w_id (by omega) (by omega)]
    obtain ⟨o', h'⟩ := ih k (i + 1) (m + 1) (o.set (i : Int).toNat m) (by omega) (by omega) (by simpa using ho) (by omega) (by omega)
    refine ⟨o', ?_⟩
    rw [show (i : Int) + 1 = ((i + 1 : Nat) : Int) by omega, h', show m + 1 + (d : Int) = m + ((d + 1 : Nat) : Int) by omega]
theorem markIntG {l : List Int} {m : Int} (h0 : 0 ≤ m) (hm : m + (l.length : Int) ≤ 9000000000000000000) {k : Nat} (hk : l.length < k) : ∃ o, laws_markInt64S.f k l m = some (m + (l.length : Int), o) :=
  markIntG_l0 l.length (by omega) l.length k 0 m l (by omega) hk rfl h0 hm
theorem rd_midP (a : List PM) (x : PM) (b : List PM) : rd_T72 (a ++ x :: b) (a.length : Int) = x := by
  show (a ++ x :: b).getD a.length _ = x
  rw [List.getD_eq_getElem?_getD, List.getElem?_append_right (Nat.le_refl _), Nat.sub_self]
  rfl
theorem rd_midC (a : List CM) (x : CM) (b : List CM) : rd_T26 (a ++ x :: b) (a.length : Int) = x := by
  show (a ++ x :: b).getD a.length _ = x
  rw [List.getD_eq_getElem?_getD, List.getElem?_append_right (Nat.le_refl _), Nat.sub_self]
  rfl
theorem set_midG {α : Type} (a : List α) (x y : α) (b : List α) : (a ++ x :: b).set a.length y = (a ++ [y]) ++ b := by
  rw [List.set_append_right _ _ (Nat.le_refl _), Nat.sub_self, List.set_cons_zero, List.append_assoc]
  rfl
theorem gwrap {n : Int} (h0 : 0 ≤ n) (h1 : n ≤ 9000000000000000000) : wrap64 (n + 1) = n + 1 := w_id (by omega) (by omega)
theorem markProofsG (B : Nat) : ∀ (rest done : List PM) (m : Int) (k : Nat), 0 ≤ m → m + (rest.length : Int) * ((B : Int) + 3) ≤ 9000000000000000000 → done.length + rest.length ≤ 9000000000000000000 → (∀ p ∈ rest, p.f3.length ≤ B) → rest.length + B + 40 < k →
    ∃ m' o, laws_markProofS.l0 k (done ++ rest) m (done.length : Int) = some (m', o) ∧ m ≤ m' ∧ m' ≤ m + (rest.length : Int) * ((B : Int) + 3)
  | [], done, m, k, h0, h1, hn, hb, hk => by
    obtain ⟨k, rfl⟩ : ∃ q, k = q + 1 := ⟨k - 1, by omega⟩
    refine ⟨m, done ++ [], ?_, Int.le_refl _, by simp⟩
    simp only [laws_markProofS.l0]
    rw [if_neg (by simp)]
  | p :: rest, done, m, k, h0, h1, hn, hb, hk => by
    obtain ⟨k, rfl⟩ : ∃ q, k = q + 1 := ⟨k - 1, by omega⟩
    simp only [List.length_cons] at h1 hn hk
    have hp := hb p (List.mem_cons_self ..)
    have e1 : ((rest.length + 1 : Nat) : Int) * ((B : Int) + 3) = (rest.length : Int) * ((B : Int) + 3) + ((B : Int) + 3) := by rw [Int.natCast_add, Int.add_mul]; simp
    rw [e1] at h1
    have e2 : 0 ≤ (rest.length : Int) * ((B : Int) + 3) := Int.mul_nonneg (by omega) (by omega)
    obtain ⟨t, ht⟩ := markTextG (n := m + 1 + 1) (by omega) (by omega) (k := k) (by omega)
    obtain ⟨o, q1⟩ := markIntG (l := p.f3) (m := m + 1 + 1 + 1) (by omega) (by omega) (k := k) (by omega)
    obtain ⟨m', o', r1, r2, r3⟩ := markProofsG B rest (done ++ [(⟨m, m + 1, t, o⟩ : PM)]) (m + 1 + 1 + 1 + (p.f3.length : Int)) k (by omega) (by omega) (by simp; omega) (fun x hx => hb x (List.mem_cons_of_mem _ hx)) (by omega)
    refine ⟨m', o', ?_, by omega, by simp only [List.length_cons]; rw [e1]; omega⟩
    simp only [laws_markProofS.l0]
    rw [if_pos (by simp; omega), if_pos (by omega), rd_midP, gwrap (n := m) (by omega) (by omega), gwrap (n := m + 1) (by omega) (by omega), gwrap (n := m + 1 + 1) (by omega) (by omega), ht, gbind, q1, gbind, Int.toNat_natCast, set_midG, gwrap (n := (done.length : Int)) (by omega) (by omega)]
    have e := r1
    simp only [List.append_assoc, List.singleton_append, List.length_append, List.length_singleton] at e
    simp only [List.append_assoc, List.singleton_append]
    exact e
theorem markProofG (B : Nat) {l : List PM} {m : Int} (h0 : 0 ≤ m) (h1 : m + (l.length : Int) * ((B : Int) + 3) ≤ 9000000000000000000) (hn : l.length ≤ 9000000000000000000) (hb : ∀ p ∈ l, p.f3.length ≤ B) {k : Nat} (hk : l.length + B + 40 < k) :
    ∃ m' o, laws_markProofS.f k l m = some (m', o) ∧ m ≤ m' ∧ m' ≤ m + (l.length : Int) * ((B : Int) + 3) := markProofsG B l [] m k h0 h1 (by simpa using hn) hb hk
/-- Every change has at most Z marks. -/
theorem markChangesG {M : Nat} (hM : M ≤ 3000000) : ∀ (rest done : List CM) (m : Int) (k : Nat), 0 ≤ m → m + (rest.length : Int) * 4500000000002 ≤ 9000000000000000000 → done.length + rest.length ≤ 9000000000000000000 → (∀ c ∈ rest, c.f2.length + byMax c.f2 + 4 ≤ M) → rest.length + M + 50 < k →
    ∃ m' o, laws_markChangeS.l0 k (done ++ rest) m (done.length : Int) = some (m', o) ∧ m ≤ m'
  | [], done, m, k, h0, h1, hn, hb, hk => by
    obtain ⟨k, rfl⟩ : ∃ q, k = q + 1 := ⟨k - 1, by omega⟩
    refine ⟨m, done ++ [], ?_, Int.le_refl _⟩
    simp only [laws_markChangeS.l0]
    rw [if_neg (by simp)]
  | c :: rest, done, m, k, h0, h1, hn, hb, hk => by
    obtain ⟨k, rfl⟩ : ∃ q, k = q + 1 := ⟨k - 1, by omega⟩
    simp only [List.length_cons] at h1 hn hk
    have hc := hb c (List.mem_cons_self ..)
    obtain ⟨B, hB⟩ : ∃ B, B = byMax c.f2 := ⟨_, rfl⟩
    have hp : ∀ p ∈ c.f2, p.f3.length ≤ B := fun p hp => by rw [hB]; exact le_sup (fun p : PI => p.f3.length) hp
    rw [← hB] at hc
    have hz : c.f2.length * (B + 3) ≤ 4500000000000 := by
      by_cases h : c.f2.length ≤ 1500000
      · exact Nat.le_trans (Nat.mul_le_mul h (show B + 3 ≤ 3000000 by omega)) (by decide)
      · exact Nat.le_trans (Nat.mul_le_mul (show c.f2.length ≤ 3000000 by omega) (show B + 3 ≤ 1500000 by omega)) (by decide)
    have e1 : (c.f2.length : Int) * ((B : Int) + 3) ≤ 4500000000000 := by
      have h3 : ((c.f2.length * (B + 3) : Nat) : Int) = (c.f2.length : Int) * ((B : Int) + 3) := by rw [Int.natCast_mul]; rfl
      omega
    obtain ⟨m2, o2, q1, q2, q3⟩ := markProofG B (l := c.f2) (m := m + 1 + 1) (by omega) (by omega) (by omega) hp (k := k) (by omega)
    obtain ⟨m', o', r1, r2⟩ := markChangesG hM rest (done ++ [(⟨m, m + 1, o2⟩ : CM)]) m2 k (by omega) (by omega) (by simp; omega) (fun x hx => hb x (List.mem_cons_of_mem _ hx)) (by omega)
    refine ⟨m', o', ?_, by omega⟩
    simp only [laws_markChangeS.l0]
    rw [if_pos (by simp; omega), if_pos (by omega), rd_midC, gwrap (n := m) (by omega) (by omega), gwrap (n := m + 1) (by omega) (by omega), q1, gbind, Int.toNat_natCast, set_midG, gwrap (n := (done.length : Int)) (by omega) (by omega)]
    have e := r1
    simp only [List.append_assoc, List.singleton_append, List.length_append, List.length_singleton] at e
    simp only [List.append_assoc, List.singleton_append]
    exact e
theorem markChangeG {l : List CM} (hM : mI l ≤ 3000000) (hl : l.length ≤ 1048576) {k : Nat} (hk : l.length + mI l + 50 < k) : ∃ m o, laws_markChangeS.f k l 1 = some (m, o) ∧ 0 ≤ m := by
  obtain ⟨m, o, h1, h2⟩ := markChangesG hM l [] 1 k (by omega) (by omega) (by simp; omega) (fun c hc => le_sup (fun c : CI => c.f2.length + byMax c.f2 + 4) hc) hk
  exact ⟨m, o, h1, by omega⟩

end Go.Proofs.Ytmaliehmbodioaa.Q
