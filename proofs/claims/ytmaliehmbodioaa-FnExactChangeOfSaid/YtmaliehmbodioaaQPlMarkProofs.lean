/- Marks over a row of proofs: what markProofS writes is what heldProofS finds. -/
import Derived.Test.YtmaliehmbodioaaQx7
import Derived.Test.YtmaliehmbodioaaQx8
import Derived.Test.YtmaliehmbodioaaQPlMarkText
import Derived.Test.YtmaliehmbodioaaQPlLoops
namespace Go.Proofs.Ytmaliehmbodioaa.Q
open Go.RowKit Go.Proofs.YtmaliehmbodioaaW.PrintWords Go.Proofs.YtmaliehmbodioaaW.PrintLast Go.Proofs.Ytmaliehmbodioaa.HB
set_option linter.unusedVariables false
set_option linter.unusedSimpArgs false

abbrev PM := S72
theorem pbind {α β : Type} (a : α) (f : α → Option β) : (some a).bind f = f a := of_eq_true (eq_self _)
def markedA (m : Int) (l : List Int) (i : Nat) : Prop := ∀ j, j < i → l.getD j 0 = m + (j : Int)
theorem markIntA_l0 (m : Int) (h0 : 0 ≤ m) (hm1 : m ≤ 100000000) (n : Nat) (hn : n ≤ 2000000) (d : Nat) : ∀ (k i : Nat) (o : List Int), i + d = n → d < k → o.length = n → markedA m o i →
    ∃ o', laws_markInt64S.l0 k o (m + (i : Int)) (i : Int) = some (m + (n : Int), o') ∧ o'.length = n ∧ markedA m o' n := by
  induction d with
  | zero =>
    intro k i o hi hk ho hm
    obtain ⟨k, rfl⟩ := k_succ hk
    obtain rfl : i = n := by omega
    simp only [laws_markInt64S.l0]
    rw [if_neg (by omega)]
    exact ⟨o, rfl, ho, hm⟩
  | succ d ih =>
    intro k i o hi hk ho hm
    obtain ⟨k, rfl⟩ := k_succ hk
    simp only [laws_markInt64S.l0]
    rw [if_pos (by omega), if_pos (by omega), w_id (by omega) (by omega), w_id (by omega) (by omega), Int.toNat_natCast]
    have := ih k (i + 1) (o.set i (m + (i : Int))) (by omega) (by omega) (by simpa using ho) (fun j hj => by
      by_cases e : j = i
      · subst e
        simp [List.getD, show j < o.length by omega]
      · have := hm j (by omega)
        simp only [List.getD_eq_getElem?_getD] at this ⊢
        rw [List.getElem?_set_ne (by omega)]
        exact this)
    have e : (m + (i : Int) + 1) = m + ((i + 1 : Nat) : Int) := by omega
    have e2 : ((i : Int) + 1) = ((i + 1 : Nat) : Int) := by omega
    rw [e, e2]
    exact this
theorem heldIntA_l0 (m : Int) (h0 : 0 ≤ m) (hm1 : m ≤ 100000000) (n : Nat) (hn : n ≤ 2000000) (o : List Int) (ho : o.length = n) (hm : markedA m o n) (d : Nat) : ∀ (k i : Nat), i + d = n → d < k →
    laws_heldInt64S.l0 k o (m + (i : Int)) (i : Int) = some (m + (n : Int)) := by
  induction d with
  | zero =>
    intro k i hi hk
    obtain ⟨k, rfl⟩ := k_succ hk
    obtain rfl : i = n := by omega
    simp only [laws_heldInt64S.l0]
    rw [if_neg (by omega)]
  | succ d ih =>
    intro k i hi hk
    obtain ⟨k, rfl⟩ := k_succ hk
    have hv := hm i (by omega)
    simp only [laws_heldInt64S.l0]
    rw [if_pos (by omega), if_pos (by omega)]
    have e0 : rd o (i : Int) = m + (i : Int) := by show o.getD (i : Int).toNat 0 = _; rw [Int.toNat_natCast]; exact hv
    rw [if_pos e0, w_id (by omega) (by omega), w_id (by omega) (by omega)]
    have e : (m + (i : Int) + 1) = m + ((i + 1 : Nat) : Int) := by omega
    have e2 : ((i : Int) + 1) = ((i + 1 : Nat) : Int) := by omega
    rw [e, e2]
    exact ih k (i + 1) (by omega) (by omega)
theorem markIntA {l : List Int} {m : Int} (h0 : 0 ≤ m) (hm : m ≤ 100000000) (hl : l.length ≤ 2000000) {k : Nat} (hk : l.length < k) :
    ∃ o', laws_markInt64S.f k l m = some (m + (l.length : Int), o') ∧ o'.length = l.length ∧ ∀ k', l.length < k' → laws_heldInt64S.f k' o' m = some (m + (l.length : Int)) := by
  obtain ⟨o', h1, h2, h3⟩ := markIntA_l0 m h0 hm l.length hl l.length k 0 l (by omega) hk rfl (fun j hj => absurd hj (by omega))
  refine ⟨o', by unfold laws_markInt64S.f; simpa using h1, h2, fun k' hk' => ?_⟩
  have := heldIntA_l0 m h0 hm l.length hl o' h2 h3 l.length k' 0 (by omega) hk'
  unfold laws_heldInt64S.f
  simpa using this
theorem rdP (l : List PM) (i : Nat) : rd_T72 l (i : Int) = l.getD i z72 := of_eq_true (eq_self _)
theorem rd_mid (a : List PM) (x : PM) (b : List PM) : rd_T72 (a ++ x :: b) (a.length : Int) = x := by
  rw [rdP, List.getD_eq_getElem?_getD, List.getElem?_append_right (Nat.le_refl _), Nat.sub_self]
  rfl
theorem set_mid (a : List PM) (x y : PM) (b : List PM) : (a ++ x :: b).set a.length y = (a ++ [y]) ++ b := by
  rw [List.set_append_right _ _ (Nat.le_refl _), Nat.sub_self, List.set_cons_zero, List.append_assoc]
  rfl
theorem pwrap {n : Int} (h0 : 0 ≤ n) (h1 : n ≤ 1000000000) : wrap64 (n + 1) = n + 1 := w_id (by omega) (by omega)
theorem markProofs : ∀ (rest done : List PM) (m : Int) (k : Nat), 0 ≤ m → m + 20 * (rest.length : Int) ≤ 100000 → done.length + rest.length ≤ 1000 → (∀ p ∈ rest, p.f3.length ≤ 16) → rest.length + 40 < k →
    ∃ m' rest', laws_markProofS.l0 k (done ++ rest) m (done.length : Int) = some (m', done ++ rest') ∧ rest'.length = rest.length ∧ m ≤ m' ∧ m' ≤ m + 20 * (rest.length : Int) ∧
      ∀ (done2 : List PM) (k2 : Nat), done2.length = done.length → rest.length + 40 < k2 → laws_heldProofS.l0 k2 (done2 ++ rest') m (done2.length : Int) = some m'
  | [], done, m, k, h0, h1, hn, hb, hk => by
    obtain ⟨k, rfl⟩ : ∃ q, k = q + 1 := ⟨k - 1, by omega⟩
    refine ⟨m, [], ?_, rfl, Int.le_refl _, by simp, fun done2 k2 h2 hk2 => ?_⟩
    · simp only [laws_markProofS.l0]
      rw [if_neg (by simp)]
    · obtain ⟨k2, rfl⟩ : ∃ q, k2 = q + 1 := ⟨k2 - 1, by omega⟩
      simp only [laws_heldProofS.l0]
      rw [if_neg (by simp)]
  | p :: rest, done, m, k, h0, h1, hn, hb, hk => by
    obtain ⟨k, rfl⟩ : ∃ q, k = q + 1 := ⟨k - 1, by omega⟩
    simp only [List.length_cons] at h1 hn hk
    have hp := hb p (List.mem_cons_self ..)
    obtain ⟨o, q1, q2, q3⟩ := markIntA (l := p.f3) (m := m + 1 + 1 + 1) (by omega) (by omega) (by omega) (k := k) (by omega)
    obtain ⟨m', rest', r1, r2, r3, r4, r5⟩ := markProofs rest (done ++ [(⟨m, m + 1, mt (m + 1 + 1), o⟩ : PM)]) (m + 1 + 1 + 1 + (p.f3.length : Int)) k (by omega) (by omega) (by simp; omega) (fun x hx => hb x (List.mem_cons_of_mem _ hx)) (by omega)
    have w1 := pwrap (n := m) (by omega) (by omega)
    have w2 := pwrap (n := m + 1) (by omega) (by omega)
    have w3 := pwrap (n := m + 1 + 1) (by omega) (by omega)
    have w4 : ∀ d : List PM, d.length = done.length → wrap64 ((d.length : Int) + 1) = ((d.length + 1 : Nat) : Int) := fun d hd => by rw [w_id (by omega) (by omega)]; omega
    refine ⟨m', (⟨m, m + 1, mt (m + 1 + 1), o⟩ : PM) :: rest', ?_, by simp [r2], by omega, by simp only [List.length_cons]; omega, fun done2 k2 h2 hk2 => ?_⟩
    · simp only [laws_markProofS.l0]
      rw [if_pos (by simp; omega), if_pos (by omega), rd_mid, w1, w2, w3, markText_eq (by omega) (by omega) (by omega), pbind, q1, pbind, Int.toNat_natCast, set_mid, w4 done rfl]
      have e := r1
      simp only [List.append_assoc, List.singleton_append, List.length_append, List.length_singleton] at e
      simp only [List.append_assoc, List.singleton_append]
      exact e
    · simp only [List.length_cons] at hk2
      obtain ⟨k2, rfl⟩ : ∃ q, k2 = q + 1 := ⟨k2 - 1, by omega⟩
      simp only [laws_heldProofS.l0]
      rw [if_pos (by simp; omega), if_pos (by omega), rd_mid, w1, w2, w3, if_pos rfl, if_pos rfl, markText_eq (by omega) (by omega) (by omega), pbind, if_pos rfl, q3 k2 (by omega), pbind, if_neg (by omega), w4 done2 h2]
      have e := r5 (done2 ++ [(⟨m, m + 1, mt (m + 1 + 1), o⟩ : PM)]) k2 (by simp [h2]) (by omega)
      simp only [List.append_assoc, List.singleton_append, List.length_append, List.length_singleton] at e
      exact e
theorem markProofS_1 {l : List PM} (hl : l.length ≤ 1000) (hb : ∀ p ∈ l, p.f3.length ≤ 16) {k : Nat} (hk : l.length + 40 < k) (a b : Int) :
    ∃ m o, laws_markProofS.f k l 1 = some (m, o) ∧ 0 ≤ m ∧ laws_heldChange.f k a b o 1 = some m := by
  obtain ⟨m, o, h1, h2, h3, h4, h5⟩ := markProofs l [] 1 k (by omega) (by omega) (by simpa using hl) hb hk
  refine ⟨m, o, h1, by omega, ?_⟩
  unfold laws_heldChange.f laws_heldProofS.f
  rw [show laws_heldProofS.l0 k o 1 0 = some m from h5 [] k rfl hk, pbind, if_neg (by omega)]

end Go.Proofs.Ytmaliehmbodioaa.Q
