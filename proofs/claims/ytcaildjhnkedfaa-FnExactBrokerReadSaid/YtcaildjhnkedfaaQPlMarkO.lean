/- Marks over a result with a broker: what markBrokerOut writes is what heldBrokerOut finds, for brokers of a right size. -/
import Derived.Test.YtcaildjhnkedfaaQx13
import Derived.Test.YtcaildjhnkedfaaQx14
import Derived.Test.YtcaildjhnkedfaaQx15
import Derived.Test.YtcaildjhnkedfaaQPlTopicRows
import Derived.Test.YtcaildjhnkedfaaQPlBrokerR
namespace Go.Proofs.Ytcaildjhnkedfaa.Q
open Go.RowKit Go.Proofs.YtcaildjhnkedfaaW.PrintWords Go.Proofs.YtcaildjhnkedfaaW.PrintLast Go.Proofs.Ytcaildjhnkedfaa.HB
set_option linter.unusedVariables false
set_option linter.unusedSimpArgs false

theorem rd_midO (a : List TI) (x : TI) (b : List TI) : rd_T44 (a ++ x :: b) (a.length : Int) = x := by
  show (a ++ x :: b).getD a.length _ = x
  rw [List.getD_eq_getElem?_getD, List.getElem?_append_right (Nat.le_refl _), Nat.sub_self]
  rfl
theorem rd_midQ (a : List RI) (x : RI) (b : List RI) : rd_T48 (a ++ x :: b) (a.length : Int) = x := by
  show (a ++ x :: b).getD a.length _ = x
  rw [List.getD_eq_getElem?_getD, List.getElem?_append_right (Nat.le_refl _), Nat.sub_self]
  rfl
theorem set_midO {α : Type} (a : List α) (x y : α) (b : List α) : (a ++ x :: b).set a.length y = a ++ y :: b := by
  rw [List.set_append_right _ _ (Nat.le_refl _), Nat.sub_self, List.set_cons_zero]
theorem owrap {n : Int} (h0 : 0 ≤ n) (h1 : n ≤ 1000000000) : wrap64 (n + 1) = n + 1 := w_id (by omega) (by omega)
theorem markTopicsO : ∀ (rest done : List TI) (m : Int) (k : Nat), 0 ≤ m → m + 40 * (rest.length : Int) ≤ 100000 → done.length + rest.length ≤ 1000 → (∀ p ∈ rest, p.f2.length ≤ 20 ∧ p.f3.length ≤ 4) → rest.length + 80 < k →
    ∃ m' rest', laws_markTopicS.l0 k (done ++ rest) m (done.length : Int) = some (m', done ++ rest') ∧ rest'.length = rest.length ∧ m ≤ m' ∧ m' ≤ m + 40 * (rest.length : Int) ∧
      ∀ (done2 : List TI) (k2 : Nat), done2.length = done.length → rest.length + 80 < k2 → laws_heldTopicS.l0 k2 (done2 ++ rest') m (done2.length : Int) = some m'
  | [], done, m, k, h0, h1, hn, hb, hk => by
    obtain ⟨k, rfl⟩ : ∃ q, k = q + 1 := ⟨k - 1, by omega⟩
    refine ⟨m, [], ?_, rfl, Int.le_refl _, by simp, fun done2 k2 h2 hk2 => ?_⟩
    · simp only [laws_markTopicS.l0]
      rw [if_neg (by simp)]
    · obtain ⟨k2, rfl⟩ : ∃ q, k2 = q + 1 := ⟨k2 - 1, by omega⟩
      simp only [laws_heldTopicS.l0]
      rw [if_neg (by simp)]
  | p :: rest, done, m, k, h0, h1, hn, hb, hk => by
    obtain ⟨k, rfl⟩ : ∃ q, k = q + 1 := ⟨k - 1, by omega⟩
    simp only [List.length_cons] at h1 hn hk
    obtain ⟨hp, hp'⟩ := hb p (List.mem_cons_self ..)
    obtain ⟨o, q1, q2, q3⟩ := markStringS_eq (l := p.f2) (a := m + 1 + 1) (by omega) (by omega) (by omega) (k := k) (by omega)
    obtain ⟨o2, s1, s2, s3⟩ := markGroupS_eq (l := p.f3) (a := m + 1 + 1 + (p.f2.length : Int)) (by omega) (by omega) (by omega) (k := k) (by omega)
    obtain ⟨m', rest', r1, r2, r3, r4, r5⟩ := markTopicsO rest (done ++ [(⟨mt m, m + 1, o, o2⟩ : TI)]) (m + 1 + 1 + (p.f2.length : Int) + 2 * (p.f3.length : Int)) k (by omega) (by omega) (by simp; omega) (fun x hx => hb x (List.mem_cons_of_mem _ hx)) (by omega)
    have w1 := owrap (n := m) (by omega) (by omega)
    have w2 := owrap (n := m + 1) (by omega) (by omega)
    have w4 : ∀ d : List TI, d.length = done.length → wrap64 ((d.length : Int) + 1) = ((d.length + 1 : Nat) : Int) := fun d hd => by rw [w_id (by omega) (by omega)]; omega
    refine ⟨m', (⟨mt m, m + 1, o, o2⟩ : TI) :: rest', ?_, by simp [r2], by omega, by simp only [List.length_cons]; omega, fun done2 k2 h2 hk2 => ?_⟩
    · simp only [laws_markTopicS.l0]
      rw [if_pos (by simp; omega), if_pos (by omega), rd_midO, w1, w2, markText_eq (by omega) (by omega) (by omega), tbind, q1, tbind, s1, tbind, Int.toNat_natCast, set_midO, w4 done rfl]
      have e := r1
      simp only [List.append_assoc, List.singleton_append, List.length_append, List.length_singleton] at e
      exact e
    · simp only [List.length_cons] at hk2
      obtain ⟨k2, rfl⟩ : ∃ q, k2 = q + 1 := ⟨k2 - 1, by omega⟩
      simp only [laws_heldTopicS.l0]
      rw [if_pos (by simp; omega), if_pos (by omega), rd_midO, w1, w2, markText_eq (by omega) (by omega) (by omega), tbind, if_pos rfl, if_pos rfl, q3 k2 (by omega), tbind, if_neg (by omega), s3 k2 (by omega), tbind, if_neg (by omega), w4 done2 h2]
      have e := r5 (done2 ++ [(⟨mt m, m + 1, o, o2⟩ : TI)]) k2 (by simp [h2]) (by omega)
      simp only [List.append_assoc, List.singleton_append, List.length_append, List.length_singleton] at e
      exact e
theorem markRepsO : ∀ (rest done : List RI) (m : Int) (k : Nat), 0 ≤ m → m + 3 * (rest.length : Int) ≤ 100000 → done.length + rest.length ≤ 1000 → rest.length + 80 < k →
    ∃ rest', laws_markReplyS.l0 k (done ++ rest) m (done.length : Int) = some (m + 3 * (rest.length : Int), done ++ rest') ∧ rest'.length = rest.length ∧
      ∀ (done2 : List RI) (k2 : Nat), done2.length = done.length → rest.length + 80 < k2 → laws_heldReplyS.l0 k2 (done2 ++ rest') m (done2.length : Int) = some (m + 3 * (rest.length : Int))
  | [], done, m, k, h0, h1, hn, hk => by
    obtain ⟨k, rfl⟩ : ∃ q, k = q + 1 := ⟨k - 1, by omega⟩
    refine ⟨[], ?_, rfl, fun done2 k2 h2 hk2 => ?_⟩
    · simp only [laws_markReplyS.l0]
      rw [if_neg (by simp)]
      simp
    · obtain ⟨k2, rfl⟩ : ∃ q, k2 = q + 1 := ⟨k2 - 1, by omega⟩
      simp only [laws_heldReplyS.l0]
      rw [if_neg (by simp)]
      simp
  | p :: rest, done, m, k, h0, h1, hn, hk => by
    obtain ⟨k, rfl⟩ : ∃ q, k = q + 1 := ⟨k - 1, by omega⟩
    simp only [List.length_cons] at h1 hn hk
    obtain ⟨rest', r1, r2, r5⟩ := markRepsO rest (done ++ [(⟨m, m + 1, mt (m + 1 + 1)⟩ : RI)]) (m + 1 + 1 + 1) k (by omega) (by omega) (by simp; omega) (by omega)
    have w1 := owrap (n := m) (by omega) (by omega)
    have w2 := owrap (n := m + 1) (by omega) (by omega)
    have w3 := owrap (n := m + 1 + 1) (by omega) (by omega)
    have w4 : ∀ d : List RI, d.length = done.length → wrap64 ((d.length : Int) + 1) = ((d.length + 1 : Nat) : Int) := fun d hd => by rw [w_id (by omega) (by omega)]; omega
    have w5 : m + 3 * ((p :: rest).length : Int) = m + 1 + 1 + 1 + 3 * (rest.length : Int) := by simp only [List.length_cons]; omega
    rw [w5]
    refine ⟨(⟨m, m + 1, mt (m + 1 + 1)⟩ : RI) :: rest', ?_, by simp [r2], fun done2 k2 h2 hk2 => ?_⟩
    · simp only [laws_markReplyS.l0]
      rw [if_pos (by simp; omega), if_pos (by omega), tbind, tbind, w1, w2, w3, markText_eq (by omega) (by omega) (by omega), tbind, Int.toNat_natCast, rd_midQ, set_midO, rd_midQ, set_midO, rd_midQ, set_midO, w4 done rfl]
      have e := r1
      simp only [List.append_assoc, List.singleton_append, List.length_append, List.length_singleton] at e
      exact e
    · simp only [List.length_cons] at hk2
      obtain ⟨k2, rfl⟩ : ∃ q, k2 = q + 1 := ⟨k2 - 1, by omega⟩
      simp only [laws_heldReplyS.l0]
      rw [if_pos (by simp; omega), if_pos (by omega), rd_midQ, w1, w2, w3, if_pos rfl, if_pos rfl, markText_eq (by omega) (by omega) (by omega), tbind, if_pos rfl, w4 done2 h2]
      have e := r5 (done2 ++ [(⟨m, m + 1, mt (m + 1 + 1)⟩ : RI)]) k2 (by simp [h2]) (by omega)
      simp only [List.append_assoc, List.singleton_append, List.length_append, List.length_singleton] at e
      exact e
theorem markBrokerOut_ok {l : List TI} {r : List RI} (hl : l.length ≤ 4) (hr : r.length ≤ 9) (hb : ∀ p ∈ l, p.f2.length ≤ 20 ∧ p.f3.length ≤ 4) (x : ByteArray) (y : Int) {k : Nat} (hk : 200 ≤ k) :
    ∃ m o1 o2, laws_markBrokerOut.f k l r x y 1 = some (m, o1, o2) ∧ 0 ≤ m ∧ laws_heldBrokerOut.f k o1 o2 x y 1 = some m := by
  obtain ⟨m, o, h1, h2, h3, h4, h5⟩ := markTopicsO l [] 1 k (by omega) (by omega) (by simp; omega) hb (by omega)
  obtain ⟨o', g1, g2, g3⟩ := markRepsO r [] m k (by omega) (by omega) (by simp; omega) (by omega)
  refine ⟨m + 3 * (r.length : Int), o, o', ?_, by omega, ?_⟩
  · unfold laws_markBrokerOut.f laws_markBroker.f laws_markTopicS.f laws_markReplyS.f
    have e1 : laws_markTopicS.l0 k l 1 0 = some (m, o) := h1
    have e2 : laws_markReplyS.l0 k r m 0 = some (m + 3 * (r.length : Int), o') := g1
    rw [e1, tbind, e2, tbind]
  · unfold laws_heldBrokerOut.f laws_heldBroker.f laws_heldTopicS.f laws_heldReplyS.f
    have e1 : laws_heldTopicS.l0 k o 1 0 = some m := h5 [] k rfl (by omega)
    have e2 : laws_heldReplyS.l0 k o' m 0 = some (m + 3 * (r.length : Int)) := g3 [] k rfl (by omega)
    rw [e1, tbind, if_neg (by omega), e2, tbind, if_neg (by omega), tbind, if_neg (by omega)]
end Go.Proofs.Ytcaildjhnkedfaa.Q
