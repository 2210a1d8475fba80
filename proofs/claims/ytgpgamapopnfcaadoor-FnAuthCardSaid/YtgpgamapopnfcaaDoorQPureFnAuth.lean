/- Keys, vectors and codes of both programs are the same and are found good; two quorums share two replicas. No condition. -/
import Derived.Test.YtgpgamapopnfcaaDoorQSaidFnAuth
import Derived.Test.YtgpgamapopnfcaaDoorQPlVector
import Derived.Test.YtgpgamapopnfcaaDoorQPlAuthDraw
import Derived.Test.YtgpgamapopnfcaaDoorQPlQuorum
import Derived.Test.YtgpgamapopnfcaaDoorQx5
import Derived.Test.YtgpgamapopnfcaaDoorQx6
import Derived.Test.YtgpgamapopnfcaaDoorQx22
namespace Go.Proofs.YtgpgamapopnfcaaDoor.Q.PureFnAuth
open Go.RowKit Go.Proofs.YtgpgamapopnfcaaDoorW.PrintWords Go.Proofs.YtgpgamapopnfcaaDoorW.PrintLast Go.Proofs.YtgpgamapopnfcaaDoor.Q Go.Proofs.YtgpgamapopnfcaaDoor.HB
set_option linter.unusedVariables false
set_option linter.unusedSimpArgs false

def row (x : Int) (q : List Int) : Nat → Nat → Nat
  | 0, _ => 0
  | d + 1, j => (if x = rd q (j : Int) then 1 else 0) + row x q d (j + 1)
theorem row_le (x : Int) (q : List Int) : ∀ d j, row x q d j ≤ d
  | 0, _ => Nat.le_refl _
  | d + 1, j => by
    have := row_le x q d (j + 1)
    rw [row]
    split <;> omega
theorem l2_eq (p q : List Int) (i : Nat) (hi : i < p.length) (hp : p.length ≤ 5) (hq : q.length ≤ 5) : ∀ (d j k n : Nat), d + j = q.length → n + d ≤ 1000 → laws_FnAuth.l2 (k + d + 1) p q (n : Int) (i : Int) (j : Int) = laws_FnAuth.l1 k p q ((n + row (rd p (i : Int)) q d j : Nat) : Int) ((i + 1 : Nat) : Int)
  | 0, j, k, n, h, hn => by
    have e1 : wrap64 ((i : Int) + 1) = ((i + 1 : Nat) : Int) := by unfold wrap64; omega
    rw [laws_FnAuth.l2, if_neg (by omega), e1]
    rfl
  | d + 1, j, k, n, h, hn => by
    have e1 : wrap64 ((j : Int) + 1) = ((j + 1 : Nat) : Int) := by unfold wrap64; omega
    have e2 : wrap64 ((n : Int) + 1) = ((n + 1 : Nat) : Int) := by unfold wrap64; omega
    rw [laws_FnAuth.l2, if_pos (by omega), if_pos (by omega), if_pos (by omega), if_pos (by omega), e1, e2, show k + (d + 1) = k + d + 1 by omega]
    clear e1 e2
    by_cases c : rd p (i : Int) = rd q (j : Int)
    · rw [if_pos c, l2_eq p q i hi hp hq d (j + 1) k (n + 1) (by omega) (by omega), row, if_pos c, show n + 1 + row (rd p (i : Int)) q d (j + 1) = n + (1 + row (rd p (i : Int)) q d (j + 1)) by omega]
    · rw [if_neg c, l2_eq p q i hi hp hq d (j + 1) k n (by omega) (by omega), row, if_neg c, Nat.zero_add]
def tot (p q : List Int) : Nat → Nat → Nat
  | 0, _ => 0
  | e + 1, i => row (rd p (i : Int)) q q.length 0 + tot p q e (i + 1)
def fin (p q : List Int) (n : Nat) : Bool := if quorumB p = true then (if quorumB q = true then decide ((n : Int) ≥ 2) else true) else true
theorem l1_eq (p q : List Int) (hp : p.length ≤ 5) (hq : q.length ≤ 5) : ∀ (e i k n : Nat), e + i = p.length → n + 10 * e ≤ 900 → laws_FnAuth.l1 (k + 10 + e * (q.length + 2) + 1) p q (n : Int) (i : Int) = some (fin p q (n + tot p q e i))
  | 0, i, k, n, h, hn => by
    rw [laws_FnAuth.l1, if_neg (by omega)]
    unfold impl_QuorumRight.f fin
    rw [impl_quorum_eq (l := p) (by omega) (by omega), Option.bind_some, Option.bind_some]
    split
    · rw [impl_quorum_eq (l := q) (by omega) (by omega), Option.bind_some, Option.bind_some]
      split <;> rfl
    · rfl
  | e + 1, i, k, n, h, hn => by
    have hr := row_le (rd p (i : Int)) q q.length 0
    rw [laws_FnAuth.l1, if_pos (by omega), show k + 10 + (e + 1) * (q.length + 2) = (k + 10 + e * (q.length + 2) + 1) + q.length + 1 by rw [Nat.add_mul]; omega]
    refine (l2_eq p q i (by omega) hp hq q.length 0 _ n (by omega) (by omega)).trans ?_
    rw [l1_eq p q hp hq e (i + 1) k _ (by omega) (by omega), tot, Nat.add_assoc]
theorem quorums {l : List Int} (hl : l.length ≤ 5) (h : quorumB l = true) : l = [0, 1, 2] ∨ l = [0, 1, 3] ∨ l = [0, 2, 3] ∨ l = [1, 2, 3] ∨ l = [0, 1, 2, 3] := by
  match l, hl, h with
  | [], _, h => exact absurd h (by decide)
  | [a], _, h => simp [quorumB, quorumFrom] at h
  | [a, b], _, h => simp [quorumB, quorumFrom] at h
  | [a, b, c], _, h =>
    simp [quorumB, quorumFrom, whoB, rd] at h
    have : (a = 0 ∨ a = 1) ∧ (b = 1 ∨ b = 2) ∧ (c = 2 ∨ c = 3) := by omega
    simp only [List.cons.injEq, and_true]
    simp
    omega
  | [a, b, c, d], _, h =>
    simp [quorumB, quorumFrom, whoB, rd] at h
    simp
    omega
  | [a, b, c, d, e], _, h =>
    simp [quorumB, quorumFrom, whoB, rd] at h
    omega
theorem overlap {p q : List Int} (hp : p.length ≤ 5) (hq : q.length ≤ 5) : fin p q (tot p q p.length 0) = true := by
  unfold fin
  split
  · rename_i h1
    split
    · rename_i h2
      rcases quorums hp h1 with rfl | rfl | rfl | rfl | rfl <;> rcases quorums hq h2 with rfl | rfl | rfl | rfl | rfl <;> decide
    · rfl
  · rfl
theorem lwTexts_eq {l : List ByteArray} (hl : l.length ≤ 9223372036854775807) {k : Nat} (hk : l.length < k) : laws_lwTexts.f k l l = some true := by
  unfold laws_lwTexts.f
  rw [if_pos rfl]
  refine upLoop (n := l.length) (m := 0) (F := fun k i => laws_lwTexts.l0 k l l i) (fun k => ?_) (fun k i hm hi => ?_) l.length k 0 (by omega) (by omega)
  · simp only [laws_lwTexts.l0]
    rw [if_neg (by omega)]
  · simp only [laws_lwTexts.l0]
    rw [if_pos (by omega), if_pos (by omega), if_pos (by omega), if_pos trivial, w_nat hi hl]
theorem pkey_comm (s : ByteArray) (a b : Int) : pkeyR s a b = pkeyR s b a := by
  unfold pkeyR pkey
  rw [Int.min_comm, Int.max_comm]
  by_cases h : (1 ≤ s.size ∧ s.size ≤ 60) ∧ (0 ≤ a ∧ a ≤ 3) ∧ (0 ≤ b ∧ b ≤ 3) ∧ a ≠ b
  · rw [if_pos h, if_pos ⟨h.1, h.2.2.1, h.2.1, fun e => h.2.2.2 e.symm⟩]
  · rw [if_neg h, if_neg (fun g => h ⟨g.1, g.2.2.1, g.2.1, fun e => g.2.2.2 e.symm⟩)]
theorem goodK (s : ByteArray) (a b : Int) (t : ByteArray) (l : List ByteArray) {k : Nat} (hk : 70 ≤ k) : impl_VectorGood.f k s a b t l = some (goodR s a b t l) ∧ spec_VectorGood.f k s a b t l = some (goodR s a b t l) := by
  constructor
  · rw [show k = (k - 70) + 70 by omega]; exact good_impl s a b t l _
  · rw [show k = (k - 16) + 16 by omega]; exact good_spec s a b t l _
theorem tail_ok {x0 x1 : List Int} (h0 : x0.length ≤ 2000000) (h1 : x1.length ≤ 2000000) (s : ByteArray) (a : Int) (t : ByteArray) (l : List ByteArray) (i : Int) {k : Nat} (hk : 200 ≤ k) : laws_FnAuth.j3 (k + 1) x0 x1 s a t l i false = some true := by
  obtain ⟨gs, ga, gb, gt, gl, e1⟩ := drawGood_ok h1 (k := k) (by omega)
  obtain ⟨v, e2⟩ := drawLeader_ok h1 (k := k) (by omega)
  obtain ⟨p, e3, hp⟩ := drawQuorum_ok h0 (k := k) (by omega)
  obtain ⟨q, e4, hq⟩ := drawQuorum_ok h1 (k := k) (by omega)
  obtain ⟨g1, g2⟩ := goodK gs ga gb gt gl (k := k) (by omega)
  have hv : impl_Leader.f v = spec_Leader.f v := by unfold impl_Leader.f impl_leader.f spec_Leader.f; split <;> rfl
  obtain ⟨w, hw⟩ : ∃ w, spec_Leader.f v = some w := by unfold spec_Leader.f; split <;> exact ⟨_, rfl⟩
  rw [laws_FnAuth.j3, if_neg Bool.false_ne_true, e1, Option.bind_some, e2, Option.bind_some, e3, Option.bind_some, e4, Option.bind_some, g1, Option.bind_some, g2, Option.bind_some, if_neg (by simp), hv, hw, Option.bind_some, Option.bind_some, if_pos rfl]
  have q1 : impl_QuorumRight.f k p = some (quorumB p) := by unfold impl_QuorumRight.f; rw [impl_quorum_eq (by omega) (by omega)]; rfl
  rw [q1, Option.bind_some, spec_quorum_eq (by omega) (by omega), Option.bind_some, show (quorumB p != quorumB p) = false by simp]
  obtain ⟨k', rfl⟩ : ∃ k', k = (k' + 10 + p.length * (q.length + 2) + 1) + 1 := by
    have : p.length * (q.length + 2) ≤ 5 * 7 := Nat.mul_le_mul hp (by omega)
    exact ⟨k - 12 - p.length * (q.length + 2), by omega⟩
  rw [laws_FnAuth.j4, if_neg Bool.false_ne_true]
  refine (l1_eq p q hp hq p.length 0 k' 0 (by omega) (by omega)).trans ?_
  rw [Nat.zero_add, overlap hp hq]
theorem loop_ok {x0 x1 : List Int} (h0 : x0.length ≤ 2000000) (h1 : x1.length ≤ 2000000) (s : ByteArray) (a : Int) (t : ByteArray) : ∀ (d i k : Nat), d + i = 4 → 300 ≤ k → laws_FnAuth.l0 (k + 2 * d + 2) x0 x1 s a t (vecR s a t) (i : Int) = some true
  | 0, i, k, h, hk => by
    rw [show k + 2 * 0 + 2 = (k + 1) + 1 by omega, laws_FnAuth.l0, if_neg (by omega)]
    exact tail_ok h0 h1 _ _ _ _ _ (by omega)
  | d + 1, i, k, h, hk => by
    rw [show k + 2 * (d + 1) + 2 = (k + 2 * d + 2 + 1) + 1 by omega, laws_FnAuth.l0, if_pos (by omega)]
    by_cases c : (1 ≤ s.size ∧ s.size ≤ 60) ∧ (0 ≤ a ∧ a ≤ 3) ∧ t.size ≤ 20000
    · have hv : vecR s a t = vtl s a t 4 0 := by unfold vecR; rw [if_pos c]
      have hb : rdOf ByteArray.empty (vecR s a t) (i : Int) = vat s a t (i : Int) := by
        have e := vtl_at s a t 4 0 i (by omega)
        unfold rdOf
        rw [hv, List.getD_eq_getElem?_getD, Int.toNat_natCast, e, Option.getD_some, Nat.zero_add]
      have hg : goodR s a (i : Int) t (vecR s a t) = ((i : Int) != a) := by
        unfold goodR
        rw [hb]
        by_cases e : (i : Int) = a
        · rw [decide_eq_false (fun g => g.1.2.2.2.1 e.symm)]; simp [e]
        · rw [decide_eq_true ⟨⟨c.1, c.2.1, ⟨by omega, by omega⟩, fun g => e g.symm, c.2.2, by rw [hv, vtl_len]⟩, rfl⟩]; simp [e]
      rw [show decide (((vecR s a t).length : Int) > 0) = true by rw [hv, vtl_len]; decide, laws_FnAuth.j3, if_pos rfl, (goodK s a (i : Int) t (vecR s a t) (by omega)).1, Option.bind_some, hg, if_neg (by simp), show wrap64 ((i : Int) + 1) = ((i + 1 : Nat) : Int) by unfold wrap64; omega]
      exact loop_ok h0 h1 s a t d (i + 1) k (by omega) hk
    · have hv : vecR s a t = [] := by unfold vecR; rw [if_neg c]
      rw [hv, show decide ((([] : List ByteArray).length : Int) > 0) = false by decide]
      exact tail_ok h0 h1 _ _ _ _ _ (by omega)
theorem proved : SaidFnAuth.Pure := by
  rintro x0 x1 _ _
  refine ⟨400, ?_⟩
  unfold laws_FnAuth.f
  have ht : laws_FnAuth.j0 400 x0 x1 true = some true := rfl
  by_cases h0 : (x0.length : Int) > 1048576
  · rw [if_pos h0, ht]
  rw [if_neg h0]
  by_cases h1 : (x1.length : Int) > 1048576
  · rw [decide_eq_true h1, ht]
  rw [decide_eq_false h1]
  obtain ⟨s, a, b, e1⟩ := drawPair_ok (x0 := x0) (by omega) (k := 399) (by omega)
  obtain ⟨s', a', t', e2⟩ := drawVector_ok (x0 := x0) (by omega) (k := 398) (by omega)
  have p1 : spec_PairKey.f 399 s a b = some (pkeyR s a b) := pairKey_spec s a b 395
  have v1 : spec_Vector.f 398 s' a' t' = some (vecR s' a' t') := vector_spec s' a' t' 382
  have v2 : impl_Vector.f 398 s' a' t' = some (vecR s' a' t') := vector_impl s' a' t' 322
  have hv := vecR_len s' a' t'
  show laws_FnAuth.j0 (399 + 1) x0 x1 false = some true
  rw [laws_FnAuth.j0, if_neg Bool.false_ne_true, e1, Option.bind_some, pairKey_impl, Option.bind_some, p1, Option.bind_some, if_pos rfl, Option.bind_some, pairKey_impl, Option.bind_some, pkey_comm s b a, show ((pkeyR s a b).toList != (pkeyR s a b).toList) = false by simp]
  show laws_FnAuth.j1 (398 + 1) x0 x1 false = some true
  rw [laws_FnAuth.j1, if_neg Bool.false_ne_true, e2, Option.bind_some, v2, Option.bind_some, v1, Option.bind_some, lwTexts_eq (by omega) (by omega), Option.bind_some, if_pos rfl]
  exact loop_ok (by omega) (by omega) s' a' t' 4 0 388 rfl (by omega)
end Go.Proofs.YtgpgamapopnfcaaDoor.Q.PureFnAuth
