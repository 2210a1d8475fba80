/- What the draws of FnAuth give: something, and not too long. -/
import Derived.Test.YtgpgamapopnfcaaDoorQPlSrc
import Derived.Test.YtgpgamapopnfcaaDoorQPlVector
import Derived.Test.YtgpgamapopnfcaaDoorQx5
import Derived.Test.YtgpgamapopnfcaaDoorQx6
import Derived.Test.YtgpgamapopnfcaaDoorQx21
namespace Go.Proofs.YtgpgamapopnfcaaDoor.Q
open Go.RowKit Go.Proofs.YtgpgamapopnfcaaDoorW.PrintWords Go.Proofs.YtgpgamapopnfcaaDoorW.PrintLast Go.Proofs.YtgpgamapopnfcaaDoor.HB
set_option linter.unusedVariables false
set_option linter.unusedSimpArgs false

theorem secret_ok {s0 : List Int} {s1 s2 s3 : Int} (h0 : 0 ≤ s1) (hl : s0.length ≤ 2000000) : ∃ b t1 t2, spec_l01Src_l09Secret.f s0 s1 s2 s3 = some (b, t1, t2, s3) ∧ 0 ≤ t1 := by
  obtain ⟨b, t1, t2, e1, g1⟩ := one_ok (s2 := s2) (s3 := s3) (a := 8) h0 hl (by decide)
  unfold spec_l01Src_l09Secret.f
  rw [e1, Option.bind_some]
  cases b with
  | true =>
    obtain ⟨r, u1, u2, e2, g2, r0, r1⟩ := n_ok (s2 := t2) (s3 := s3) (a := 3) g1 hl (by decide)
    rw [if_pos rfl, Option.bind_some, e2, Option.bind_some]
    have : r = 0 ∨ r = 1 ∨ r = 2 := by omega
    rcases this with rfl | rfl | rfl
    · exact ⟨_, _, _, rfl, g2⟩
    · exact ⟨_, _, _, rfl, g2⟩
    · exact ⟨_, _, _, rfl, g2⟩
  | false =>
    obtain ⟨c, u1, u2, e2, g2⟩ := pick_ok (s2 := t2) (s3 := s3) (l := [(⟨#[115]⟩ : ByteArray), (⟨#[107, 101, 121]⟩ : ByteArray)]) g1 hl (by decide)
    rw [if_neg Bool.false_ne_true, e2]
    exact ⟨_, _, _, rfl, g2⟩
theorem drawPair_ok {x0 : List Int} (hl : x0.length ≤ 2000000) {k : Nat} (hk : 64 < k) : ∃ s a b, spec_DrawPairKey.f k x0 = some (s, a, b) := by
  obtain ⟨m, z, e0⟩ := source_ok hl hk
  obtain ⟨s, t1, t2, e1, g1⟩ := secret_ok (s1 := 0) (s2 := m) (s3 := z) (Int.le_refl 0) hl
  obtain ⟨a, u1, u2, e2, g2, _, _⟩ := n_ok (s2 := t2) (s3 := z) (a := 5) g1 hl (by decide)
  obtain ⟨b, v1, v2, e3, g3, _, _⟩ := n_ok (s2 := u2) (s3 := z) (a := 6) g2 hl (by decide)
  unfold spec_DrawPairKey.f
  rw [e0, Option.bind_some, e1, Option.bind_some, e2, Option.bind_some, e3, Option.bind_some]
  exact ⟨_, _, _, rfl⟩
theorem drawQuorum_l0 {s0 : List Int} {s3 : Int} (hl : s0.length ≤ 2000000) : ∀ (d i k : Nat) (l : List Int) (s1 s2 : Int), d + i = 4 → l.length ≤ i → 0 ≤ s1 → ∃ r, spec_DrawQuorumRight.l0 (k + d + 1) l (i : Int) s0 s1 s2 s3 = some r ∧ r.length ≤ 5
  | 0, i, k, l, s1, s2, hi, hll, h0 => by
    obtain ⟨b, t1, t2, e1, g1⟩ := one_ok (s2 := s2) (s3 := s3) (a := 6) h0 hl (by decide)
    rw [spec_DrawQuorumRight.l0, if_neg (by omega), e1, Option.bind_some]
    cases b with
    | true =>
      obtain ⟨r, u1, u2, e2, g2, _, _⟩ := n_ok (s2 := t2) (s3 := s3) (a := 6) g1 hl (by decide)
      rw [if_pos rfl, e2, Option.bind_some, if_pos (by omega)]
      exact ⟨_, rfl, by simp; omega⟩
    | false => exact ⟨_, rfl, by omega⟩
  | d + 1, i, k, l, s1, s2, hi, hll, h0 => by
    obtain ⟨b, t1, t2, e1, g1⟩ := one_ok (s2 := s2) (s3 := s3) (a := 4) h0 hl (by decide)
    have ew : wrap64 ((i : Int) + 1) = ((i + 1 : Nat) : Int) := by unfold wrap64; omega
    rw [spec_DrawQuorumRight.l0, if_pos (by omega), e1, Option.bind_some, ew]
    clear ew
    cases b with
    | true =>
      rw [if_pos rfl]
      exact drawQuorum_l0 hl d (i + 1) k l t1 t2 (by omega) (by omega) g1
    | false =>
      rw [if_neg Bool.false_ne_true, if_pos (by omega)]
      exact drawQuorum_l0 hl d (i + 1) k _ t1 t2 (by omega) (by simp; omega) g1
theorem drawQuorum_ok {x0 : List Int} (hl : x0.length ≤ 2000000) {k : Nat} (hk : 64 < k) : ∃ r, spec_DrawQuorumRight.f k x0 = some r ∧ r.length ≤ 5 := by
  obtain ⟨m, z, e0⟩ := source_ok hl hk
  unfold spec_DrawQuorumRight.f
  rw [e0, Option.bind_some]
  obtain ⟨k', rfl⟩ : ∃ k', k = k' + 4 + 1 := ⟨k - 5, by omega⟩
  exact drawQuorum_l0 hl 4 0 k' [] 0 m rfl (by simp) (Int.le_refl 0)
theorem n_ok1 {s0 : List Int} {s1 s2 s3 a : Int} (h0 : 0 ≤ s1) (hl : s0.length ≤ 2000000) (ha : 2 ≤ a ∧ a ≤ 1000) : ∃ r t1 t2, spec_l01Src_n.f s0 s1 s2 s3 a = some (r, t1, t2, s3) ∧ 0 ≤ t1 ∧ 0 ≤ r ∧ r < a := n_ok h0 hl ha
theorem bytes_l0 {s0 : List Int} {s3 : Int} (hl : s0.length ≤ 2000000) : ∀ (d i k n : Nat) (l : List Int) (s1 s2 : Int), d + i = n → n ≤ 100 → l.length ≤ i → 0 ≤ s1 → ∃ r t1 t2, spec_l01Src_bytes.l0 (k + d + 1) (n : Int) l (i : Int) s0 s1 s2 s3 = some (r, t1, t2, s3) ∧ 0 ≤ t1
  | 0, i, k, n, l, s1, s2, hi, hn, hll, h0 => by
    rw [spec_l01Src_bytes.l0, if_neg (by omega)]
    exact ⟨_, _, _, rfl, h0⟩
  | d + 1, i, k, n, l, s1, s2, hi, hn, hll, h0 => by
    obtain ⟨r, t1, t2, e1, g1, _, _⟩ := n_ok (s2 := s2) (s3 := s3) (a := 256) h0 hl (by decide)
    have ew : wrap64 ((i : Int) + 1) = ((i + 1 : Nat) : Int) := by unfold wrap64; omega
    rw [spec_l01Src_bytes.l0, if_pos (by omega), e1, Option.bind_some, if_pos (by omega), ew]
    clear ew
    exact bytes_l0 hl d (i + 1) k n _ t1 t2 (by omega) hn (by simp; omega) g1
theorem bytes_ok {s0 : List Int} {s1 s2 s3 n : Int} (h0 : 0 ≤ s1) (hl : s0.length ≤ 2000000) (n0 : 0 ≤ n) (n1 : n < 50) {k : Nat} (hk : 64 < k) : ∃ r t1 t2, spec_l01Src_bytes.f k s0 s1 s2 s3 n = some (r, t1, t2, s3) ∧ 0 ≤ t1 := by
  obtain ⟨m, rfl⟩ := Int.eq_ofNat_of_zero_le n0
  obtain ⟨k', rfl⟩ : ∃ k', k = k' + m + 1 := ⟨k - m - 1, by omega⟩
  exact bytes_l0 hl m 0 k' m [] s1 s2 rfl (by omega) (by simp) h0
theorem drawVector_ok {x0 : List Int} (hl : x0.length ≤ 2000000) {k : Nat} (hk : 64 < k) : ∃ s a t, spec_DrawVector.f k x0 = some (s, a, t) := by
  obtain ⟨m, z, e0⟩ := source_ok hl hk
  obtain ⟨s, t1, t2, e1, g1⟩ := secret_ok (s1 := 0) (s2 := m) (s3 := z) (Int.le_refl 0) hl
  obtain ⟨a, u1, u2, e2, g2, _, _⟩ := n_ok (s2 := t2) (s3 := z) (a := 5) g1 hl (by decide)
  obtain ⟨b, v1, v2, e3, g3, b0, b1⟩ := n_ok (s2 := u2) (s3 := z) (a := 4) g2 hl (by decide)
  obtain ⟨t, w1, w2, e4, g4⟩ := bytes_ok (s2 := v2) (s3 := z) g3 hl b0 (by omega) hk
  unfold spec_DrawVector.f
  rw [e0, Option.bind_some, e1, Option.bind_some, e2, Option.bind_some, e3, Option.bind_some, e4, Option.bind_some]
  exact ⟨_, _, _, rfl⟩
theorem drawLeader_ok {x0 : List Int} (hl : x0.length ≤ 2000000) {k : Nat} (hk : 64 < k) : ∃ v, spec_DrawLeader.f k x0 = some v := by
  obtain ⟨m, z, e0⟩ := source_ok hl hk
  obtain ⟨b, t1, t2, e1, g1⟩ := one_ok (s1 := 0) (s2 := m) (s3 := z) (a := 3) (Int.le_refl 0) hl (by decide)
  unfold spec_DrawLeader.f
  rw [e0, Option.bind_some, e1, Option.bind_some]
  cases b with
  | true =>
    obtain ⟨r, u1, u2, e2, g2, r0, r1⟩ := n_ok (s2 := t2) (s3 := z) (a := 14) g1 hl (by decide)
    rw [if_pos rfl]
    unfold spec_l01Src_edge.f
    rw [Option.bind_some, e2, Option.bind_some, if_pos r0, if_pos (by simpa using r1)]
    exact ⟨_, rfl⟩
  | false =>
    obtain ⟨r, u1, u2, e2, g2, r0, r1⟩ := n_ok (s2 := t2) (s3 := z) (a := 20) g1 hl (by decide)
    rw [if_neg Bool.false_ne_true, e2]
    exact ⟨_, rfl⟩
theorem good_j1 {s0 : List Int} {s1 s2 s3 : Int} (h0 : 0 ≤ s1) (hl : s0.length ≤ 2000000) {s : ByteArray} {a : Int} {t : ByteArray} {l : List ByteArray} (hll : l.length ≤ 4) (k : Nat) : ∃ s' a' b' t' l', spec_DrawVectorGood.j1 (k + 1) s a t l s0 s1 s2 s3 = some (s', a', b', t', l') := by
  obtain ⟨b, t1, t2, e1, g1⟩ := one_ok (s2 := s2) (s3 := s3) (a := 12) h0 hl (by decide)
  obtain ⟨r, u1, u2, e2, g2, _, _⟩ := n_ok (s2 := t2) (s3 := s3) (a := 5) g1 hl (by decide)
  rw [spec_DrawVectorGood.j1, e1, Option.bind_some]
  cases b with
  | true => rw [if_pos rfl, if_pos (by omega), e2]; exact ⟨_, _, _, _, _, rfl⟩
  | false => rw [if_neg Bool.false_ne_true, e2]; exact ⟨_, _, _, _, _, rfl⟩
theorem good_j0 {s0 : List Int} {s1 s2 s3 : Int} (h0 : 0 ≤ s1) (hl : s0.length ≤ 2000000) {s : ByteArray} {a : Int} {t : ByteArray} {l : List ByteArray} (y : Bool) (hy : y = true → l.length = 4) (hll : l.length ≤ 4) (k : Nat) : ∃ s' a' b' t' l', spec_DrawVectorGood.j0 (k + 2) s a t l y s0 s1 s2 s3 = some (s', a', b', t', l') := by
  rw [spec_DrawVectorGood.j0]
  cases y with
  | true =>
    have h4 := hy rfl
    obtain ⟨r, u1, u2, e2, g2, r0, r1⟩ := n_ok (s2 := s2) (s3 := s3) (a := (l.length : Int)) h0 hl (by omega)
    rw [if_pos rfl, e2, Option.bind_some, if_pos r0, if_pos r1]
    exact good_j1 g2 hl (by rw [List.length_set]; omega) k
  | false =>
    rw [if_neg Bool.false_ne_true]
    exact good_j1 h0 hl hll k
theorem drawGood_ok {x0 : List Int} (hl : x0.length ≤ 2000000) {k : Nat} (hk : 100 < k) : ∃ s a b t l, spec_DrawVectorGood.f k x0 = some (s, a, b, t, l) := by
  obtain ⟨m, z, e0⟩ := source_ok hl (k := k) (by omega)
  obtain ⟨s, t1, t2, e1, g1⟩ := secret_ok (s1 := 0) (s2 := m) (s3 := z) (Int.le_refl 0) hl
  obtain ⟨a, u1, u2, e2, g2, _, _⟩ := n_ok (s2 := t2) (s3 := z) (a := 4) g1 hl (by decide)
  obtain ⟨b, v1, v2, e3, g3, b0, b1⟩ := n_ok (s2 := u2) (s3 := z) (a := 4) g2 hl (by decide)
  obtain ⟨t, w1, w2, e4, g4⟩ := bytes_ok (s2 := v2) (s3 := z) g3 hl b0 (by omega) (k := k) (by omega)
  obtain ⟨c, y1, y2, e5, g5⟩ := one_ok (s2 := w2) (s3 := z) (a := 3) g4 hl (by decide)
  have ev : spec_Vector.f k s a t = some (vecR s a t) := by rw [show k = (k - 16) + 16 by omega]; exact vector_spec s a t _
  have hv : (vecR s a t).length = 0 ∨ (vecR s a t).length = 4 := by
    unfold vecR
    split
    · exact Or.inr (vtl_len _ _ _ _ _)
    · exact Or.inl rfl
  unfold spec_DrawVectorGood.f
  rw [e0, Option.bind_some, e1, Option.bind_some, e2, Option.bind_some, e3, Option.bind_some, e4, Option.bind_some, ev, Option.bind_some, e5, Option.bind_some, show k = (k - 2) + 2 by omega]
  cases c with
  | true =>
    rw [if_pos rfl]
    exact good_j0 g5 hl _ (fun h => by have := of_decide_eq_true h; omega) (by omega) _
  | false =>
    rw [if_neg Bool.false_ne_true]
    exact good_j0 g5 hl _ (fun h => by cases h) (by omega) _
end Go.Proofs.YtgpgamapopnfcaaDoor.Q
