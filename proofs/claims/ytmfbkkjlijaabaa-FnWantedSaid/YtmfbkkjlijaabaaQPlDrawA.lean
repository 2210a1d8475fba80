/- Draws of votes always come to an end, with short lists. -/
import Derived.Test.YtmfbkkjlijaabaaQx2
import Derived.Test.YtmfbkkjlijaabaaQx10
import Derived.Test.YtmfbkkjlijaabaaQx11
import Derived.Test.YtmfbkkjlijaabaaQPlVoteAddS
import Derived.Test.YtmfbkkjlijaabaaQPlLoops
namespace Go.Proofs.Ytmfbkkjlijaabaa.Q
open Go.RowKit Go.Proofs.YtmfbkkjlijaabaaW.PrintWords Go.Proofs.YtmfbkkjlijaabaaW.PrintLast Go.Proofs.Ytmfbkkjlijaabaa.HB
set_option linter.unusedVariables false
set_option linter.unusedSimpArgs false

theorem u64_is (n : Int) : IntKind.u64.wrap n = n % 18446744073709551616 := by simp [IntKind.wrap, IntKind.signed, IntKind.bits]
theorem rem_ok {x a : Int} (ha : 1 ≤ a ∧ a ≤ 1000) : 0 ≤ wrap64 ((IntKind.u64.wrap x).tmod (IntKind.u64.wrap a)) ∧ wrap64 ((IntKind.u64.wrap x).tmod (IntKind.u64.wrap a)) < a := by
  have h1 : IntKind.u64.wrap a = a := by rw [u64_is]; omega
  have h2 : 0 ≤ IntKind.u64.wrap x := by rw [u64_is]; omega
  rw [h1]
  generalize IntKind.u64.wrap x = y at h2
  rw [Int.tmod_eq_emod_of_nonneg h2]
  have h3 := Int.emod_nonneg y (show a ≠ 0 by omega)
  have h4 := Int.emod_lt_of_pos y (show 0 < a by omega)
  rw [w_id (by omega) (by omega)]
  exact ⟨h3, h4⟩
theorem n_ok {s0 : List Int} {s1 s2 s3 a : Int} (h0 : 0 ≤ s1) (hl : s0.length ≤ 2000000) (ha : 2 ≤ a ∧ a ≤ 1000) : ∃ r t1 t2, spec_l01Src_n.f s0 s1 s2 s3 a = some (r, t1, t2, s3) ∧ 0 ≤ t1 ∧ 0 ≤ r ∧ r < a := by
  unfold spec_l01Src_n.f
  rw [if_neg (by omega), if_pos (by omega)]
  by_cases h : s1 < (s0.length : Int)
  · rw [if_pos h, if_pos h0]
    have := rem_ok (x := IntKind.u64.wrap (rd s0 s1) + (Go.bits .xor .u64 (Go.bits .xor .u64 (Go.bits .xor .u64 s2 (IntKind.u64.wrap (s2 * 8192))) ((Go.bits .xor .u64 s2 (IntKind.u64.wrap (s2 * 8192))) / 128)) (IntKind.u64.wrap ((Go.bits .xor .u64 (Go.bits .xor .u64 s2 (IntKind.u64.wrap (s2 * 8192))) ((Go.bits .xor .u64 s2 (IntKind.u64.wrap (s2 * 8192))) / 128)) * 131072))) / 1048576) (a := a) (by omega)
    exact ⟨_, _, _, rfl, by rw [w_id (by omega) (by omega)]; omega, this.1, this.2⟩
  · rw [if_neg h]
    have := rem_ok (x := (Go.bits .xor .u64 (Go.bits .xor .u64 (Go.bits .xor .u64 s2 (IntKind.u64.wrap (s2 * 8192))) ((Go.bits .xor .u64 s2 (IntKind.u64.wrap (s2 * 8192))) / 128)) (IntKind.u64.wrap ((Go.bits .xor .u64 (Go.bits .xor .u64 s2 (IntKind.u64.wrap (s2 * 8192))) ((Go.bits .xor .u64 s2 (IntKind.u64.wrap (s2 * 8192))) / 128)) * 131072))) / 1048576) (a := a) (by omega)
    exact ⟨_, _, _, rfl, h0, this.1, this.2⟩
theorem one_ok {s0 : List Int} {s1 s2 s3 a : Int} (h0 : 0 ≤ s1) (hl : s0.length ≤ 2000000) (ha : 2 ≤ a ∧ a ≤ 1000) : ∃ b t1 t2, spec_l01Src_one.f s0 s1 s2 s3 a = some (b, t1, t2, s3) ∧ 0 ≤ t1 := by
  obtain ⟨r, t1, t2, e, h1, _, _⟩ := n_ok (s2 := s2) (s3 := s3) h0 hl ha
  unfold spec_l01Src_one.f
  rw [e]
  exact ⟨_, t1, t2, rfl, h1⟩
theorem pick_ok {s0 : List Int} {s1 s2 s3 : Int} {l : List ByteArray} (h0 : 0 ≤ s1) (hl : s0.length ≤ 2000000) (ha : 2 ≤ l.length ∧ l.length ≤ 1000) : ∃ b t1 t2, spec_l01Src_pick.f s0 s1 s2 s3 l = some (b, t1, t2, s3) ∧ 0 ≤ t1 := by
  obtain ⟨r, t1, t2, e, h1, h2, h3⟩ := n_ok (s2 := s2) (s3 := s3) (a := (l.length : Int)) h0 hl (by omega)
  unfold spec_l01Src_pick.f
  rw [e]
  simp only [Option.bind_some]
  rw [if_pos h2, if_pos h3]
  exact ⟨_, t1, t2, rfl, h1⟩
theorem some_ok {s0 : List Int} {s1 s2 s3 : Int} (h0 : 0 ≤ s1) (hl : s0.length ≤ 2000000) : ∃ (v : VT) (t1 t2 : Int), spec_l01Src_l11Some.f s0 s1 s2 s3 = some (v.f0, v.f1, v.f2, v.f3, v.f4, t1, t2, s3) ∧ 0 ≤ t1 := by
  obtain ⟨r1, a1, a2, e1, g1, p1, q1⟩ := n_ok (s2 := s2) (s3 := s3) (a := 2) h0 hl (by omega)
  obtain ⟨r2, b1, b2, e2, g2, p2, q2⟩ := n_ok (s2 := a2) (s3 := s3) (a := 2) g1 hl (by omega)
  obtain ⟨r3, c1, c2, e3, g3, p3, q3⟩ := n_ok (s2 := b2) (s3 := s3) (a := 2) g2 hl (by omega)
  obtain ⟨r4, d1, d2, e4, g4⟩ := pick_ok (s2 := c2) (s3 := s3) (l := [(⟨#[97]⟩ : ByteArray), (⟨#[97]⟩ : ByteArray), (⟨#[97]⟩ : ByteArray), (⟨#[98]⟩ : ByteArray), (⟨#[]⟩ : ByteArray)]) g3 hl (by simp)
  obtain ⟨r5, i1, i2, e5, g5, p5, q5⟩ := n_ok (s2 := d2) (s3 := s3) (a := 4) g4 hl (by omega)
  obtain ⟨r6, j1, j2, e6, g6⟩ := one_ok (s2 := i2) (s3 := s3) (a := 40) g5 hl (by omega)
  unfold spec_l01Src_l11Some.f
  rw [e1]
  simp only [Option.bind_some]
  rw [e2]
  simp only [Option.bind_some]
  rw [e3]
  simp only [Option.bind_some]
  rw [e4]
  simp only [Option.bind_some]
  rw [e5]
  simp only [Option.bind_some]
  rw [e6]
  simp only [Option.bind_some]
  by_cases h : r6 = true
  · rw [if_pos h]
    obtain ⟨r7, k1, k2, e7, g7, p7, q7⟩ := n_ok (s2 := j2) (s3 := s3) (a := 4) g6 hl (by omega)
    obtain ⟨r8, l1, l2, e8, g8, p8, q8⟩ := n_ok (s2 := k2) (s3 := s3) (a := 6) g7 hl (by omega)
    obtain ⟨r9, m1, m2, e9, g9, p9, q9⟩ := n_ok (s2 := k2) (s3 := s3) (a := 2) g7 hl (by omega)
    rw [e7]
    simp only [Option.bind_some]
    by_cases z0 : r7 = 0
    · rw [if_pos z0, e8]
      exact ⟨⟨r8, r2, wrap64 (1 + r3), r4, r5⟩, l1, l2, rfl, g8⟩
    · rw [if_neg z0]
      by_cases z1 : r7 = 1
      · rw [if_pos z1, e9]
        simp only [Option.bind_some]
        rw [if_pos p9, if_pos (by simp; omega)]
        exact ⟨⟨_, _, _, _, _⟩, m1, m2, rfl, g9⟩
      · rw [if_neg z1]
        by_cases z2 : r7 = 2
        · rw [if_pos z2, e9]
          simp only [Option.bind_some]
          rw [if_pos p9, if_pos (by simp; omega)]
          exact ⟨⟨_, _, _, _, _⟩, m1, m2, rfl, g9⟩
        · rw [if_neg z2, e9]
          simp only [Option.bind_some]
          rw [if_pos p9, if_pos (by simp; omega)]
          exact ⟨⟨_, _, _, _, _⟩, m1, m2, rfl, g9⟩
  · rw [if_neg h]
    exact ⟨⟨wrap64 (2 + r1), r2, wrap64 (1 + r3), r4, r5⟩, j1, j2, rfl, g6⟩
theorem votes_l0 {s0 : List Int} {s3 : Int} (hl : s0.length ≤ 2000000) (d : Nat) (hd : d ≤ 100) : ∀ (k : Nat) (l : List VT) (s1 s2 : Int), l.length ≤ 401 → 0 ≤ s1 → d + 1000 < k →
    ∃ (m : List VT) (t1 t2 : Int), spec_l01Src_l11Votes.l0 k l (d : Int) s0 s1 s2 s3 = some (m, t1, t2, s3) ∧ m.length ≤ 402 ∧ 0 ≤ t1 := by
  induction d with
  | zero =>
    intro k l s1 s2 hm h0 hk
    obtain ⟨k, rfl⟩ := k_succ hk
    obtain ⟨r, a1, a2, e, g⟩ := one_ok (s2 := s2) (s3 := s3) (a := 25) h0 hl (by omega)
    simp only [spec_l01Src_l11Votes.l0]
    rw [if_neg (by omega), e]
    simp only [Option.bind_some]
    by_cases h : r = true
    · rw [if_pos h]
      obtain ⟨v, b1, b2, e2, g2⟩ := some_ok (s2 := a2) (s3 := s3) g hl
      rw [e2]
      simp only [Option.bind_some]
      rw [if_pos (by omega)]
      exact ⟨_, b1, b2, rfl, by simp; omega, g2⟩
    · rw [if_neg h]
      exact ⟨l, a1, a2, rfl, by omega, g⟩
  | succ d ih =>
    intro k l s1 s2 hm h0 hk
    obtain ⟨k, rfl⟩ := k_succ hk
    obtain ⟨v, b1, b2, e2, g2⟩ := some_ok (s2 := s2) (s3 := s3) h0 hl
    have hw : wrap64 (((d + 1 : Nat) : Int) - 1) = (d : Int) := by rw [w_id (by omega) (by omega)]; omega
    simp only [spec_l01Src_l11Votes.l0]
    rw [if_pos (by omega), e2]
    simp only [Option.bind_some]
    rw [spec_add_eq (by omega) (by omega), hw]
    simp only [Option.bind_some]
    have hb := addB_len l v
    split
    · exact ih (by omega) k _ b1 b2 hb g2 (by omega)
    · exact ih (by omega) k l b1 b2 hm g2 (by omega)
theorem votes_ok {s0 : List Int} {s1 s2 s3 : Int} (h0 : 0 ≤ s1) (hl : s0.length ≤ 2000000) {k : Nat} (hk : 2000 < k) : ∃ (m : List VT) (t1 t2 : Int), spec_l01Src_l11Votes.f k s0 s1 s2 s3 = some (m, t1, t2, s3) ∧ m.length ≤ 402 ∧ 0 ≤ t1 := by
  obtain ⟨r, a1, a2, e, g, p, q⟩ := n_ok (s2 := s2) (s3 := s3) (a := 30) h0 hl (by omega)
  unfold spec_l01Src_l11Votes.f
  rw [e]
  simp only [Option.bind_some]
  obtain ⟨d, rfl⟩ : ∃ d : Nat, r = (d : Int) := ⟨r.toNat, by omega⟩
  exact votes_l0 hl d (by omega) k [] a1 a2 (by simp) g (by omega)
theorem source_l0 {x0 : List Int} (hl : x0.length ≤ 2000000) (d : Nat) : ∀ (k i : Nat) (mix : Int), 64 ≤ i + d → d < k → ∃ m z, spec_l01Source.l0 k x0 (i : Int) x0 0 mix 0 = some (x0, 0, m, z) := by
  induction d with
  | zero =>
    intro k i mix hi hk
    obtain ⟨k, rfl⟩ := k_succ hk
    simp only [spec_l01Source.l0]
    by_cases h : (i : Int) < (x0.length : Int)
    · rw [if_pos h, if_neg (by omega)]
      split
      · exact ⟨_, _, rfl⟩
      · exact ⟨_, _, rfl⟩
    · rw [if_neg h]
      split
      · exact ⟨_, _, rfl⟩
      · exact ⟨_, _, rfl⟩
  | succ d ih =>
    intro k i mix hi hk
    obtain ⟨k, rfl⟩ := k_succ hk
    simp only [spec_l01Source.l0]
    by_cases h : (i : Int) < (x0.length : Int)
    · rw [if_pos h]
      by_cases h2 : (i : Int) < 64
      · rw [if_pos h2, if_pos (by omega), w_nat (n := x0.length) (by omega) (by omega)]
        exact ih k (i + 1) _ (by omega) (by omega)
      · rw [if_neg h2]
        split
        · exact ⟨_, _, rfl⟩
        · exact ⟨_, _, rfl⟩
    · rw [if_neg h]
      split
      · exact ⟨_, _, rfl⟩
      · exact ⟨_, _, rfl⟩
theorem source_ok {x0 : List Int} (hl : x0.length ≤ 2000000) {k : Nat} (hk : 64 < k) : ∃ m z, spec_l01Source.f k x0 = some (x0, 0, m, z) := by
  unfold spec_l01Source.f
  exact source_l0 hl 64 k 0 _ (by omega) hk
end Go.Proofs.Ytmfbkkjlijaabaa.Q
