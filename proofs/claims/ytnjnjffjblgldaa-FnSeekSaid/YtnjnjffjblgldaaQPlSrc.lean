/- The source of draws: numbers, choices and texts are always drawn. -/
import Derived.Test.YtnjnjffjblgldaaQx8
import Derived.Test.YtnjnjffjblgldaaQPlLoops
namespace Go.Proofs.Ytnjnjffjblgldaa.Q
open Go.RowKit Go.Proofs.YtnjnjffjblgldaaW.PrintWords Go.Proofs.YtnjnjffjblgldaaW.PrintLast Go.Proofs.Ytnjnjffjblgldaa.HB
set_option linter.unusedVariables false
set_option linter.unusedSimpArgs false

theorem u64_is (n : Int) : IntKind.u64.wrap n = n % 18446744073709551616 := by simp [IntKind.wrap, IntKind.signed, IntKind.bits]
theorem rem_ok {x a : Int} (ha : 1 ≤ a ∧ a ≤ 1000) : 0 ≤ wrap64 ((IntKind.u64.wrap x).tmod (IntKind.u64.wrap a)) ∧ wrap64 ((IntKind.u64.wrap x).tmod (IntKind.u64.wrap a)) < a := by
  have h1 : IntKind.u64.wrap a = a := by rw [u64_is]; omega
  have h2 : 0 ≤ IntKind.u64.wrap x := by rw [u64_is]; omega
  rw [h1]
  generalize IntKind.u64.wrap x = y at h2
  rw [Int.tmod_eq_emod_of_nonneg h2]
  have h3 := Int.emod_nonneg y (show a ≠ 0 by omega)
  have h4 := Int.emod_lt_of_pos y (show 0 < a by omega)
  rw [w_id (by omega) (by omega)]
  exact ⟨h3, h4⟩
theorem n_ok {s0 : List Int} {s1 s2 s3 a : Int} (h0 : 0 ≤ s1) (hl : s0.length ≤ 2000000) (ha : 2 ≤ a ∧ a ≤ 1000) : ∃ r t1 t2, spec_l01Src_n.f s0 s1 s2 s3 a = some (r, t1, t2, s3) ∧ 0 ≤ t1 ∧ 0 ≤ r ∧ r < a := by
  unfold spec_l01Src_n.f
  rw [if_neg (by omega), if_pos (by omega)]
  by_cases h : s1 < (s0.length : Int)
  · rw [if_pos h, if_pos h0]
    have := rem_ok (x := IntKind.u64.wrap (rd s0 s1) + (Go.bits .xor .u64 (Go.bits .xor .u64 (Go.bits .xor .u64 s2 (IntKind.u64.wrap (s2 * 8192))) ((Go.bits .xor .u64 s2 (IntKind.u64.wrap (s2 * 8192))) / 128)) (IntKind.u64.wrap ((Go.bits .xor .u64 (Go.bits .xor .u64 s2 (IntKind.u64.wrap (s2 * 8192))) ((Go.bits .xor .u64 s2 (IntKind.u64.wrap (s2 * 8192))) / 128)) * 131072))) / 1048576) (a := a) (by omega)
    exact ⟨_, _, _, rfl, by rw [w_id (by omega) (by omega)]; omega, this.1, this.2⟩
  · rw [if_neg h]
    have := rem_ok (x := (Go.bits .xor .u64 (Go.bits .xor .u64 (Go.bits .xor .u64 s2 (IntKind.u64.wrap (s2 * 8192))) ((Go.bits .xor .u64 s2 (IntKind.u64.wrap (s2 * 8192))) / 128)) (IntKind.u64.wrap ((Go.bits .xor .u64 (Go.bits .xor .u64 s2 (IntKind.u64.wrap (s2 * 8192))) ((Go.bits .xor .u64 s2 (IntKind.u64.wrap (s2 * 8192))) / 128)) * 131072))) / 1048576) (a := a) (by omega)
    exact ⟨_, _, _, rfl, h0, this.1, this.2⟩
theorem one_ok {s0 : List Int} {s1 s2 s3 a : Int} (h0 : 0 ≤ s1) (hl : s0.length ≤ 2000000) (ha : 2 ≤ a ∧ a ≤ 1000) : ∃ b t1 t2, spec_l01Src_one.f s0 s1 s2 s3 a = some (b, t1, t2, s3) ∧ 0 ≤ t1 := by
  obtain ⟨r, t1, t2, e, h1, _, _⟩ := n_ok (s2 := s2) (s3 := s3) h0 hl ha
  unfold spec_l01Src_one.f
  rw [e]
  exact ⟨_, t1, t2, rfl, h1⟩
theorem pick_ok {s0 : List Int} {s1 s2 s3 : Int} {l : List ByteArray} (h0 : 0 ≤ s1) (hl : s0.length ≤ 2000000) (ha : 2 ≤ l.length ∧ l.length ≤ 1000) : ∃ b t1 t2, spec_l01Src_pick.f s0 s1 s2 s3 l = some (b, t1, t2, s3) ∧ 0 ≤ t1 := by
  obtain ⟨r, t1, t2, e, h1, h2, h3⟩ := n_ok (s2 := s2) (s3 := s3) (a := (l.length : Int)) h0 hl (by omega)
  unfold spec_l01Src_pick.f
  rw [e]
  simp only [Option.bind_some]
  rw [if_pos h2, if_pos h3]
  exact ⟨_, t1, t2, rfl, h1⟩
theorem source_l0 {x0 : List Int} (hl : x0.length ≤ 2000000) (d : Nat) : ∀ (k i : Nat) (mix : Int), 64 ≤ i + d → d < k → ∃ m z, spec_l01Source.l0 k x0 (i : Int) x0 0 mix 0 = some (x0, 0, m, z) := by
  induction d with
  | zero =>
    intro k i mix hi hk
    obtain ⟨k, rfl⟩ := k_succ hk
    simp only [spec_l01Source.l0]
    by_cases h : (i : Int) < (x0.length : Int)
    · rw [if_pos h, if_neg (by omega)]
      split
      · exact ⟨_, _, rfl⟩
      · exact ⟨_, _, rfl⟩
    · rw [if_neg h]
      split
      · exact ⟨_, _, rfl⟩
      · exact ⟨_, _, rfl⟩
  | succ d ih =>
    intro k i mix hi hk
    obtain ⟨k, rfl⟩ := k_succ hk
    simp only [spec_l01Source.l0]
    by_cases h : (i : Int) < (x0.length : Int)
    · rw [if_pos h]
      by_cases h2 : (i : Int) < 64
      · rw [if_pos h2, if_pos (by omega), w_nat (n := x0.length) (by omega) (by omega)]
        exact ih k (i + 1) _ (by omega) (by omega)
      · rw [if_neg h2]
        split
        · exact ⟨_, _, rfl⟩
        · exact ⟨_, _, rfl⟩
    · rw [if_neg h]
      split
      · exact ⟨_, _, rfl⟩
      · exact ⟨_, _, rfl⟩
theorem source_ok {x0 : List Int} (hl : x0.length ≤ 2000000) {k : Nat} (hk : 64 < k) : ∃ m z, spec_l01Source.f k x0 = some (x0, 0, m, z) := by
  unfold spec_l01Source.f
  exact source_l0 hl 64 k 0 _ (by omega) hk

end Go.Proofs.Ytnjnjffjblgldaa.Q
