/- Encodings of whole numbers: what spec.PutNum answers: a text of at most eleven bytes. -/
import Derived.Test.YtcaildjhnkedfaaQx3
import Derived.Test.YtcaildjhnkedfaaQPlBase
namespace Go.Proofs.Ytcaildjhnkedfaa.Q
open Go.RowKit Go.Proofs.YtcaildjhnkedfaaW.PrintWords Go.Proofs.YtcaildjhnkedfaaW.PrintLast
set_option linter.unusedVariables false
set_option linter.unusedSimpArgs false

theorem u64_mod (n : Int) : IntKind.u64.wrap n = n % 18446744073709551616 := by simp [IntKind.wrap, IntKind.signed, IntKind.bits]
theorem strOfNums_len (l : List Int) : (strOfNums l).size = l.length := by simp [strOfNums, ByteArray.size]

theorem putNum_some (d : Nat) : ∀ (k : Nat) (x : Int) (acc : List Int), 0 ≤ x → x < 128 ^ (d + 1) → x < 18446744073709551616 → d < k → acc.length + d ≤ 1000 → ∃ r, spec_PutNum.l0 k x acc = some r ∧ r.size ≤ acc.length + d + 1 := by
  induction d with
  | zero =>
    intro k x acc h0 h1 h2 hk ha
    obtain ⟨k, rfl⟩ := k_succ hk
    simp only [spec_PutNum.l0]
    rw [if_neg (by simpa using h1), if_pos (by omega)]
    exact ⟨_, rfl, by rw [strOfNums_len]; simp⟩
  | succ d ih =>
    intro k x acc h0 h1 h2 hk ha
    obtain ⟨k, rfl⟩ := k_succ hk
    simp only [spec_PutNum.l0]
    by_cases h : x ≥ 128
    · have hp : (128 : Int) ^ (d + 1 + 1) = 128 ^ (d + 1) * 128 := Int.pow_succ ..
      rw [if_pos h, if_pos (by omega), Int.tdiv_eq_ediv_of_nonneg h0, u64_mod, show x / 128 % 18446744073709551616 = x / 128 by omega]
      obtain ⟨r, hr, hs⟩ := ih k (x / 128) (acc ++ [(IntKind.u64.wrap ((Int.tmod x 128) + 128)) % 256]) (by omega) (by omega) (by omega) (by omega) (by simp; omega)
      refine ⟨r, hr, ?_⟩
      simp only [List.length_append, List.length_cons, List.length_nil] at hs
      omega
    · rw [if_neg h, if_pos (by omega)]
      exact ⟨_, rfl, by rw [strOfNums_len]; simp⟩

/-- The number that is written for n. -/
def foldN (n : Int) : Int := if n < 0 then -2 * n - 1 else 2 * n
theorem spec_fold {n : Int} (h0 : -9223372036854775808 ≤ n) (h1 : n ≤ 9223372036854775807) : spec_l01Fold.f n = some (foldN n) := by
  unfold spec_l01Fold.f foldN
  by_cases h : n < 0
  · rw [if_pos h, if_pos h, w_id (i := n + 1) (by omega) (by omega), w_id (i := -(n + 1)) (by omega) (by omega), u64_mod, u64_mod, u64_mod]
    congr 1
    omega
  · rw [if_neg h, if_neg h, u64_mod, u64_mod]
    congr 1
    omega
/-- The text of n. -/
def numT (n : Int) : ByteArray := (spec_PutNum.f 30 n).getD ByteArray.empty
theorem spec_num_some {n : Int} (h0 : -9223372036854775808 ≤ n) (h1 : n ≤ 9223372036854775807) {k : Nat} (hk : 30 ≤ k) : ∃ r, spec_PutNum.f k n = some r ∧ r.size ≤ 10 := by
  unfold spec_PutNum.f
  rw [spec_fold h0 h1]
  have hb : 0 ≤ foldN n ∧ foldN n < 18446744073709551616 := by unfold foldN; split <;> omega
  simp only [Option.bind_some]
  have hp : foldN n < 128 ^ (9 + 1) := by
    have : (128 : Int) ^ (9 + 1) = 1180591620717411303424 := by decide
    omega
  obtain ⟨r, hr, hs⟩ := putNum_some 9 k (foldN n) [] hb.1 hp hb.2 (by omega) (by decide)
  exact ⟨r, hr, by simpa using hs⟩
theorem numT_size {n : Int} (h0 : -9223372036854775808 ≤ n) (h1 : n ≤ 9223372036854775807) : (numT n).size ≤ 10 := by
  obtain ⟨r, hr, hs⟩ := spec_num_some h0 h1 (Nat.le_refl 30)
  unfold numT
  rw [hr]
  exact hs
theorem spec_num_eq {n : Int} (h0 : -9223372036854775808 ≤ n) (h1 : n ≤ 9223372036854775807) {k : Nat} (hk : 30 ≤ k) : spec_PutNum.f k n = some (numT n) := by
  obtain ⟨r, hr, _⟩ := spec_num_some h0 h1 (Nat.le_refl 30)
  have : numT n = r := by unfold numT; rw [hr]; rfl
  rw [this]
  exact at_rounds (fun k => spec_PutNum.mono n k) hk hr

end Go.Proofs.Ytcaildjhnkedfaa.Q
