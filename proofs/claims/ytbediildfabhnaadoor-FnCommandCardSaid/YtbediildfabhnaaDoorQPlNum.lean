/- Encodings of whole numbers: impl.putNum answers what spec.PutNum answers. -/
import Derived.Test.YtbediildfabhnaaDoorQx4
import Derived.Test.YtbediildfabhnaaDoorQx5
import Derived.Test.YtbediildfabhnaaDoorQPlNumS
namespace Go.Proofs.YtbediildfabhnaaDoor.Q
open Go.RowKit Go.Proofs.YtbediildfabhnaaDoorW.PrintWords Go.Proofs.YtbediildfabhnaaDoorW.PrintLast
set_option linter.unusedVariables false
set_option linter.unusedSimpArgs false

theorem or128_all : ∀ y : Fin 256, Go.bits .or .u8 ((y.val : Nat) : Int) 128 = ((y.val : Nat) : Int) % 128 + 128 := by decide +kernel
theorem or128 {x : Int} (h0 : 0 ≤ x) (h1 : x < 256) : Go.bits .or .u8 x 128 = x % 128 + 128 := by
  have := or128_all ⟨x.toNat, by omega⟩
  simp only at this
  rw [Int.toNat_of_nonneg h0] at this
  exact this
theorem allOnes64 : BitVec.ofInt 64 18446744073709551615 = BitVec.allOnes 64 := by decide
theorem xor_all {x : Int} (h0 : 0 ≤ x) (h1 : x < 18446744073709551616) : Go.bits .xor .u64 18446744073709551615 x = 18446744073709551615 - x := by
  have e : Go.bits .xor .u64 18446744073709551615 x = IntKind.u64.wrap ((BitVec.allOnes 64 ^^^ BitVec.ofInt 64 x).toNat : Int) := by
    rw [← allOnes64]
    rfl
  rw [e, u64_mod, BitVec.allOnes_xor, BitVec.toNat_not, BitVec.toNat_ofInt]
  have : (x % ((2 ^ 64 : Nat) : Int)).toNat = x.toNat := by
    rw [Int.emod_eq_of_lt h0 (by have : ((2 ^ 64 : Nat) : Int) = 18446744073709551616 := by decide
                                 omega)]
  rw [this]
  omega
theorem putNum_same : ∀ (k : Nat) (x : Int) (acc : List Int), 0 ≤ x → x < 18446744073709551616 → spec_PutNum.l0 k x acc = impl_putNum.l0 k x acc := by
  intro k
  induction k with
  | zero => intro x acc _ _; simp only [spec_PutNum.l0, impl_putNum.l0]
  | succ k ih =>
    intro x acc h0 h1
    simp only [spec_PutNum.l0, impl_putNum.l0]
    by_cases h : x ≥ 128
    · rw [if_pos h, if_pos (c := x > 127) (by omega), Int.tdiv_eq_ediv_of_nonneg h0, Int.tmod_eq_emod_of_nonneg h0, u64_mod, u64_mod, or128 (by omega) (by omega),
        show x / 128 % 18446744073709551616 = x / 128 by omega, show (x % 128 + 128) % 18446744073709551616 % 256 = x % 256 % 128 + 128 by omega]
      split
      · exact ih _ _ (by omega) (by omega)
      · rfl
    · rw [if_neg h, if_neg (c := x > 127) (by omega)]
theorem impl_num_eq {n : Int} (h0 : -9223372036854775808 ≤ n) (h1 : n ≤ 9223372036854775807) {k : Nat} (hk : 31 ≤ k) : impl_putNum.f k n = some (numT n) := by
  obtain ⟨k, rfl⟩ : ∃ m, k = m + 1 := ⟨k - 1, by omega⟩
  have h := spec_num_eq h0 h1 (k := k) (by omega)
  have hb : 0 ≤ foldN n ∧ foldN n < 18446744073709551616 := by unfold foldN; split <;> omega
  unfold spec_PutNum.f at h
  rw [spec_fold h0 h1] at h
  simp only [Option.bind_some] at h
  rw [putNum_same _ _ _ hb.1 hb.2] at h
  unfold impl_putNum.f
  simp only [impl_putNum.j0]
  unfold foldN at h
  by_cases hn : n < 0
  · rw [if_pos hn] at h ⊢
    rw [u64_mod, u64_mod, xor_all (by omega) (by omega), show 18446744073709551615 - n % 18446744073709551616 * 2 % 18446744073709551616 = -2 * n - 1 by omega]
    exact h
  · rw [if_neg hn] at h ⊢
    rw [u64_mod, u64_mod, show n % 18446744073709551616 * 2 % 18446744073709551616 = 2 * n by omega]
    exact h

end Go.Proofs.YtbediildfabhnaaDoor.Q
