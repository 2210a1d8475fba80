/- markText gives a text for every number that a mark may be. -/
import Derived.Test.YtcaildjhnkedfaaQx12
import Derived.Test.YtcaildjhnkedfaaQPlLoops
namespace Go.Proofs.Ytcaildjhnkedfaa.Q
open Go.RowKit Go.Proofs.YtcaildjhnkedfaaW.PrintWords Go.Proofs.YtcaildjhnkedfaaW.PrintLast
set_option linter.unusedVariables false
set_option linter.unusedSimpArgs false

theorem strOfNums_size (l : List Int) : (strOfNums l).size = l.length := by
  simp [strOfNums, ByteArray.size]
theorem markText_l0 (d : Nat) : ∀ (k : Nat) (n : Int) (t : ByteArray), 0 ≤ n → n ≤ 9223372036854775807 → n < 10 ^ d → d < k → t.size + d ≤ 1000 → ∃ r, laws_markText.l0 k n t = some r := by
  induction d with
  | zero =>
    intro k n t h0 hb hn hk hd
    obtain ⟨k, rfl⟩ := k_succ hk
    simp only [laws_markText.l0]
    rw [if_neg (by have : (10 : Int) ^ 0 = 1 := rfl; omega), if_pos (by omega)]
    exact ⟨_, rfl⟩
  | succ d ih =>
    intro k n t h0 hb hn hk hd
    obtain ⟨k, rfl⟩ := k_succ hk
    simp only [laws_markText.l0]
    by_cases hp : n > 0
    · have e1 : ∀ x : Int, (strOfNums [x]).size = 1 := fun x => by rw [strOfNums_size]; rfl
      rw [if_pos hp]
      simp only [Option.bind_some]
      rw [if_pos (by rw [e1]; omega)]
      have hdiv : Int.tdiv n 10 = n / 10 := by rw [Int.tdiv_eq_ediv_of_nonneg h0]
      have hpow : (10 : Int) ^ (d + 1) = 10 ^ d * 10 := Int.pow_succ ..
      rw [hdiv, w_id (by omega) (by omega)]
      refine ih k (n / 10) _ (by omega) (by omega) (by omega) (by omega) ?_
      rw [ByteArray.size_append, e1]
      omega
    · rw [if_neg hp, if_pos (by omega)]
      exact ⟨_, rfl⟩
/-- The text of a mark. -/
def mt (n : Int) : ByteArray := (laws_markText.f 30 n).getD ByteArray.empty
theorem markText_eq {n : Int} (h0 : 0 ≤ n) (hn : n ≤ 1000000000) {k : Nat} (hk : 30 ≤ k) : laws_markText.f k n = some (mt n) := by
  have h : ∃ r, laws_markText.f 30 n = some r := by
    unfold laws_markText.f
    split
    · exact ⟨_, rfl⟩
    · exact markText_l0 19 30 n _ h0 (by omega) (by have : (10 : Int) ^ 19 = 10000000000000000000 := by decide
                                                    omega) (by omega) (by decide)
  obtain ⟨r, hr⟩ := h
  have : mt n = r := by unfold mt; rw [hr]; rfl
  rw [this]
  exact at_rounds (fun k => laws_markText.mono n k) hk hr

end Go.Proofs.Ytcaildjhnkedfaa.Q
