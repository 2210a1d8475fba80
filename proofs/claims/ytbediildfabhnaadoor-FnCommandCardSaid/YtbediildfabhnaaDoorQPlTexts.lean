/- Encodings of lists of numbers and of texts by the program. -/
import Derived.Test.YtbediildfabhnaaDoorQx4
import Derived.Test.YtbediildfabhnaaDoorQx5
import Derived.Test.YtbediildfabhnaaDoorQPlTextS
import Derived.Test.YtbediildfabhnaaDoorQPlNum
namespace Go.Proofs.YtbediildfabhnaaDoor.Q
open Go.RowKit Go.Proofs.YtbediildfabhnaaDoorW.PrintWords Go.Proofs.YtbediildfabhnaaDoorW.PrintLast
set_option linter.unusedVariables false
set_option linter.unusedSimpArgs false

theorem impl_text_eq {s : ByteArray} (h : s.size ≤ 1000000000) {k : Nat} (hk : 31 ≤ k) : impl_putText.f k s = some (textT s) := by
  have := numT_size (n := (s.size : Int)) (by omega) (by omega)
  unfold impl_putText.f
  rw [impl_num_eq (by omega) (by omega) hk]
  simp only [Option.bind_some]
  rw [if_pos (by omega)]
  rfl
def numsT (l : List Int) (s : ByteArray) : ByteArray := l.foldl (fun s n => s ++ numT n) s
theorem putNums_l0 (l : List Int) (hl : l.length ≤ 50000000) (hw : ∀ x ∈ l, -9223372036854775808 ≤ x ∧ x ≤ 9223372036854775807) (d : Nat) : ∀ (k i : Nat) (s : ByteArray), i + d = l.length → d + 31 < k → s.size + 10 * d ≤ 1000000000 →
    impl_putNums.l0 k s l (l.length : Int) (i : Int) = some (numsT (l.drop i) s) := by
  induction d with
  | zero =>
    intro k i s hi hk _
    obtain ⟨k, rfl⟩ : ∃ m, k = m + 1 := ⟨k - 1, by omega⟩
    simp only [impl_putNums.l0]
    rw [if_neg (by omega), List.drop_of_length_le (by omega)]
    rfl
  | succ d ih =>
    intro k i s hi hk hs
    obtain ⟨k, rfl⟩ : ∃ m, k = m + 1 := ⟨k - 1, by omega⟩
    have hlt : i < l.length := by omega
    have e : rd l (i : Int) = l[i] := by simp [rd, List.getD, hlt]
    have hx := hw l[i] (List.getElem_mem hlt)
    have hz := numT_size hx.1 hx.2
    simp only [impl_putNums.l0]
    rw [if_pos (by omega), if_pos (by omega), if_pos (by omega), w_nat hlt (by omega), e, impl_num_eq hx.1 hx.2 (by omega)]
    simp only [Option.bind_some]
    rw [if_pos (by omega), ih k (i + 1) (s ++ numT l[i]) (by omega) (by omega) (by rw [ByteArray.size_append]; omega), List.drop_eq_getElem_cons hlt]
    rfl
theorem putNums_eq {l : List Int} (hl : l.length ≤ 50000000) (hw : ∀ x ∈ l, -9223372036854775808 ≤ x ∧ x ≤ 9223372036854775807) {k : Nat} (hk : l.length + 31 < k) : impl_putNums.f k l = some (numsT l ⟨#[]⟩) := by
  unfold impl_putNums.f
  have := putNums_l0 l hl hw l.length k 0 ⟨#[]⟩ (by omega) hk (by have : (⟨#[]⟩ : ByteArray).size = 0 := rfl
                                                                  omega)
  simpa using this

end Go.Proofs.YtbediildfabhnaaDoor.Q
