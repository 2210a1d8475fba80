/- Copies and comparisons of lists of whole numbers: what toInt64S and eqInt64S answer. Lists of at most 2^45 elements. -/
import Derived.Test.YtmaliehmbodioaaQx3
import Derived.Test.YtmaliehmbodioaaQPlEqInts
namespace Go.Proofs.Ytmaliehmbodioaa.Q
open Go.RowKit Go.Proofs.YtmaliehmbodioaaW.PrintWords Go.Proofs.YtmaliehmbodioaaW.PrintLast
set_option linter.unusedVariables false
set_option linter.unusedSimpArgs false

theorem toInt64S_l0 (l : List Int) (hl : l.length ≤ 35184372088832) (d : Nat) : ∀ (k i : Nat) (o : List Int), i + d = l.length → d < k → o.length = l.length → o.take i = l.take i →
    laws_toInt64S.l0 k l o (i : Int) = some l := by
  induction d with
  | zero =>
    intro k i o hi hk ho ht
    obtain ⟨k, rfl⟩ := k_succ hk
    simp only [laws_toInt64S.l0]
    rw [if_neg (by omega)]
    have : o = l := by rw [← List.take_of_length_le (l := o) (i := i) (by omega), ht, List.take_of_length_le (by omega)]
    rw [this]
  | succ d ih =>
    intro k i o hi hk ho ht
    obtain ⟨k, rfl⟩ := k_succ hk
    simp only [laws_toInt64S.l0]
    rw [if_pos (by omega), if_pos (by omega), if_pos (by omega), w_succ (n := l.length) (by omega) (by omega) (by omega)]
    have := ih k (i + 1) (o.set i (rd l i)) (by omega) (by omega) (by simpa using ho) (by
      have hlt : i < l.length := by omega
      rw [List.take_succ_eq_append_getElem (by simp; omega), List.take_succ_eq_append_getElem hlt, List.take_set, List.set_eq_of_length_le (by simp; omega), ht]
      simp [rd, List.getD, hlt])
    simpa using this

theorem toInt64S_eq {l : List Int} (hl : l.length ≤ 35184372088832) {k : Nat} (hk : l.length < k) : laws_toInt64S.f k l = some l := by
  unfold laws_toInt64S.f
  rw [if_pos (by omega), if_pos (by omega)]
  exact toInt64S_l0 l hl l.length k 0 _ (by omega) hk (by simp) (by simp)

end Go.Proofs.Ytmaliehmbodioaa.Q
