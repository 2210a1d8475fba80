/- Copies and comparisons of lists of whole numbers: what toInt64S and eqInt64S answer. Lists of at most 2^45 elements. -/
import Derived.Test.YtohonglblcpdpaaQx6
import Derived.Test.YtohonglblcpdpaaQPlBase
namespace Go.Proofs.Ytohonglblcpdpaa.Q
open Go.RowKit Go.Proofs.YtohonglblcpdpaaW.PrintWords Go.Proofs.YtohonglblcpdpaaW.PrintLast

theorem toInt64S_l0 (l : List Int) (hl : l.length ≤ 35184372088832) (d : Nat) : ∀ (k i : Nat) (o : List Int), i + d = l.length → d < k → o.length = l.length → o.take i = l.take i →
    laws_toInt64S.l0 k l o (i : Int) = some l := by
  induction d with
  | zero =>
    intro k i o hi hk ho ht
    obtain ⟨k, rfl⟩ := k_succ hk
    simp only [laws_toInt64S.l0]
    rw [if_neg (by omega)]
    have : o = l := by rw [← List.take_of_length_le (l := o) (i := i) (by omega), ht, List.take_of_length_le (by omega)]
    rw [this]
  | succ d ih =>
    intro k i o hi hk ho ht
    obtain ⟨k, rfl⟩ := k_succ hk
    simp only [laws_toInt64S.l0]
    rw [if_pos (by omega), if_pos (by omega), if_pos (by omega), w_succ (n := l.length) (by omega) (by omega) (by omega)]
    have := ih k (i + 1) (o.set i (rd l i)) (by omega) (by omega) (by simpa using ho) (by
      have hlt : i < l.length := by omega
      rw [List.take_succ_eq_append_getElem (by simp; omega), List.take_succ_eq_append_getElem hlt, List.take_set, List.set_eq_of_length_le (by simp; omega), ht]
      simp [rd, List.getD, hlt])
    simpa using this

theorem toInt64S_eq {l : List Int} (hl : l.length ≤ 35184372088832) {k : Nat} (hk : l.length < k) : laws_toInt64S.f k l = some l := by
  unfold laws_toInt64S.f
  rw [if_pos (by omega), if_pos (by omega)]
  exact toInt64S_l0 l hl l.length k 0 _ (by omega) hk (by simp) (by simp)

theorem eqInt64S_l0 (l : List Int) (hl : l.length ≤ 9223372036854775807) (d : Nat) : ∀ (k i : Nat), i + d = l.length → d < k → laws_eqInt64S.l0 k l l (i : Int) = some true := by
  induction d with
  | zero =>
    intro k i hi hk
    obtain ⟨k, rfl⟩ := k_succ hk
    simp only [laws_eqInt64S.l0]
    rw [if_neg (by omega)]
  | succ d ih =>
    intro k i hi hk
    obtain ⟨k, rfl⟩ := k_succ hk
    simp only [laws_eqInt64S.l0]
    rw [if_pos (by omega), if_pos (by omega), if_pos (by omega), if_pos trivial, w_succ (n := l.length) (by omega) (by omega) (by omega)]
    exact_mod_cast ih k (i + 1) (by omega) (by omega)

theorem eqInt64S_eq {l : List Int} (hl : l.length ≤ 9223372036854775807) {k : Nat} (hk : l.length < k) : laws_eqInt64S.f k l l = some true := by
  unfold laws_eqInt64S.f
  rw [if_pos rfl]
  exact eqInt64S_l0 l hl l.length k 0 (by omega) hk

end Go.Proofs.Ytohonglblcpdpaa.Q
