/- Comparisons of lists of whole numbers with themselves: eqInt64S answers true. Lists of at most 2^63 - 1 elements. -/
import Derived.Test.YtmaliehmbodioaaQx6
import Derived.Test.YtmaliehmbodioaaQPlBase
namespace Go.Proofs.Ytmaliehmbodioaa.Q
open Go.RowKit Go.Proofs.YtmaliehmbodioaaW.PrintWords Go.Proofs.YtmaliehmbodioaaW.PrintLast
set_option linter.unusedVariables false
set_option linter.unusedSimpArgs false

theorem eqInt64S_l0 (l : List Int) (hl : l.length ≤ 9223372036854775807) (d : Nat) : ∀ (k i : Nat), i + d = l.length → d < k → laws_eqInt64S.l0 k l l (i : Int) = some true := by
  induction d with
  | zero =>
    intro k i hi hk
    obtain ⟨k, rfl⟩ := k_succ hk
    simp only [laws_eqInt64S.l0]
    rw [if_neg (by omega)]
  | succ d ih =>
    intro k i hi hk
    obtain ⟨k, rfl⟩ := k_succ hk
    simp only [laws_eqInt64S.l0]
    rw [if_pos (by omega), if_pos (by omega), if_pos (by omega), if_pos trivial, w_succ (n := l.length) (by omega) (by omega) (by omega)]
    exact_mod_cast ih k (i + 1) (by omega) (by omega)

theorem eqInt64S_eq {l : List Int} (hl : l.length ≤ 9223372036854775807) {k : Nat} (hk : l.length < k) : laws_eqInt64S.f k l l = some true := by
  unfold laws_eqInt64S.f
  rw [if_pos rfl]
  exact eqInt64S_l0 l hl l.length k 0 (by omega) hk

end Go.Proofs.Ytmaliehmbodioaa.Q
