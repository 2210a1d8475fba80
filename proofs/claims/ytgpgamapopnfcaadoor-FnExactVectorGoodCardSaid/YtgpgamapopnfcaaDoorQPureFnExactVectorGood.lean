/- VectorGood of the program returns what the reference's VectorGood returns, and leaves its argument as it is. No condition. -/
import Derived.Test.YtgpgamapopnfcaaDoorQSaidFnExactVectorGood
import Derived.Test.YtgpgamapopnfcaaDoorQPlVector
import Derived.Test.YtgpgamapopnfcaaDoorQPlStrS
import Derived.Test.YtgpgamapopnfcaaDoorQx20
namespace Go.Proofs.YtgpgamapopnfcaaDoor.Q.PureFnExactVectorGood
open Go.RowKit Go.Proofs.YtgpgamapopnfcaaDoorW.PrintWords Go.Proofs.YtgpgamapopnfcaaDoorW.PrintLast Go.Proofs.YtgpgamapopnfcaaDoor.Q Go.Proofs.YtgpgamapopnfcaaDoor.HB
set_option linter.unusedVariables false
set_option linter.unusedSimpArgs false

theorem proved : SaidFnExactVectorGood.Pure := by
  rintro s a b t l _ _ _ _ ⟨hl, hw⟩
  have hl : l.length ≤ 9223372036854775807 := le_maxLen hl
  obtain ⟨K, hK⟩ : ∃ K, K = l.length + 100 := ⟨_, rfl⟩
  refine ⟨K, ?_⟩
  unfold laws_FnExactVectorGood.f
  by_cases h1 : (s.size : Int) > 1048576
  · rw [if_pos h1]
  rw [if_neg h1]
  by_cases h2 : (t.size : Int) > 1048576
  · rw [if_pos h2]
  rw [if_neg h2]
  unfold laws_szStringS.f
  by_cases h3 : wrap64 (1048576 - (l.length : Int)) < 0
  · rw [if_pos h3]; rfl
  rw [if_neg h3]
  have h4 : wrap64 (1048576 - (l.length : Int)) = 1048576 - (l.length : Int) := w_id (by omega) (by omega)
  rw [h4] at h3
  obtain ⟨r, hr, _, _⟩ := szStringS_l0 l hl (fun x hx => le_maxLen (hw x hx)) l.length K 0 (1048576 - (l.length : Int)) (by omega) (by omega) (by omega) (by omega)
  rw [h4]
  refine (congrArg (fun z => Option.bind z _) hr).trans ?_
  rw [Option.bind_some]
  by_cases h5 : r < 0
  · rw [if_pos h5]
  have gs : spec_VectorGood.f K s a b t l = some (goodR s a b t l) := by rw [show K = (l.length + 84) + 16 by omega]; exact good_spec s a b t l _
  have gi : impl_VectorGood.f K s a b t l = some (goodR s a b t l) := by rw [show K = (l.length + 30) + 70 by omega]; exact good_impl s a b t l _
  rw [if_neg h5, toStringS_eq (by omega) (by omega), Option.bind_some, gs, Option.bind_some, Option.bind_some, gi, Option.bind_some, if_neg (by simp), Option.bind_some, eqStringS_eq hl (by omega), Option.bind_some, if_pos rfl]
end Go.Proofs.YtgpgamapopnfcaaDoor.Q.PureFnExactVectorGood
