/- PairKey of the program returns what the reference's PairKey returns. No condition. -/
import Derived.Test.YtgpgamapopnfcaaDoorQSaidFnExactPairKey
import Derived.Test.YtgpgamapopnfcaaDoorQPlKeys
import Derived.Test.YtgpgamapopnfcaaDoorQx16
namespace Go.Proofs.YtgpgamapopnfcaaDoor.Q.PureFnExactPairKey
open Go.RowKit Go.Proofs.YtgpgamapopnfcaaDoorW.PrintWords Go.Proofs.YtgpgamapopnfcaaDoorW.PrintLast Go.Proofs.YtgpgamapopnfcaaDoor.Q Go.Proofs.YtgpgamapopnfcaaDoor.HB
set_option linter.unusedVariables false
set_option linter.unusedSimpArgs false

theorem proved : SaidFnExactPairKey.Pure := by
  intro s a b _ _ _
  refine ⟨4, ?_⟩
  unfold laws_FnExactPairKey.f
  by_cases h : (s.size : Int) > 1048576
  · rw [if_pos h]
  · rw [if_neg h, pairKey_spec s a b 0, Option.bind_some, pairKey_impl, Option.bind_some, if_pos rfl]
end Go.Proofs.YtgpgamapopnfcaaDoor.Q.PureFnExactPairKey
