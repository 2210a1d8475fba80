/- Vector of the program returns what the reference's Vector returns, twice, in memory of its own. No condition. -/
import Derived.Test.YtgpgamapopnfcaaDoorQSaidFnExactVector
import Derived.Test.YtgpgamapopnfcaaDoorQPlVector
import Derived.Test.YtgpgamapopnfcaaDoorQPlStrS
import Derived.Test.YtgpgamapopnfcaaDoorQPlStrM
import Derived.Test.YtgpgamapopnfcaaDoorQx18
namespace Go.Proofs.YtgpgamapopnfcaaDoor.Q.PureFnExactVector
open Go.RowKit Go.Proofs.YtgpgamapopnfcaaDoorW.PrintWords Go.Proofs.YtgpgamapopnfcaaDoorW.PrintLast Go.Proofs.YtgpgamapopnfcaaDoor.Q Go.Proofs.YtgpgamapopnfcaaDoor.HB
set_option linter.unusedVariables false
set_option linter.unusedSimpArgs false

theorem proved : SaidFnExactVector.Pure := by
  intro s a t _ _ _
  refine ⟨100, ?_⟩
  unfold laws_FnExactVector.f
  by_cases h1 : (s.size : Int) > 1048576
  · rw [if_pos h1]
  rw [if_neg h1]
  by_cases h2 : (t.size : Int) > 1048576
  · rw [if_pos h2]
  rw [if_neg h2]
  have hv := vecR_len s a t
  have e1 : spec_Vector.f 100 s a t = some (vecR s a t) := vector_spec s a t 84
  have e2 : impl_Vector.f 100 s a t = some (vecR s a t) := vector_impl s a t 24
  have e3 := eqStringS_eq (l := vecR s a t) (by omega) (k := 100) (by omega)
  obtain ⟨o, m1, m2, m3⟩ := markStringS_eq (l := vecR s a t) (a := 1) (by omega) (by decide) (by decide) (k := 100) (by omega)
  have m4 := m3 100 (by omega)
  rw [e1, Option.bind_some, e2, Option.bind_some, e3, Option.bind_some, if_pos rfl, m1, Option.bind_some, m4, Option.bind_some, if_neg (by omega), if_pos rfl, Option.bind_some, e3, Option.bind_some, if_pos rfl]
  rw [Option.bind_some, if_neg (by omega), if_pos rfl]
end Go.Proofs.YtgpgamapopnfcaaDoor.Q.PureFnExactVector
