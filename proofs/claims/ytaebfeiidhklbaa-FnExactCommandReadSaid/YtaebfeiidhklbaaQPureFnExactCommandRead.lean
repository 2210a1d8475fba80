/- CommandRead of the program returns what the reference's CommandRead returns, for every text. No condition. -/
import Derived.Test.YtaebfeiidhklbaaQSaidFnExactCommandRead
import Derived.Test.YtaebfeiidhklbaaQPlCommandR
import Derived.Test.YtaebfeiidhklbaaQx6
namespace Go.Proofs.Ytaebfeiidhklbaa.Q.PureFnExactCommandRead
open Go.RowKit Go.Proofs.YtaebfeiidhklbaaW.PrintWords Go.Proofs.YtaebfeiidhklbaaW.PrintLast Go.Proofs.Ytaebfeiidhklbaa.Q Go.Proofs.Ytaebfeiidhklbaa.HB
set_option linter.unusedVariables false
set_option linter.unusedSimpArgs false

theorem proved : SaidFnExactCommandRead.Pure := by
  intro x hx
  have hx := le_maxLen hx
  refine ⟨50000, ?_⟩
  unfold laws_FnExactCommandRead.f
  by_cases c1 : (x.size : Int) > 1048576
  · rw [if_pos c1]
  · rw [if_neg c1]
    have same : ∃ y, spec_CommandRead.f 50000 x = some y ∧ impl_CommandRead.f 50000 x = some y := by
      unfold spec_CommandRead.f impl_CommandRead.f
      by_cases c2 : (x.size : Int) > 20000
      · rw [if_pos c2, if_pos c2]
        exact ⟨_, rfl, rfl⟩
      · rw [if_neg c2, if_neg c2]
        obtain ⟨z, hz, h1, h2⟩ := spec_l06Read_eq (t := x) (by omega) (Nat.le_refl 50000)
        rw [hz, impl_commandRead_eq (t := x) (by omega) (Nat.le_refl 50000)]
        simp only [Option.bind_some]
        by_cases c3 : cBad x = false ∧ c7 x = x.size ∧ cRight x = true
        · rw [decide_eq_true c3] at h1
          rw [h2 h1, if_pos c3]
          exact ⟨_, rfl, rfl⟩
        · rw [decide_eq_false c3] at h1
          rw [h1, if_neg c3]
          exact ⟨_, rfl, rfl⟩
    obtain ⟨y, h1, h2⟩ := same
    rw [h1, h2]
    simp only [Option.bind_some, laws_eqCommandOut.f, laws_eqCommand.f, if_true]

end Go.Proofs.Ytaebfeiidhklbaa.Q.PureFnExactCommandRead
