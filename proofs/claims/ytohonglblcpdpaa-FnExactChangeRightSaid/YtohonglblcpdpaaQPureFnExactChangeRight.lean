/- ChangeRight of the program returns what the reference's ChangeRight returns, for every change. No condition. -/
import Derived.Test.YtohonglblcpdpaaQSaidFnExactChangeRight
import Derived.Test.YtohonglblcpdpaaQPlChange
import Derived.Test.YtohonglblcpdpaaQx18
namespace Go.Proofs.Ytohonglblcpdpaa.Q.PureFnExactChangeRight
open Go.RowKit Go.Proofs.YtohonglblcpdpaaW.PrintWords Go.Proofs.YtohonglblcpdpaaW.PrintLast Go.Proofs.Ytohonglblcpdpaa.Q

theorem proved : SaidFnExactChangeRight.Pure := by
  rintro ⟨f, v, l⟩ ⟨_, _, hl, hg⟩
  have hl : l.length ≤ 9223372036854775807 := le_maxLen hl
  have hw : ∀ x ∈ l, okP x := fun x hx => ⟨le_maxLen (hg x hx).2.2.1, le_maxLen (hg x hx).2.2.2.1⟩
  let K := l.length + (byMaxL l + 1) + 2
  refine ⟨K, ?_⟩
  show laws_FnExactChangeRight.f K f v l = some true
  have hK : K = l.length + (byMaxL l + 1) + 2 := rfl
  clear_value K
  obtain ⟨r, hr, h1, h2, h3⟩ := szChange_eq (f := f) (v := v) (l := l) (n := 1048576) hl hw (by omega) (by omega) (k := K) (by omega)
  unfold laws_FnExactChangeRight.f
  rw [hr]
  simp only [Option.bind_some]
  by_cases h : r < 0
  · rw [if_pos h]
  · obtain ⟨h4, h5⟩ := h3 (by omega)
    have e1 : (l.map proofOf).length = l.length := by simp
    have e2 := byMax_map l
    rw [if_neg h, toChange_eq (by omega) (by omega) (by omega)]
    simp only [Option.bind_some]
    rw [spec_change_eq (by omega) (by omega) (by omega)]
    unfold impl_ChangeRight.f
    simp only [Option.bind_some]
    rw [impl_change_eq (by omega) (by omega) (by omega)]
    simp only [Option.bind_some]
    rw [if_neg (by simp), eqChange_eq (by omega) (by omega) (by omega)]
    simp

end Go.Proofs.Ytohonglblcpdpaa.Q.PureFnExactChangeRight
