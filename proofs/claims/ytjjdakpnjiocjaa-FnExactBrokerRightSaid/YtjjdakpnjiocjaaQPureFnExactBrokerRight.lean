/- BrokerRight of the program returns what the reference's BrokerRight returns, for every broker. No condition. -/
import Derived.Test.YtjjdakpnjiocjaaQSaidFnExactBrokerRight
import Derived.Test.YtjjdakpnjiocjaaQPlBroker
import Derived.Test.YtjjdakpnjiocjaaQx8
namespace Go.Proofs.Ytjjdakpnjiocjaa.Q.PureFnExactBrokerRight
open Go.RowKit Go.Proofs.YtjjdakpnjiocjaaW.PrintWords Go.Proofs.YtjjdakpnjiocjaaW.PrintLast Go.Proofs.Ytjjdakpnjiocjaa.Q Go.Proofs.Ytjjdakpnjiocjaa.HB
set_option linter.unusedVariables false
set_option linter.unusedSimpArgs false

theorem proved : SaidFnExactBrokerRight.Pure := by
  rintro ⟨l, r⟩ ⟨⟨hl, hg⟩, hr, hv⟩
  have hl : l.length ≤ 9223372036854775807 := le_maxLen hl
  have hr : r.length ≤ 9223372036854775807 := le_maxLen hr
  have hw : ∀ x ∈ l, okT x := fun x hx => ⟨le_maxLen (hg x hx).1, le_maxLen (hg x hx).2.2.1.1, le_maxLen (hg x hx).2.2.2.1, fun y hy => le_maxLen ((hg x hx).2.2.1.2 y hy), fun y hy => le_maxLen ((hg x hx).2.2.2.2 y hy).1⟩
  have hv : ∀ x ∈ r, x.f2.size ≤ 9223372036854775807 := fun x hx => le_maxLen (hv x hx).2.2
  let K := l.length + (r.length + (tmL l + 1)) + 5
  refine ⟨K, ?_⟩
  show laws_FnExactBrokerRight.f K l r = some true
  have hK : K = l.length + (r.length + (tmL l + 1)) + 5 := rfl
  clear_value K
  obtain ⟨s, hs, h1, h2, h3⟩ := szBroker_eq (l := l) (r := r) hl hw hr hv (k := K) (by omega)
  unfold laws_FnExactBrokerRight.f
  rw [hs]
  simp only [Option.bind_some]
  by_cases h : s < 0
  · rw [if_pos h]
  · obtain ⟨h4, h5, h6⟩ := h3 (by omega)
    have e1 : (l.map topicOf).length = l.length := by simp
    have e3 : (r.map replyOf).length = r.length := by simp
    have e2 := tmI_map l
    have e4 := tmL_le h6
    rw [if_neg h, toBroker_eq (by omega) (fun x hx => ⟨(h6 x hx).2.1, (h6 x hx).2.2.1⟩) (by omega) (by omega)]
    simp only [Option.bind_some]
    rw [spec_broker_eq (by omega) (by omega) (by omega) (by omega)]
    unfold impl_BrokerRight.f
    simp only [Option.bind_some]
    rw [impl_broker_eq (by omega) (by omega) (by omega) (by omega)]
    simp only [Option.bind_some]
    rw [if_neg (by simp), eqBroker_eq (by omega) (by omega) (by omega) (by omega)]
    simp

end Go.Proofs.Ytjjdakpnjiocjaa.Q.PureFnExactBrokerRight
