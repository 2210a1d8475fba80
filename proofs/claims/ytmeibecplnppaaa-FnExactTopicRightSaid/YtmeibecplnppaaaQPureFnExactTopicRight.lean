/- TopicRight of the program returns what the reference's TopicRight returns, for every topic. No condition. -/
import Derived.Test.YtmeibecplnppaaaQSaidFnExactTopicRight
import Derived.Test.YtmeibecplnppaaaQPlTopic
import Derived.Test.YtmeibecplnppaaaQx18
namespace Go.Proofs.Ytmeibecplnppaaa.Q.PureFnExactTopicRight
open Go.RowKit Go.Proofs.YtmeibecplnppaaaW.PrintWords Go.Proofs.YtmeibecplnppaaaW.PrintLast Go.Proofs.Ytmeibecplnppaaa.Q Go.Proofs.Ytmeibecplnppaaa.HB
set_option linter.unusedVariables false
set_option linter.unusedSimpArgs false

theorem proved : SaidFnExactTopicRight.Pure := by
  rintro ⟨nm, b, h, l⟩ ⟨hn, _, ⟨hh, hw⟩, hl, hg⟩
  have hn : nm.size ≤ 9223372036854775807 := le_maxLen hn
  have hh : h.length ≤ 9223372036854775807 := le_maxLen hh
  have hl : l.length ≤ 9223372036854775807 := le_maxLen hl
  let K := nm.size + (h.length + (l.length + (nmL l + 10))) + 1
  refine ⟨K, ?_⟩
  show laws_FnExactTopicRight.f K nm b h l = some true
  have hK : K = nm.size + (h.length + (l.length + (nmL l + 10))) + 1 := rfl
  clear_value K
  obtain ⟨r, hr, h3⟩ := szTopic_eq (nm := nm) (b := b) (h := h) (l := l) hn hh hl (fun x hx => le_maxLen (hw x hx)) (fun x hx => le_maxLen (hg x hx).1) (k := K) (by omega)
  unfold laws_FnExactTopicRight.f
  rw [hr]
  simp only [Option.bind_some]
  by_cases hr0 : r < 0
  · rw [if_pos hr0]
  · obtain ⟨h4, h5, h6, h7⟩ := h3 (by omega)
    have e1 : (l.map groupOf).length = l.length := by simp
    have e2 := nmI_map l
    rw [if_neg hr0, toTopic_eq (by omega) (by omega) (by omega)]
    simp only [Option.bind_some]
    rw [spec_topic_eq (by omega) (by omega) (by omega) (by omega) (by omega)]
    unfold impl_TopicRight.f
    rw [impl_topic_eq (by omega) (by omega) (by omega) (by omega) (by omega)]
    simp only [Option.bind_some]
    rw [if_neg (by simp), eqTopic_eq (by omega) (by omega) (by omega)]
    simp

end Go.Proofs.Ytmeibecplnppaaa.Q.PureFnExactTopicRight
