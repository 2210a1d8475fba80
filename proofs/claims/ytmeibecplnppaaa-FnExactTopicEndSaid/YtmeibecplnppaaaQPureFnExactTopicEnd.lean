/- TopicEnd of the program returns what the reference's TopicEnd returns, for every topic. No condition. -/
import Derived.Test.YtmeibecplnppaaaQSaidFnExactTopicEnd
import Derived.Test.YtmeibecplnppaaaQPlTopic
import Derived.Test.YtmeibecplnppaaaQx5
import Derived.Test.YtmeibecplnppaaaQx19
namespace Go.Proofs.Ytmeibecplnppaaa.Q.PureFnExactTopicEnd
open Go.RowKit Go.Proofs.YtmeibecplnppaaaW.PrintWords Go.Proofs.YtmeibecplnppaaaW.PrintLast Go.Proofs.Ytmeibecplnppaaa.Q Go.Proofs.Ytmeibecplnppaaa.HB
set_option linter.unusedVariables false
set_option linter.unusedSimpArgs false

theorem proved : SaidFnExactTopicEnd.Pure := by
  rintro ⟨nm, b, h, l⟩ ⟨hn, _, ⟨hh, hw⟩, hl, hg⟩
  have hn : nm.size ≤ 9223372036854775807 := le_maxLen hn
  have hh : h.length ≤ 9223372036854775807 := le_maxLen hh
  have hl : l.length ≤ 9223372036854775807 := le_maxLen hl
  let K := nm.size + (h.length + (l.length + (nmL l + 10))) + 1
  refine ⟨K, ?_⟩
  show laws_FnExactTopicEnd.f K nm b h l = some true
  have hK : K = nm.size + (h.length + (l.length + (nmL l + 10))) + 1 := rfl
  clear_value K
  obtain ⟨r, hr, h3⟩ := szTopic_eq (nm := nm) (b := b) (h := h) (l := l) hn hh hl (fun x hx => le_maxLen (hw x hx)) (fun x hx => le_maxLen (hg x hx).1) (k := K) (by omega)
  unfold laws_FnExactTopicEnd.f
  rw [hr]
  simp only [Option.bind_some]
  by_cases hr0 : r < 0
  · rw [if_pos hr0]
  · obtain ⟨h4, h5, h6, h7⟩ := h3 (by omega)
    have e1 : (l.map groupOf).length = l.length := by simp
    have e2 := nmI_map l
    rw [if_neg hr0, toTopic_eq (by omega) (by omega) (by omega)]
    simp only [Option.bind_some]
    have q1 : spec_TopicEnd.f K nm b h (l.map groupOf) = some (if topicB nm b h (l.map groupOf) = true then endB b h else 0) := by
      unfold spec_TopicEnd.f spec_l07End.f
      rw [spec_topic_eq (by omega) (by omega) (by omega) (by omega) (by omega)]
      simp only [Option.bind_some]
      split <;> rfl
    have q2 : impl_TopicEnd.f K nm b h (l.map groupOf) = some (if topicB nm b h (l.map groupOf) = true then endB b h else 0) := by
      unfold impl_TopicEnd.f impl_Topic_end.f
      rw [impl_topic_eq (by omega) (by omega) (by omega) (by omega) (by omega)]
      simp only [Option.bind_some]
      split <;> rfl
    rw [q1, q2]
    simp only [Option.bind_some]
    rw [if_pos trivial, eqTopic_eq (by omega) (by omega) (by omega)]
    simp

end Go.Proofs.Ytmeibecplnppaaa.Q.PureFnExactTopicEnd
