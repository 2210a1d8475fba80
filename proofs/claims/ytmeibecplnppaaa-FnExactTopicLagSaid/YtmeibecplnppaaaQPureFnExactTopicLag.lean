/- TopicLag of the program returns what the reference's TopicLag returns, for every topic. No condition. -/
import Derived.Test.YtmeibecplnppaaaQSaidFnExactTopicLag
import Derived.Test.YtmeibecplnppaaaQPlTopic
import Derived.Test.YtmeibecplnppaaaQx6
import Derived.Test.YtmeibecplnppaaaQx20
namespace Go.Proofs.Ytmeibecplnppaaa.Q.PureFnExactTopicLag
open Go.RowKit Go.Proofs.YtmeibecplnppaaaW.PrintWords Go.Proofs.YtmeibecplnppaaaW.PrintLast Go.Proofs.Ytmeibecplnppaaa.Q Go.Proofs.Ytmeibecplnppaaa.HB
set_option linter.unusedVariables false
set_option linter.unusedSimpArgs false

def lagStep (e : Int) (g : ByteArray) (l : List GT) (i : Nat) : Option Int := if (rd_T52 l (i : Int)).f0.toList = g.toList then some (wrap64 (e - (rd_T52 l (i : Int)).f1)) else none
def lagB (e : Int) (g : ByteArray) (l : List GT) : Int := scanFrom (lagStep e g l) 0 l.length 0
theorem spec_lag {nm g : ByteArray} {b : Int} {h : List ByteArray} {l : List GT} (hl : l.length ≤ 9223372036854775807) {k : Nat} (hk : l.length < k) : spec_TopicLag.l0 k g 0 nm b h l = some (lagB (endB b h) g l) := by
  unfold lagB
  refine scanLoop (n := l.length) (m := 0) (F := fun k i => spec_TopicLag.l0 k g i nm b h l) (fun k => ?_) (fun k i hm hi => ?_) l.length k 0 (by omega) (by omega)
  · simp only [spec_TopicLag.l0]
    rw [if_neg (by omega)]
  · simp only [spec_TopicLag.l0, spec_l07End.f, Option.bind_some, lagStep]
    rw [if_pos (by omega), if_pos (by omega), w_nat hi hl]
    unfold endB
    split <;> rfl
theorem impl_lag {nm g : ByteArray} {b : Int} {h : List ByteArray} {l : List GT} (hl : l.length ≤ 9223372036854775807) {k : Nat} (hk : l.length < k) : impl_TopicLag.l0 k g l (l.length : Int) 0 nm b h l = some (lagB (endB b h) g l) := by
  unfold lagB
  refine scanLoop (n := l.length) (m := 0) (F := fun k i => impl_TopicLag.l0 k g l (l.length : Int) i nm b h l) (fun k => ?_) (fun k i hm hi => ?_) l.length k 0 (by omega) (by omega)
  · simp only [impl_TopicLag.l0]
    rw [if_neg (by omega)]
  · simp only [impl_TopicLag.l0, impl_Topic_end.f, Option.bind_some, lagStep]
    rw [if_pos (by omega), if_pos (by omega), if_pos (by omega), w_nat hi hl]
    unfold endB
    split <;> rfl
/-- What TopicLag answers. -/
def lagT (nm : ByteArray) (b : Int) (h : List ByteArray) (l : List GT) (g : ByteArray) : Int := if g.size > 20000 then 0 else if topicB nm b h l = true then lagB (endB b h) g l else 0

theorem proved : SaidFnExactTopicLag.Pure := by
  rintro ⟨nm, b, h, l⟩ g ⟨hn, _, ⟨hh, hw⟩, hl, hg⟩ hgs
  have hn : nm.size ≤ 9223372036854775807 := le_maxLen hn
  have hh : h.length ≤ 9223372036854775807 := le_maxLen hh
  have hl : l.length ≤ 9223372036854775807 := le_maxLen hl
  let K := nm.size + (h.length + (l.length + (nmL l + 10))) + 1
  refine ⟨K, ?_⟩
  show laws_FnExactTopicLag.f K nm b h l g = some true
  have hK : K = nm.size + (h.length + (l.length + (nmL l + 10))) + 1 := rfl
  clear_value K
  obtain ⟨r, hr, h3⟩ := szTopic_eq (nm := nm) (b := b) (h := h) (l := l) hn hh hl (fun x hx => le_maxLen (hw x hx)) (fun x hx => le_maxLen (hg x hx).1) (k := K) (by omega)
  unfold laws_FnExactTopicLag.f
  by_cases hg0 : (g.size : Int) > 1048576
  · rw [if_pos hg0]
  rw [if_neg hg0, hr]
  simp only [Option.bind_some]
  by_cases hr0 : r < 0
  · rw [if_pos hr0]
  · obtain ⟨h4, h5, h6, h7⟩ := h3 (by omega)
    have e1 : (l.map groupOf).length = l.length := by simp
    have e2 := nmI_map l
    rw [if_neg hr0, toTopic_eq (by omega) (by omega) (by omega)]
    simp only [Option.bind_some]
    obtain ⟨K', rfl⟩ : ∃ m, K = m + 1 := ⟨K - 1, by omega⟩
    have q1 : spec_TopicLag.f (K' + 1) nm b h (l.map groupOf) g = some (lagT nm b h (l.map groupOf) g) := by
      unfold spec_TopicLag.f lagT
      rw [spec_topic_eq (by omega) (by omega) (by omega) (by omega) (by omega)]
      simp only [Option.bind_some, spec_TopicLag.j0]
      rw [spec_lag (by omega) (by omega)]
      by_cases h20 : g.size > 20000
      · rw [if_pos (by omega), if_pos h20, if_pos trivial]
      · rw [if_neg (by omega), if_neg h20]
        cases topicB nm b h (l.map groupOf) <;> simp
    have q2 : impl_TopicLag.f (K' + 1) nm b h (l.map groupOf) g = some (lagT nm b h (l.map groupOf) g) := by
      unfold impl_TopicLag.f lagT
      rw [impl_topic_eq (by omega) (by omega) (by omega) (by omega) (by omega)]
      simp only [Option.bind_some, impl_TopicLag.j0]
      rw [impl_lag (by omega) (by omega)]
      by_cases h20 : g.size > 20000
      · rw [if_pos (by omega), if_pos h20, if_pos trivial]
      · rw [if_neg (by omega), if_neg h20]
        cases topicB nm b h (l.map groupOf) <;> simp
    rw [q1, q2]
    simp only [Option.bind_some]
    rw [if_pos trivial, eqTopic_eq (by omega) (by omega) (by omega)]
    simp

end Go.Proofs.Ytmeibecplnppaaa.Q.PureFnExactTopicLag
