/- TopicFetch of the program returns what the reference's TopicFetch returns, for every topic, group and number, leaves its arguments as they were, and shares no memory. No condition. -/
import Derived.Test.YtnjnjffjblgldaaQSaidFnExactTopicFetch
import Derived.Test.YtnjnjffjblgldaaQPlTopicOut
import Derived.Test.YtnjnjffjblgldaaQPlTopicFetchT
import Derived.Test.YtnjnjffjblgldaaQx11
import Derived.Test.YtnjnjffjblgldaaQx16
import Derived.Test.YtnjnjffjblgldaaQx17
namespace Go.Proofs.Ytnjnjffjblgldaa.Q.PureFnExactTopicFetch
open Go.RowKit Go.Proofs.YtnjnjffjblgldaaW.PrintWords Go.Proofs.YtnjnjffjblgldaaW.PrintLast Go.Proofs.Ytnjnjffjblgldaa.Q Go.Proofs.Ytnjnjffjblgldaa.HB
set_option linter.unusedVariables false
set_option linter.unusedSimpArgs false

theorem proved : SaidFnExactTopicFetch.Pure := by
  rintro ⟨nm, b, h, l⟩ x n ⟨hn, _, ⟨hh, hw⟩, hl, hg⟩ hxs hns
  have hn : nm.size ≤ 9223372036854775807 := le_maxLen hn
  have hh : h.length ≤ 9223372036854775807 := le_maxLen hh
  have hl : l.length ≤ 9223372036854775807 := le_maxLen hl
  let K := nm.size + (h.length + (l.length + (nmL l + 20010))) + 100
  refine ⟨K, ?_⟩
  show laws_FnExactTopicFetch.f K nm b h l x n = some true
  have hK : K = nm.size + (h.length + (l.length + (nmL l + 20010))) + 100 := rfl
  clear_value K
  obtain ⟨r, hr, h3⟩ := szTopic_eq (nm := nm) (b := b) (h := h) (l := l) hn hh hl (fun x hx => le_maxLen (hw x hx)) (fun x hx => le_maxLen (hg x hx).1) (k := K) (by omega)
  unfold laws_FnExactTopicFetch.f
  by_cases hg0 : (x.size : Int) > 1048576
  · rw [if_pos hg0]
  rw [if_neg hg0, hr, tbind]
  by_cases hr0 : r < 0
  · rw [if_pos hr0]
  · obtain ⟨h4, h5, h6, h7⟩ := h3 (by omega)
    have e1 : (l.map groupOf).length = l.length := by simp
    have e2 := nmI_map l
    obtain ⟨K', rfl⟩ : ∃ m, K = m + 1 := ⟨K - 1, by omega⟩
    have q1 := spec_fetch (a := n) (nm := nm) (b := b) (h := h) (l := l.map groupOf) (x := x) (by omega) (by omega) (by omega) (by omega) (k := K' + 1) (by omega)
    have q2 := impl_fetch (a := n) (nm := nm) (b := b) (h := h) (l := l.map groupOf) (x := x) (by omega) (by omega) (by omega) (by omega) (k := K' + 1) (by omega)
    have q3 := impl_fetch (a := n) (nm := nm) (b := b) (h := h) (l := l.map groupOf) (x := x) (by omega) (by omega) (by omega) (by omega) (k := K') (by omega)
    obtain ⟨p1, p2, p3⟩ := fetchT_len (a := n) (nm := nm) (b := b) (h := h) (l := l.map groupOf) (x := x)
    generalize fetchT nm b h (l.map groupOf) x n = o at q1 q2 q3 p1 p2 p3
    obtain ⟨o1, o2, o3, o4, o5, o6, o7⟩ := o
    replace p1 : o3.length ≤ 21 := p1
    replace p2 : o4.length ≤ 4 := p2
    replace p3 : o5.length ≤ 21 := p3
    have c1 : laws_toTopic.f (K' + 1) nm b h l = some (nm, b, h, l.map groupOf) := toTopic_eq (by omega) (by omega) (by omega)
    have c2 : laws_toTopic.f K' nm b h l = some (nm, b, h, l.map groupOf) := toTopic_eq (by omega) (by omega) (by omega)
    have d1 : laws_eqTopicOut.f (K' + 1) o1 o2 o3 o4 o5 o6 o7 o1 o2 o3 o4 o5 o6 o7 = some true := eqTopicOut_eq (by omega) (by omega) (by omega) (by omega)
    have d2 : laws_eqTopicOut.f K' o1 o2 o3 o4 o5 o6 o7 o1 o2 o3 o4 o5 o6 o7 = some true := eqTopicOut_eq (by omega) (by omega) (by omega) (by omega)
    have d3 : laws_eqTopic.f (K' + 1) nm b h (l.map groupOf) nm b h (l.map groupOf) = some true := eqTopic_eq (by omega) (by omega) (by omega)
    obtain ⟨m1, m2, g1, g2, g3, g4⟩ := markTopic_eq (nm := nm) (b := b) (h := h) (l := l.map groupOf) (a := 1) (by omega) (by omega) (by omega) (by omega) (k := K' + 1) (by omega)
    obtain ⟨m, n1, n2, n3, f1, f2, f3⟩ := markTopicOut_eq (nm := o1) (b := o2) (h := o3) (l := o4) (t := o5) (n := o6) (c := o7) (by omega) (by omega) (by omega) (k := K') (by omega)
    rw [if_neg hr0, c1, tbind, q1, tbind, tbind, q2, tbind, d1, tbind, if_pos rfl, tbind, d3, tbind, if_pos rfl, g1, tbind]
    rw [if_neg (by show ¬ (1 + (h.length : Int) + 2 * ((l.map groupOf).length : Int)) < 0; omega), tbind, laws_FnExactTopicFetch.j0]
    rw [if_neg (by decide), f2, tbind]
    have f4 := f3 K' (by omega)
    rw [f4, tbind, if_neg (by omega), if_pos rfl, c2, tbind, q3, tbind, d2, tbind, if_pos rfl, tbind, if_neg (by omega), if_pos rfl]

end Go.Proofs.Ytnjnjffjblgldaa.Q.PureFnExactTopicFetch
