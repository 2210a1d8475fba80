/- TopicSeek of the program returns what the reference's TopicSeek returns, for every topic, group and number, leaves its arguments as they were, and shares no memory. No condition. -/
import Derived.Test.YtnjnjffjblgldaaQSaidFnExactTopicSeek
import Derived.Test.YtnjnjffjblgldaaQPlTopicOut
import Derived.Test.YtnjnjffjblgldaaQPlTopicSetT
import Derived.Test.YtnjnjffjblgldaaQx10
import Derived.Test.YtnjnjffjblgldaaQx14
import Derived.Test.YtnjnjffjblgldaaQx15
namespace Go.Proofs.Ytnjnjffjblgldaa.Q.PureFnExactTopicSeek
open Go.RowKit Go.Proofs.YtnjnjffjblgldaaW.PrintWords Go.Proofs.YtnjnjffjblgldaaW.PrintLast Go.Proofs.Ytnjnjffjblgldaa.Q Go.Proofs.Ytnjnjffjblgldaa.HB
set_option linter.unusedVariables false
set_option linter.unusedSimpArgs false

theorem spec_q {nm x : ByteArray} {b n : Int} {h : List ByteArray} {l : List GT} (hn : nm.size ≤ 9223372036854775807) (hh : h.length ≤ 9223372036854775807) (hl : l.length ≤ 9223372036854775807) (hM : nmI l ≤ 9223372036854775807) {k : Nat}
    (hk : nm.size + (h.length + (l.length + (nmI l + 20010))) < k) : spec_TopicSeek.f k nm b h l x n = some (setT nm b h l x n true) := by
  unfold spec_TopicSeek.f
  rw [spec_set hn hh hl hM hk, tbind]
theorem impl_q {nm x : ByteArray} {b n : Int} {h : List ByteArray} {l : List GT} (hn : nm.size ≤ 9223372036854775807) (hh : h.length ≤ 9223372036854775807) (hl : l.length ≤ 9223372036854775807) (hM : nmI l ≤ 9223372036854775807) {k : Nat}
    (hk : nm.size + (h.length + (l.length + (nmI l + 20010))) < k) : impl_TopicSeek.f k nm b h l x n = some (setT nm b h l x n true) := by
  unfold impl_TopicSeek.f setT
  by_cases h20 : x.size > 20000
  · rw [if_pos (by omega), code2 h20, if_neg (by decide)]
    rfl
  · rw [if_neg (by omega), impl_topic_eq hn hh hl hM (by omega), tbind]
    by_cases ht : topicB nm b h l = true
    · obtain ⟨b0, b1, hh20, hl4, he, hg⟩ := topicB_all ht
      rw [if_pos ht, impl_name_eq (by omega) (by omega), tbind]
      by_cases hm : nameB x = true
      · rw [if_pos hm, clone_ok hh20 hl4, tbind]
        show (impl_Topic_move.f nm b h l x n true).bind _ = _
        rw [impl_move hl4, tbind]
        generalize (if true = true then b else (rd_T55 (grpL b l x) (bsI l x : Int)).f1) = low
        by_cases hf : bsF l x = true ∨ l.length ≠ 4
        · rw [if_pos hf, code0 h20 ⟨ht, hm, rfl⟩ hf, if_pos rfl]
          by_cases hs : low ≤ n ∧ n ≤ endB b h
          · rw [if_pos hs, if_pos hs]
            rfl
          · rw [if_neg hs, if_neg hs]
            rfl
        · rw [if_neg hf, code9 h20 ⟨ht, hm, rfl⟩ hf, if_neg (by decide)]
          rfl
      · rw [if_neg hm, code1 h20 (fun e => hm e.2.1), if_neg (by decide)]
        rfl
    · rw [if_neg ht, code1 h20 (fun e => ht e.1), if_neg (by decide)]
      rfl

theorem proved : SaidFnExactTopicSeek.Pure := by
  rintro ⟨nm, b, h, l⟩ x n ⟨hn, _, ⟨hh, hw⟩, hl, hg⟩ hxs hns
  have hn : nm.size ≤ 9223372036854775807 := le_maxLen hn
  have hh : h.length ≤ 9223372036854775807 := le_maxLen hh
  have hl : l.length ≤ 9223372036854775807 := le_maxLen hl
  let K := nm.size + (h.length + (l.length + (nmL l + 20010))) + 100
  refine ⟨K, ?_⟩
  show laws_FnExactTopicSeek.f K nm b h l x n = some true
  have hK : K = nm.size + (h.length + (l.length + (nmL l + 20010))) + 100 := rfl
  clear_value K
  obtain ⟨r, hr, h3⟩ := szTopic_eq (nm := nm) (b := b) (h := h) (l := l) hn hh hl (fun x hx => le_maxLen (hw x hx)) (fun x hx => le_maxLen (hg x hx).1) (k := K) (by omega)
  unfold laws_FnExactTopicSeek.f
  by_cases hg0 : (x.size : Int) > 1048576
  · rw [if_pos hg0]
  rw [if_neg hg0, hr, tbind]
  by_cases hr0 : r < 0
  · rw [if_pos hr0]
  · obtain ⟨h4, h5, h6, h7⟩ := h3 (by omega)
    have e1 : (l.map groupOf).length = l.length := by simp
    have e2 := nmI_map l
    obtain ⟨K', rfl⟩ : ∃ m, K = m + 1 := ⟨K - 1, by omega⟩
    have q1 := spec_q (n := n) (nm := nm) (b := b) (h := h) (l := l.map groupOf) (x := x) (by omega) (by omega) (by omega) (by omega) (k := K' + 1) (by omega)
    have q2 := impl_q (n := n) (nm := nm) (b := b) (h := h) (l := l.map groupOf) (x := x) (by omega) (by omega) (by omega) (by omega) (k := K' + 1) (by omega)
    have q3 := impl_q (n := n) (nm := nm) (b := b) (h := h) (l := l.map groupOf) (x := x) (by omega) (by omega) (by omega) (by omega) (k := K') (by omega)
    obtain ⟨p1, p2, p3⟩ := setT_len (n := n) (back := true) (nm := nm) (b := b) (h := h) (l := l.map groupOf) (x := x)
    generalize setT nm b h (l.map groupOf) x n true = o at q1 q2 q3 p1 p2 p3
    obtain ⟨o1, o2, o3, o4, o5, o6, o7⟩ := o
    replace p1 : o3.length ≤ 21 := p1
    replace p2 : o4.length ≤ 4 := p2
    replace p3 : o5.length ≤ 21 := p3
    have c1 : laws_toTopic.f (K' + 1) nm b h l = some (nm, b, h, l.map groupOf) := toTopic_eq (by omega) (by omega) (by omega)
    have c2 : laws_toTopic.f K' nm b h l = some (nm, b, h, l.map groupOf) := toTopic_eq (by omega) (by omega) (by omega)
    have d1 : laws_eqTopicOut.f (K' + 1) o1 o2 o3 o4 o5 o6 o7 o1 o2 o3 o4 o5 o6 o7 = some true := eqTopicOut_eq (by omega) (by omega) (by omega) (by omega)
    have d2 : laws_eqTopicOut.f K' o1 o2 o3 o4 o5 o6 o7 o1 o2 o3 o4 o5 o6 o7 = some true := eqTopicOut_eq (by omega) (by omega) (by omega) (by omega)
    have d3 : laws_eqTopic.f (K' + 1) nm b h (l.map groupOf) nm b h (l.map groupOf) = some true := eqTopic_eq (by omega) (by omega) (by omega)
    obtain ⟨m1, m2, g1, g2, g3, g4⟩ := markTopic_eq (nm := nm) (b := b) (h := h) (l := l.map groupOf) (a := 1) (by omega) (by omega) (by omega) (by omega) (k := K' + 1) (by omega)
    obtain ⟨m, n1, n2, n3, f1, f2, f3⟩ := markTopicOut_eq (nm := o1) (b := o2) (h := o3) (l := o4) (t := o5) (n := o6) (c := o7) (by omega) (by omega) (by omega) (k := K') (by omega)
    rw [if_neg hr0, c1, tbind, q1, tbind, tbind, q2, tbind, d1, tbind, if_pos rfl, tbind, d3, tbind, if_pos rfl, g1, tbind]
    rw [if_neg (by show ¬ (1 + (h.length : Int) + 2 * ((l.map groupOf).length : Int)) < 0; omega), tbind, laws_FnExactTopicSeek.j0]
    rw [if_neg (by decide), f2, tbind]
    have f4 := f3 K' (by omega)
    rw [f4, tbind, if_neg (by omega), if_pos rfl, c2, tbind, q3, tbind, d2, tbind, if_pos rfl, tbind, if_neg (by omega), if_pos rfl]

end Go.Proofs.Ytnjnjffjblgldaa.Q.PureFnExactTopicSeek
