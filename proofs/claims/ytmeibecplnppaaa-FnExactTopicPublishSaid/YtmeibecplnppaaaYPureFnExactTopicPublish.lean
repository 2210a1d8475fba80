/- TopicPublish of the program returns what the reference's TopicPublish returns, for every topic and text, leaves its arguments as they were, and shares no memory. No condition. -/
import Derived.Test.YtmeibecplnppaaaYSaidFnExactTopicPublish
import Derived.Test.YtmeibecplnppaaaYPlTopicOut
import Derived.Test.YtmeibecplnppaaaYx5
import Derived.Test.YtmeibecplnppaaaYx8
import Derived.Test.YtmeibecplnppaaaYx9
namespace Go.Proofs.Ytmeibecplnppaaa.Y.PureFnExactTopicPublish
open Go.RowKit Go.Proofs.YtmeibecplnppaaaW.PrintWords Go.Proofs.YtmeibecplnppaaaW.PrintLast Go.Proofs.Ytmeibecplnppaaa.Y Go.Proofs.Ytmeibecplnppaaa.HB
set_option linter.unusedVariables false
set_option linter.unusedSimpArgs false

abbrev Out := ByteArray × Int × List ByteArray × List GT × List ByteArray × Int × Int
def ill (c : Int) : Out := (⟨#[]⟩, 0, [], [], [], 0, c)
/-- What TopicPublish answers. -/
def pubT (nm : ByteArray) (b : Int) (h : List ByteArray) (l : List GT) (x : ByteArray) : Out :=
  if x.size > 20000 then ill 2 else if topicB nm b h l = true ∧ msgB x = true then (if h.length = 20 ∨ endB b h = 1000000000 then ill 9 else (nm, b, h ++ [x], l, [], endB b h, 0)) else ill 1
theorem topicB_bounds {nm : ByteArray} {b : Int} {h : List ByteArray} {l : List GT} (ht : topicB nm b h l = true) : 0 ≤ b ∧ b ≤ 1000000000 ∧ h.length ≤ 20 ∧ l.length ≤ 4 ∧ endB b h ≤ 1000000000 := by
  unfold topicB at ht
  simp only [Bool.and_eq_true, decide_eq_true_eq] at ht
  omega
theorem endB_eq {b : Int} {h : List ByteArray} (h0 : 0 ≤ b) (h1 : b ≤ 1000000000) (h2 : h.length ≤ 21) : endB b h = b + (h.length : Int) := by
  unfold endB
  rw [w_id (by omega) (by omega)]
theorem pub2 {nm : ByteArray} {b : Int} {h : List ByteArray} {l : List GT} {x : ByteArray} (h20 : x.size > 20000) : pubT nm b h l x = ill 2 := if_pos h20
theorem pub1 {nm : ByteArray} {b : Int} {h : List ByteArray} {l : List GT} {x : ByteArray} (h20 : ¬ x.size > 20000) (ht : ¬ (topicB nm b h l = true ∧ msgB x = true)) : pubT nm b h l x = ill 1 := by
  unfold pubT
  rw [if_neg h20, if_neg ht]
theorem pub9 {nm : ByteArray} {b : Int} {h : List ByteArray} {l : List GT} {x : ByteArray} (h20 : ¬ x.size > 20000) (ht : topicB nm b h l = true ∧ msgB x = true) (hf : h.length = 20 ∨ endB b h = 1000000000) : pubT nm b h l x = ill 9 := by
  unfold pubT
  rw [if_neg h20, if_pos ht, if_pos hf]
theorem pub0 {nm : ByteArray} {b : Int} {h : List ByteArray} {l : List GT} {x : ByteArray} (h20 : ¬ x.size > 20000) (ht : topicB nm b h l = true ∧ msgB x = true) (hf : ¬ (h.length = 20 ∨ endB b h = 1000000000)) : pubT nm b h l x = (nm, b, h ++ [x], l, [], endB b h, 0) := by
  unfold pubT
  rw [if_neg h20, if_pos ht, if_neg hf]
theorem spec_pub {nm : ByteArray} {b : Int} {h : List ByteArray} {l : List GT} {x : ByteArray} (hn : nm.size ≤ 9223372036854775807) (hh : h.length ≤ 9223372036854775807) (hl : l.length ≤ 9223372036854775807) (hM : nmI l ≤ 9223372036854775807) {k : Nat}
    (hk : nm.size + (h.length + (l.length + (nmI l + 10))) < k) : spec_TopicPublish.f k nm b h l x = some (pubT nm b h l x) := by
  obtain ⟨k, rfl⟩ : ∃ m, k = m + 1 + 1 := ⟨k - 2, by omega⟩
  unfold spec_TopicPublish.f
  by_cases h20 : x.size > 20000
  · rw [if_pos (by omega), pub2 h20]
    rfl
  · rw [if_neg (by omega), spec_topic_eq hn hh hl hM hk, tbind]
    by_cases ht : topicB nm b h l = true
    · obtain ⟨b0, b1, hh20, hl4, he⟩ := topicB_bounds ht
      rw [if_pos ht, text_eq, tbind, spec_TopicPublish.j0]
      by_cases hm : msgB x = true
      · rw [if_neg (by simp [hm])]
        have he2 : spec_l07End.f nm b h l = some (endB b h) := rfl
        have hc : spec_l07Copy.f nm b h l = some (nm, b, h, l) := by
          unfold spec_l07Copy.f
          rw [tbind, if_pos (by simp; omega), tbind, if_pos (by simp; omega)]
          simp
        by_cases hf : h.length = 20
        · rw [pub9 h20 ⟨ht, hm⟩ (Or.inl hf), if_pos (by omega), spec_TopicPublish.j1, if_pos rfl]
          rfl
        · rw [if_neg (by omega), he2, tbind, spec_TopicPublish.j1]
          by_cases hg : endB b h = 1000000000
          · rw [pub9 h20 ⟨ht, hm⟩ (Or.inr hg), if_pos (by simp [hg])]
            rfl
          · rw [pub0 h20 ⟨ht, hm⟩ (by omega), if_neg (by simp; omega), hc, tbind, if_pos (by show h.length < 8796093022208; omega), he2, tbind]
      · rw [pub1 h20 (fun e => hm e.2), if_pos (by simp [hm])]
        rfl
    · rw [pub1 h20 (fun e => ht e.1), if_neg ht, spec_TopicPublish.j0, if_pos rfl]
      rfl
theorem impl_pub {nm : ByteArray} {b : Int} {h : List ByteArray} {l : List GT} {x : ByteArray} (hn : nm.size ≤ 9223372036854775807) (hh : h.length ≤ 9223372036854775807) (hl : l.length ≤ 9223372036854775807) (hM : nmI l ≤ 9223372036854775807) {k : Nat}
    (hk : nm.size + (h.length + (l.length + (nmI l + 10))) < k) : impl_TopicPublish.f k nm b h l x = some (pubT nm b h l x) := by
  unfold impl_TopicPublish.f
  by_cases h20 : x.size > 20000
  · rw [if_pos (by omega), pub2 h20]
    rfl
  · rw [if_neg (by omega), impl_topic_eq hn hh hl hM hk, tbind]
    by_cases ht : topicB nm b h l = true
    · obtain ⟨b0, b1, hh20, hl4, he⟩ := topicB_bounds ht
      rw [if_pos ht, message_eq, tbind]
      by_cases hm : msgB x = true
      · rw [if_pos hm]
        have hc : impl_cloneTopic.f nm b h l = some (nm, b, h, l) := by
          unfold impl_cloneTopic.f slices_Clone_string_string.f impl_Group.f
          rw [tbind, if_pos (by simp; omega), tbind, tbind, if_pos (by simp; omega), tbind]
          simp
        have he2 : ∀ y : List ByteArray, impl_Topic_end.f nm b y l = some (endB b y) := fun _ => rfl
        rw [hc, tbind]
        show (impl_Topic_publish.f nm b h l x).bind _ = _
        unfold impl_Topic_publish.f
        by_cases hf : h.length = 20
        · rw [pub9 h20 ⟨ht, hm⟩ (Or.inl hf), if_pos (by omega), tbind]
          rfl
        · rw [if_neg (by omega), he2, tbind]
          by_cases hg : endB b h = 1000000000
          · rw [pub9 h20 ⟨ht, hm⟩ (Or.inr hg), if_pos hg, tbind]
            rfl
          · rw [pub0 h20 ⟨ht, hm⟩ (by omega), if_neg hg, if_pos (by omega), he2, tbind, tbind]
            have e1 : endB b h = b + (h.length : Int) := endB_eq b0 b1 (by omega)
            have e2 : endB b (h ++ [x]) = b + (h.length : Int) + 1 := by
              rw [endB_eq b0 b1 (by simp; omega)]
              simp
              omega
            have e3 : wrap64 (endB b (h ++ [x]) - 1) = endB b h := by
              rw [e2, e1, w_id (by omega) (by omega)]
              omega
            rw [e3]
            rfl
      · rw [pub1 h20 (fun e => hm e.2), if_neg hm]
        rfl
    · rw [pub1 h20 (fun e => ht e.1), if_neg ht]
      rfl
theorem pubT_len {nm : ByteArray} {b : Int} {h : List ByteArray} {l : List GT} {x : ByteArray} : (pubT nm b h l x).2.2.1.length ≤ 21 ∧ (pubT nm b h l x).2.2.2.1.length ≤ 4 ∧ (pubT nm b h l x).2.2.2.2.1.length ≤ 21 := by
  unfold pubT
  split
  · simp [ill]
  · split
    · next ht =>
      obtain ⟨b0, b1, hh20, hl4, he⟩ := topicB_bounds ht.1
      split
      · simp [ill]
      · simp
        omega
    · simp [ill]

theorem proved : SaidFnExactTopicPublish.Pure := by
  rintro ⟨nm, b, h, l⟩ x ⟨hn, _, ⟨hh, hw⟩, hl, hg⟩ hxs
  have hn : nm.size ≤ 9223372036854775807 := le_maxLen hn
  have hh : h.length ≤ 9223372036854775807 := le_maxLen hh
  have hl : l.length ≤ 9223372036854775807 := le_maxLen hl
  let K := nm.size + (h.length + (l.length + (nmL l + 10))) + 100
  refine ⟨K, ?_⟩
  show laws_FnExactTopicPublish.f K nm b h l x = some true
  have hK : K = nm.size + (h.length + (l.length + (nmL l + 10))) + 100 := rfl
  clear_value K
  obtain ⟨r, hr, h3⟩ := szTopic_eq (nm := nm) (b := b) (h := h) (l := l) hn hh hl (fun x hx => le_maxLen (hw x hx)) (fun x hx => le_maxLen (hg x hx).1) (k := K) (by omega)
  unfold laws_FnExactTopicPublish.f
  by_cases hg0 : (x.size : Int) > 1048576
  · rw [if_pos hg0]
  rw [if_neg hg0, hr, tbind]
  by_cases hr0 : r < 0
  · rw [if_pos hr0]
  · obtain ⟨h4, h5, h6, h7⟩ := h3 (by omega)
    have e1 : (l.map groupOf).length = l.length := by simp
    have e2 := nmI_map l
    obtain ⟨K', rfl⟩ : ∃ m, K = m + 1 := ⟨K - 1, by omega⟩
    have q1 := spec_pub (nm := nm) (b := b) (h := h) (l := l.map groupOf) (x := x) (by omega) (by omega) (by omega) (by omega) (k := K' + 1) (by omega)
    have q2 := impl_pub (nm := nm) (b := b) (h := h) (l := l.map groupOf) (x := x) (by omega) (by omega) (by omega) (by omega) (k := K' + 1) (by omega)
    have q3 := impl_pub (nm := nm) (b := b) (h := h) (l := l.map groupOf) (x := x) (by omega) (by omega) (by omega) (by omega) (k := K') (by omega)
    obtain ⟨p1, p2, p3⟩ := pubT_len (nm := nm) (b := b) (h := h) (l := l.map groupOf) (x := x)
    generalize pubT nm b h (l.map groupOf) x = o at q1 q2 q3 p1 p2 p3
    obtain ⟨o1, o2, o3, o4, o5, o6, o7⟩ := o
    replace p1 : o3.length ≤ 21 := p1
    replace p2 : o4.length ≤ 4 := p2
    replace p3 : o5.length ≤ 21 := p3
    have c1 : laws_toTopic.f (K' + 1) nm b h l = some (nm, b, h, l.map groupOf) := toTopic_eq (by omega) (by omega) (by omega)
    have c2 : laws_toTopic.f K' nm b h l = some (nm, b, h, l.map groupOf) := toTopic_eq (by omega) (by omega) (by omega)
    have d1 : laws_eqTopicOut.f (K' + 1) o1 o2 o3 o4 o5 o6 o7 o1 o2 o3 o4 o5 o6 o7 = some true := eqTopicOut_eq (by omega) (by omega) (by omega) (by omega)
    have d2 : laws_eqTopicOut.f K' o1 o2 o3 o4 o5 o6 o7 o1 o2 o3 o4 o5 o6 o7 = some true := eqTopicOut_eq (by omega) (by omega) (by omega) (by omega)
    have d3 : laws_eqTopic.f (K' + 1) nm b h (l.map groupOf) nm b h (l.map groupOf) = some true := eqTopic_eq (by omega) (by omega) (by omega)
    obtain ⟨m1, m2, g1, g2, g3, g4⟩ := markTopic_eq (nm := nm) (b := b) (h := h) (l := l.map groupOf) (a := 1) (by omega) (by omega) (by omega) (by omega) (k := K' + 1) (by omega)
    obtain ⟨m, n1, n2, n3, f1, f2, f3⟩ := markTopicOut_eq (nm := o1) (b := o2) (h := o3) (l := o4) (t := o5) (n := o6) (c := o7) (by omega) (by omega) (by omega) (k := K') (by omega)
    rw [if_neg hr0, c1, tbind, q1, tbind, tbind, q2, tbind, d1, tbind, if_pos rfl, tbind, d3, tbind, if_pos rfl, g1, tbind]
    rw [if_neg (by show ¬ (1 + (h.length : Int) + 2 * ((l.map groupOf).length : Int)) < 0; omega), tbind, laws_FnExactTopicPublish.j0]
    rw [if_neg (by decide), f2, tbind]
    have f4 := f3 K' (by omega)
    rw [f4, tbind, if_neg (by omega), if_pos rfl, c2, tbind, q3, tbind, d2, tbind, if_pos rfl, tbind, if_neg (by omega), if_pos rfl]

end Go.Proofs.Ytmeibecplnppaaa.Y.PureFnExactTopicPublish
