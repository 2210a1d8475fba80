/- TopicRetain of the program returns what the reference's TopicRetain returns, for every topic and number, leaves its arguments as they were, and shares no memory. No condition. -/
import Derived.Test.YtmeibecplnppaaaZSaidFnExactTopicRetain
import Derived.Test.YtmeibecplnppaaaZPlTopicOut
import Derived.Test.YtmeibecplnppaaaZx4
import Derived.Test.YtmeibecplnppaaaZx7
import Derived.Test.YtmeibecplnppaaaZx10
namespace Go.Proofs.Ytmeibecplnppaaa.Z.PureFnExactTopicRetain
open Go.RowKit Go.Proofs.YtmeibecplnppaaaW.PrintWords Go.Proofs.YtmeibecplnppaaaW.PrintLast Go.Proofs.Ytmeibecplnppaaa.Z Go.Proofs.Ytmeibecplnppaaa.HB
set_option linter.unusedVariables false
set_option linter.unusedSimpArgs false

abbrev Out := ByteArray × Int × List ByteArray × List GT × List ByteArray × Int × Int
def ill (c : Int) : Out := (⟨#[]⟩, 0, [], [], [], 0, c)
theorem topicB_bounds {nm : ByteArray} {b : Int} {h : List ByteArray} {l : List GT} (ht : topicB nm b h l = true) : 0 ≤ b ∧ b ≤ 1000000000 ∧ h.length ≤ 20 ∧ l.length ≤ 4 ∧ endB b h ≤ 1000000000 := by
  unfold topicB at ht
  simp only [Bool.and_eq_true, decide_eq_true_eq] at ht
  omega
/-- A loop that writes the image of each element over it. -/
theorem mapLoop {α β : Type} {l : List α} {c : α → α} (z : α) {m : Nat} {F : Nat → List α → Int → Option β} {fin : List α → β} (hend : ∀ k o, o.length = l.length → F (k + 1) o (l.length : Int) = some (fin o))
    (hstep : ∀ k o (i : Nat), m ≤ k → i < l.length → o.length = l.length → F (k + 1) o (i : Int) = F k (o.set i (c (o.getD i z))) ((i + 1 : Nat) : Int)) :
    ∀ (d k i : Nat), i + d = l.length → d + m < k → F k ((l.take i).map c ++ l.drop i) (i : Int) = some (fin (l.map c)) := by
  intro d
  induction d with
  | zero =>
    intro k i hi hk
    obtain ⟨k, rfl⟩ := k_succ hk
    obtain rfl : i = l.length := by omega
    rw [List.take_length, List.drop_length, List.append_nil]
    exact hend k _ (by simp)
  | succ d ih =>
    intro k i hi hk
    obtain ⟨k, rfl⟩ := k_succ hk
    have hlt : i < l.length := by omega
    rw [hstep k _ i (by omega) hlt (by simp; omega)]
    have e : ((l.take i).map c ++ l.drop i).set i (c (((l.take i).map c ++ l.drop i).getD i z)) = (l.take (i + 1)).map c ++ l.drop (i + 1) := by
      have hl : ((l.take i).map c).length = i := by simp; omega
      have hg : ((l.take i).map c ++ l.drop i).getD i z = l[i] := by
        rw [List.getD_eq_getElem?_getD, List.getElem?_append_right (by omega), hl, Nat.sub_self, List.getElem?_drop]
        simp [hlt]
      rw [hg, List.set_append_right _ _ (by omega), hl, Nat.sub_self, List.drop_eq_getElem_cons hlt, List.set_cons_zero, List.take_succ_eq_append_getElem hlt, List.map_append, List.append_assoc]
      rfl
    rw [e]
    exact ih k (i + 1) (by omega) (by omega)
def upG (b : Int) (g : GT) : GT := ⟨g.f0, if g.f1 < b then b else g.f1⟩
def goneB (h : List ByteArray) (a : Int) : Int := if 0 < (h.length : Int) - a then (h.length : Int) - a else 0
/-- What TopicRetain answers. -/
def retT (nm : ByteArray) (b : Int) (h : List ByteArray) (l : List GT) (a : Int) : Out :=
  if topicB nm b h l = true ∧ (0 ≤ a ∧ a ≤ 20) then (nm, b + goneB h a, h.drop (goneB h a).toNat, l.map (upG (b + goneB h a)), [], goneB h a, 0) else ill 1
theorem ret1 {nm : ByteArray} {b : Int} {h : List ByteArray} {l : List GT} {a : Int} (ht : ¬ (topicB nm b h l = true ∧ (0 ≤ a ∧ a ≤ 20))) : retT nm b h l a = ill 1 := if_neg ht
theorem ret0 {nm : ByteArray} {b : Int} {h : List ByteArray} {l : List GT} {a : Int} (ht : topicB nm b h l = true ∧ (0 ≤ a ∧ a ≤ 20)) : retT nm b h l a = (nm, b + goneB h a, h.drop (goneB h a).toNat, l.map (upG (b + goneB h a)), [], goneB h a, 0) := if_pos ht
theorem gone_bounds {h : List ByteArray} {a : Int} (h20 : h.length ≤ 20) (h0 : 0 ≤ a) (h1 : a ≤ 20) : 0 ≤ goneB h a ∧ goneB h a ≤ (h.length : Int) := by
  unfold goneB
  split <;> omega
theorem spec_l {nm : ByteArray} {b n : Int} {h : List ByteArray} {l : List GT} (hl : l.length ≤ 9223372036854775807) {k : Nat} (hk : l.length < k) :
    spec_TopicRetain.l0 k n 0 nm b h l = some (nm, b, h, l.map (upG b), [], n, 0) := by
  have := mapLoop (l := l) (c := upG b) z52 (m := 0) (F := fun k o i => spec_TopicRetain.l0 k n i nm b h o) (fin := fun o => (nm, b, h, o, ([] : List ByteArray), n, (0 : Int))) (fun k o ho => by
    simp only [spec_TopicRetain.l0]
    rw [if_neg (by omega)]) (fun k o i hm hi ho => by
    simp only [spec_TopicRetain.l0, spec_l01Max.f]
    rw [if_pos (by omega), if_pos (by omega), w_nat hi hl, tNat]
    have e : (if b > (rd_T52 o (i : Int)).f1 then some b else some (rd_T52 o (i : Int)).f1) = some (if (rd_T52 o (i : Int)).f1 < b then b else (rd_T52 o (i : Int)).f1) := by
      split <;> rfl
    rw [e, tbind]
    rfl) l.length k 0 (by omega) (by omega)
  simpa using this
theorem impl_l {b : Int} {l : List GT} (hl : l.length ≤ 9223372036854775807) {k : Nat} (hk : l.length < k) :
    impl_Topic_retain.l0 k b l (l.length : Int) 0 = some (l.map (upG b)) := by
  have := mapLoop (l := l) (c := upG b) z52 (m := 0) (F := fun k o i => impl_Topic_retain.l0 k b o (l.length : Int) i) (fin := fun o => o) (fun k o ho => by
    simp only [impl_Topic_retain.l0]
    rw [if_neg (by omega)]) (fun k o i hm hi ho => by
    simp only [impl_Topic_retain.l0]
    rw [if_pos (by omega), if_pos (by omega), if_pos (by omega), w_nat hi hl, tNat]
    rfl) l.length k 0 (by omega) (by omega)
  simpa using this
theorem spec_ret {nm : ByteArray} {b : Int} {h : List ByteArray} {l : List GT} {a : Int} (hn : nm.size ≤ 9223372036854775807) (hh : h.length ≤ 9223372036854775807) (hl : l.length ≤ 9223372036854775807) (hM : nmI l ≤ 9223372036854775807) {k : Nat}
    (hk : nm.size + (h.length + (l.length + (nmI l + 10))) < k) : spec_TopicRetain.f k nm b h l a = some (retT nm b h l a) := by
  obtain ⟨k, rfl⟩ : ∃ m, k = m + 1 := ⟨k - 1, by omega⟩
  unfold spec_TopicRetain.f
  rw [spec_topic_eq hn hh hl hM hk, tbind]
  by_cases ht : topicB nm b h l = true
  · obtain ⟨b0, b1, hh20, hl4, he⟩ := topicB_bounds ht
    rw [if_pos ht, tIs_eq, tbind, spec_TopicRetain.j0]
    by_cases hm : 0 ≤ a ∧ a ≤ 20
    · have hgb := gone_bounds hh20 hm.1 hm.2
      have hc : spec_l07Copy.f nm b h l = some (nm, b, h, l) := by
        unfold spec_l07Copy.f
        rw [tbind, if_pos (by simp; omega), tbind, if_pos (by simp; omega)]
        simp
      have hg : spec_l01Max.f 0 (wrap64 ((h.length : Int) - a)) = some (goneB h a) := by
        rw [w_id (by omega) (by omega)]
        unfold spec_l01Max.f goneB
        split <;> split <;> first | rfl | omega | (congr 1; omega)
      rw [ret0 ⟨ht, hm⟩, if_neg (by simp [hm]), hg, tbind, hc, tbind, if_pos hgb.1, if_pos hgb.2]
      show spec_TopicRetain.l0 k (goneB h a) 0 nm (wrap64 (b + goneB h a)) (h.drop (goneB h a).toNat) l = _
      rw [w_id (by omega) (by omega)]
      exact spec_l hl (by omega)
    · rw [ret1 (fun e => hm e.2), if_pos (by simp; omega)]
      rfl
  · rw [ret1 (fun e => ht e.1), if_neg ht, spec_TopicRetain.j0, if_pos rfl]
    rfl
theorem impl_ret {nm : ByteArray} {b : Int} {h : List ByteArray} {l : List GT} {a : Int} (hn : nm.size ≤ 9223372036854775807) (hh : h.length ≤ 9223372036854775807) (hl : l.length ≤ 9223372036854775807) (hM : nmI l ≤ 9223372036854775807) {k : Nat}
    (hk : nm.size + (h.length + (l.length + (nmI l + 10))) < k) : impl_TopicRetain.f k nm b h l a = some (retT nm b h l a) := by
  unfold impl_TopicRetain.f
  rw [impl_topic_eq hn hh hl hM hk, tbind]
  by_cases ht : topicB nm b h l = true
  · obtain ⟨b0, b1, hh20, hl4, he⟩ := topicB_bounds ht
    rw [if_pos ht, tWithin_eq, tbind]
    by_cases hm : 0 ≤ a ∧ a ≤ 20
    · have hgb := gone_bounds hh20 hm.1 hm.2
      have hc : impl_cloneTopic.f nm b h l = some (nm, b, h, l) := by
        unfold impl_cloneTopic.f slices_Clone_string_string.f impl_Group.f
        rw [tbind, if_pos (by simp; omega), tbind, tbind, if_pos (by simp; omega), tbind]
        simp
      have hg : impl_Topic_retain.n h a = goneB h a := by
        unfold impl_Topic_retain.n goneB
        rw [w_id (by omega) (by omega)]
      rw [ret0 ⟨ht, hm⟩, if_pos (by simp [hm]), hc, tbind]
      show (impl_Topic_retain.f k nm b h l a).bind _ = _
      unfold impl_Topic_retain.f
      rw [hg, if_pos hgb.1, if_pos hgb.2, w_id (by omega) (by omega), impl_l hl (by omega), tbind, tbind]
    · rw [ret1 (fun e => hm e.2), if_neg (by simp; omega)]
      rfl
  · rw [ret1 (fun e => ht e.1), if_neg ht]
    rfl
theorem retT_len {nm : ByteArray} {b : Int} {h : List ByteArray} {l : List GT} {a : Int} : (retT nm b h l a).2.2.1.length ≤ 21 ∧ (retT nm b h l a).2.2.2.1.length ≤ 4 ∧ (retT nm b h l a).2.2.2.2.1.length ≤ 21 := by
  unfold retT
  split
  · next ht =>
    obtain ⟨b0, b1, hh20, hl4, he⟩ := topicB_bounds ht.1
    simp
    omega
  · simp [ill]

theorem proved : SaidFnExactTopicRetain.Pure := by
  rintro ⟨nm, b, h, l⟩ x ⟨hn, _, ⟨hh, hw⟩, hl, hg⟩ hxs
  have hn : nm.size ≤ 9223372036854775807 := le_maxLen hn
  have hh : h.length ≤ 9223372036854775807 := le_maxLen hh
  have hl : l.length ≤ 9223372036854775807 := le_maxLen hl
  let K := nm.size + (h.length + (l.length + (nmL l + 10))) + 100
  refine ⟨K, ?_⟩
  show laws_FnExactTopicRetain.f K nm b h l x = some true
  have hK : K = nm.size + (h.length + (l.length + (nmL l + 10))) + 100 := rfl
  clear_value K
  obtain ⟨r, hr, h3⟩ := szTopic_eq (nm := nm) (b := b) (h := h) (l := l) hn hh hl (fun x hx => le_maxLen (hw x hx)) (fun x hx => le_maxLen (hg x hx).1) (k := K) (by omega)
  unfold laws_FnExactTopicRetain.f
  rw [hr, tbind]
  by_cases hr0 : r < 0
  · rw [if_pos hr0]
  · obtain ⟨h4, h5, h6, h7⟩ := h3 (by omega)
    have e1 : (l.map groupOf).length = l.length := by simp
    have e2 := nmI_map l
    obtain ⟨K', rfl⟩ : ∃ m, K = m + 1 := ⟨K - 1, by omega⟩
    have q1 := spec_ret (nm := nm) (b := b) (h := h) (l := l.map groupOf) (a := x) (by omega) (by omega) (by omega) (by omega) (k := K' + 1) (by omega)
    have q2 := impl_ret (nm := nm) (b := b) (h := h) (l := l.map groupOf) (a := x) (by omega) (by omega) (by omega) (by omega) (k := K' + 1) (by omega)
    have q3 := impl_ret (nm := nm) (b := b) (h := h) (l := l.map groupOf) (a := x) (by omega) (by omega) (by omega) (by omega) (k := K') (by omega)
    obtain ⟨p1, p2, p3⟩ := retT_len (nm := nm) (b := b) (h := h) (l := l.map groupOf) (a := x)
    generalize retT nm b h (l.map groupOf) x = o at q1 q2 q3 p1 p2 p3
    obtain ⟨o1, o2, o3, o4, o5, o6, o7⟩ := o
    replace p1 : o3.length ≤ 21 := p1
    replace p2 : o4.length ≤ 4 := p2
    replace p3 : o5.length ≤ 21 := p3
    have c1 : laws_toTopic.f (K' + 1) nm b h l = some (nm, b, h, l.map groupOf) := toTopic_eq (by omega) (by omega) (by omega)
    have c2 : laws_toTopic.f K' nm b h l = some (nm, b, h, l.map groupOf) := toTopic_eq (by omega) (by omega) (by omega)
    have d1 : laws_eqTopicOut.f (K' + 1) o1 o2 o3 o4 o5 o6 o7 o1 o2 o3 o4 o5 o6 o7 = some true := eqTopicOut_eq (by omega) (by omega) (by omega) (by omega)
    have d2 : laws_eqTopicOut.f K' o1 o2 o3 o4 o5 o6 o7 o1 o2 o3 o4 o5 o6 o7 = some true := eqTopicOut_eq (by omega) (by omega) (by omega) (by omega)
    have d3 : laws_eqTopic.f (K' + 1) nm b h (l.map groupOf) nm b h (l.map groupOf) = some true := eqTopic_eq (by omega) (by omega) (by omega)
    obtain ⟨m1, m2, g1, g2, g3, g4⟩ := markTopic_eq (nm := nm) (b := b) (h := h) (l := l.map groupOf) (a := 1) (by omega) (by omega) (by omega) (by omega) (k := K' + 1) (by omega)
    obtain ⟨m, n1, n2, n3, f1, f2, f3⟩ := markTopicOut_eq (nm := o1) (b := o2) (h := o3) (l := o4) (t := o5) (n := o6) (c := o7) (by omega) (by omega) (by omega) (k := K') (by omega)
    rw [if_neg hr0, c1, tbind, q1, tbind, tbind, q2, tbind, d1, tbind, if_pos rfl, tbind, d3, tbind, if_pos rfl, g1, tbind]
    rw [if_neg (by show ¬ (1 + (h.length : Int) + 2 * ((l.map groupOf).length : Int)) < 0; omega), tbind, laws_FnExactTopicRetain.j0]
    rw [if_neg (by decide), f2, tbind]
    have f4 := f3 K' (by omega)
    rw [f4, tbind, if_neg (by omega), if_pos rfl, c2, tbind, q3, tbind, d2, tbind, if_pos rfl, tbind, if_neg (by omega), if_pos rfl]

end Go.Proofs.Ytmeibecplnppaaa.Z.PureFnExactTopicRetain
