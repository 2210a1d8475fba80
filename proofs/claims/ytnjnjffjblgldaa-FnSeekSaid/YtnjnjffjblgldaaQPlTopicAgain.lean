/- A group that has been set: it is found where it was, and the topic is right again. -/
import Derived.Test.YtnjnjffjblgldaaQPlTopicFetchT
import Derived.Test.YtnjnjffjblgldaaQPlTopicLw
namespace Go.Proofs.Ytnjnjffjblgldaa.Q
open Go.RowKit Go.Proofs.YtnjnjffjblgldaaW.PrintWords Go.Proofs.YtnjnjffjblgldaaW.PrintLast Go.Proofs.Ytnjnjffjblgldaa.HB
set_option linter.unusedVariables false
set_option linter.unusedSimpArgs false

theorem bl_irr : ∀ a : List UInt8, ¬ Op.bytesLess a a = true
  | [] => by simp [Op.bytesLess]
  | a :: al => by
    have := bl_irr al
    simp only [Op.bytesLess, Bool.or_eq_true, decide_eq_true_eq, Bool.and_eq_true, beq_iff_eq, true_and, not_or]
    exact ⟨by rw [UInt8.lt_iff_toNat_lt]; omega, this⟩
theorem bl_total : ∀ a b : List UInt8, ¬ Op.bytesLess a b = true → a ≠ b → Op.bytesLess b a = true
  | [], [], _, h => absurd rfl h
  | [], b :: bs, h, _ => absurd (by simp [Op.bytesLess]) h
  | a :: al, [], _, _ => by simp [Op.bytesLess]
  | a :: al, b :: bs, h, hn => by
    simp only [Op.bytesLess, Bool.or_eq_true, decide_eq_true_eq, Bool.and_eq_true, beq_iff_eq, not_or, not_and] at h ⊢
    by_cases e : a = b
    · subst e
      exact .inr ⟨rfl, bl_total al bs (h.2 rfl) (fun e => hn (by rw [e]))⟩
    · refine .inl ?_
      have h1 := h.1
      rw [UInt8.lt_iff_toNat_lt] at h1 ⊢
      have : a.toNat ≠ b.toNat := fun e' => e (UInt8.toNat_inj.1 e')
      omega
/-- Groups that are right: names, numbers, order. -/
def okG (b e : Int) (l : List GT) : Prop := ∀ j : Nat, j < l.length → nameB (rd_T55 l (j : Int)).f0 = true ∧ (b ≤ (rd_T55 l (j : Int)).f1 ∧ (rd_T55 l (j : Int)).f1 ≤ e) ∧ (j ≠ 0 → lessG l (rd_T55 l (j : Int)).f0 (j - 1))
theorem okG_of {b e : Int} {l : List GT} (h : grB b e l = true) : okG b e l := fun j hj => by
  obtain ⟨h1, h2, h3⟩ := gr_step h hj
  refine ⟨h1, h2, fun h0 => ?_⟩
  have := h3 h0
  rw [show (j : Int) - 1 = ((j - 1 : Nat) : Int) by omega] at this
  exact this
theorem grB_of {b e : Int} {l : List GT} (h : okG b e l) : grB b e l = true := by
  unfold grB
  refine scan_none _ _ (fun j _ hj => ?_)
  obtain ⟨h1, h2, h3⟩ := h j (by omega)
  simp only [grStep]
  rw [if_pos h1]
  by_cases h0 : j = 0
  · rw [if_pos h0, if_pos (decide_eq_true h2)]
  · have := h3 h0
    unfold lessG at this
    rw [if_neg h0, show (j : Int) - 1 = ((j - 1 : Nat) : Int) by omega, if_pos this, if_pos (decide_eq_true h2)]
theorem rdg (l : List GT) (j : Nat) : rd_T55 l (j : Int) = l.getD j z55 := of_eq_true (eq_self _)
/-- The row with the group, found or put in. -/
theorem grp_at {b e : Int} {l : List GT} (hg : grB b e l = true) (x : ByteArray) : (rd_T55 (grpL b l x) (bsI l x : Int)).f0.toList = x.toList := by
  by_cases hf : bsF l x = true
  · have hi : bsI l x < l.length := by
      by_cases h : bsI l x < l.length
      · exact h
      · rw [bsF_neg h] at hf; cases hf
    rw [show grpL b l x = l from if_pos hf]
    rw [bsF_pos hi] at hf
    exact eq_of_beq hf
  · rw [show grpL b l x = l.take (bsI l x) ++ ⟨x, b⟩ :: l.drop (bsI l x) from if_neg hf, rdg]
    have hle := bsI_le l x
    rw [List.getD_eq_getElem?_getD, List.getElem?_append_right (by rw [List.length_take]; omega), List.length_take, Nat.min_eq_left hle, Nat.sub_self]
    rfl
theorem okG_grp {b e : Int} {l : List GT} (hg : grB b e l = true) (hbe : b ≤ e) {x : ByteArray} (hx : nameB x = true) : okG b e (grpL b l x) := by
  by_cases hf : bsF l x = true
  · rw [show grpL b l x = l from if_pos hf]
    exact okG_of hg
  · have hok := okG_of hg
    obtain ⟨s1, s2⟩ := bsI_spec hg x
    have hle := bsI_le l x
    rw [show grpL b l x = l.take (bsI l x) ++ ⟨x, b⟩ :: l.drop (bsI l x) from if_neg hf]
    generalize hi : bsI l x = i at s1 s2 hle hf
    have lo : ∀ j, j < i → rd_T55 (l.take i ++ ⟨x, b⟩ :: l.drop i) (j : Int) = rd_T55 l (j : Int) := fun j hj => by
      rw [rdg, rdg, List.getD_eq_getElem?_getD, List.getD_eq_getElem?_getD, List.getElem?_append_left (by rw [List.length_take]; omega), List.getElem?_take, if_pos hj]
    have at_ : rd_T55 (l.take i ++ ⟨x, b⟩ :: l.drop i) (i : Int) = ⟨x, b⟩ := by
      rw [rdg, List.getD_eq_getElem?_getD, List.getElem?_append_right (by rw [List.length_take]; omega), List.length_take, Nat.min_eq_left hle, Nat.sub_self]
      rfl
    have hi_ : ∀ j, i ≤ j → rd_T55 (l.take i ++ ⟨x, b⟩ :: l.drop i) ((j + 1 : Nat) : Int) = rd_T55 l (j : Int) := fun j hj => by
      rw [rdg, rdg, List.getD_eq_getElem?_getD, List.getD_eq_getElem?_getD, List.getElem?_append_right (by rw [List.length_take]; omega), List.length_take, Nat.min_eq_left hle, show j + 1 - i = (j - i) + 1 by omega, List.getElem?_cons_succ, List.getElem?_drop, show i + (j - i) = j by omega]
    have ne : ∀ t, i ≤ t → t < l.length → t = i → Op.bytesLess x.toList (rd_T55 l (t : Int)).f0.toList = true := fun t h1 h2 e => by
      subst e
      refine bl_total _ _ (s2 t h1 h2) (fun e => hf ?_)
      rw [bsF_pos (by rw [hi]; exact h2), hi, e]
      exact beq_self_eq_true _
    intro j hj
    have hlen : (l.take i ++ (⟨x, b⟩ : GT) :: l.drop i).length = l.length + 1 := by simp; omega
    rw [hlen] at hj
    unfold lessG
    rcases Nat.lt_trichotomy j i with h | h | h
    · obtain ⟨a1, a2, a3⟩ := hok j (by omega)
      rw [lo j h, lo (j - 1) (by omega)]
      exact ⟨a1, a2, a3⟩
    · subst h
      rw [at_]
      refine ⟨hx, ⟨Int.le_refl _, hbe⟩, fun h0 => ?_⟩
      rw [lo (j - 1) (by omega)]
      exact s1 (j - 1) (by omega)
    · obtain ⟨q, rfl⟩ : ∃ q, j = q + 1 := ⟨j - 1, by omega⟩
      obtain ⟨a1, a2, a3⟩ := hok q (by omega)
      rw [hi_ q (by omega)]
      refine ⟨a1, a2, fun _ => ?_⟩
      rw [Nat.add_sub_cancel]
      by_cases hq : q = i
      · rw [hq, at_, ← hq]
        exact ne q (by omega) (by omega) hq
      · obtain ⟨p, rfl⟩ : ∃ p, q = p + 1 := ⟨q - 1, by omega⟩
        rw [hi_ p (by omega)]
        exact a3 (by omega)
theorem set_again {nm : ByteArray} {b n : Int} {h : List ByteArray} {l : List GT} {x : ByteArray} (ht : topicB nm b h l = true) (hx : nameB x = true) (hf : bsF l x = true ∨ l.length ≠ 4) (hn : b ≤ n ∧ n ≤ endB b h) :
    topicB nm b h ((grpL b l x).set (bsI l x) ⟨(rd_T55 (grpL b l x) (bsI l x : Int)).f0, n⟩) = true ∧
    bsF ((grpL b l x).set (bsI l x) ⟨(rd_T55 (grpL b l x) (bsI l x : Int)).f0, n⟩) x = true ∧
    atG b ((grpL b l x).set (bsI l x) ⟨(rd_T55 (grpL b l x) (bsI l x : Int)).f0, n⟩) x = n := by
  obtain ⟨b0, b1, hh20, hl4, he, hg⟩ := topicB_all ht
  have hsum := endB_sum b0 b1 (by omega : h.length ≤ 21)
  have hok := okG_grp hg (by omega) hx
  have hat := grp_at hg x
  have hlt := grpL_lt b l x
  have h4 := grpL_len4 b hl4 hf
  generalize hG : grpL b l x = G at hok hat hlt h4
  generalize hi : bsI l x = i at hat hlt
  have hm : nameB nm = true ∧ heldB h = true := ⟨(topicB_parts ht).1, (topicB_parts ht).2.1⟩
  have rs : ∀ j, j ≠ i → rd_T55 (G.set i ⟨(rd_T55 G (i : Int)).f0, n⟩) (j : Int) = rd_T55 G (j : Int) := fun j hj => by
    rw [rdg (G.set i _) j, rdg G j, List.getD_eq_getElem?_getD, List.getD_eq_getElem?_getD, List.getElem?_set_ne (fun e => hj e.symm)]
  have ri : rd_T55 (G.set i ⟨(rd_T55 G (i : Int)).f0, n⟩) (i : Int) = ⟨(rd_T55 G (i : Int)).f0, n⟩ := by
    rw [rdg, List.getD_eq_getElem?_getD, List.getElem?_set_self hlt]
    rfl
  have nm_ : ∀ j : Nat, (rd_T55 (G.set i ⟨(rd_T55 G (i : Int)).f0, n⟩) (j : Int)).f0 = (rd_T55 G (j : Int)).f0 := fun j => by
    by_cases e : j = i
    · rw [e, ri]
    · rw [rs j e]
  have hok2 : okG b (endB b h) (G.set i ⟨(rd_T55 G (i : Int)).f0, n⟩) := fun j hj => by
    rw [List.length_set] at hj
    obtain ⟨a1, a2, a3⟩ := hok j hj
    unfold lessG at a3 ⊢
    rw [nm_ j, nm_ (j - 1)]
    refine ⟨a1, ?_, a3⟩
    by_cases e : j = i
    · rw [e, ri]; exact hn
    · rw [rs j e]; exact a2
  have hg2 := grB_of hok2
  generalize hL : G.set i ⟨(rd_T55 G (i : Int)).f0, n⟩ = L at hok2 hg2 nm_ ri
  have hLl : L.length = G.length := by rw [← hL, List.length_set]
  obtain ⟨s1, s2⟩ := bsI_spec hg2 x
  have ei : bsI L x = i := by
    rcases Nat.lt_trichotomy (bsI L x) i with h1 | h1 | h1
    · have := (okG_of hg2 i (by omega)).2.2 (by omega)
      have h2 : lessG L x (i - 1) := by
        unfold lessG at this ⊢
        rw [nm_ i, hat] at this
        exact this
      exact absurd (less_mono hg2 x (by omega) h2 (i - 1 - bsI L x) (bsI L x) (by omega)) (s2 _ (Nat.le_refl _) (by omega))
    · exact h1
    · have := s1 i h1
      unfold lessG at this
      rw [nm_ i, hat] at this
      exact absurd this (bl_irr _)
  have ef : bsF L x = true := by
    rw [bsF_pos (by omega), ei, nm_ i, hat]
    exact beq_self_eq_true _
  refine ⟨?_, ef, ?_⟩
  · have hb := ht
    unfold topicB at hb ⊢
    simp only [Bool.and_eq_true, decide_eq_true_eq] at hb ⊢
    refine ⟨hb.1, hb.2.1, hb.2.2.1, ?_, hb.2.2.2.2.1, hb.2.2.2.2.2.1, hg2⟩
    omega
  · unfold atG
    rw [show grpL b L x = L from if_pos ef, ei, ri]
end Go.Proofs.Ytnjnjffjblgldaa.Q
