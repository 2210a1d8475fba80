/- What the reference's TopicRetain answers. -/
import Derived.Test.YtnjnjffjblgldaaQx10
import Derived.Test.YtnjnjffjblgldaaQPlTopicPub
namespace Go.Proofs.Ytnjnjffjblgldaa.Q
open Go.RowKit Go.Proofs.YtnjnjffjblgldaaW.PrintWords Go.Proofs.YtnjnjffjblgldaaW.PrintLast Go.Proofs.Ytnjnjffjblgldaa.HB
set_option linter.unusedVariables false
set_option linter.unusedSimpArgs false

/-- A loop that writes the image of each element over it. -/
theorem mapLoop {α β : Type} {l : List α} {c : α → α} (z : α) {m : Nat} {F : Nat → List α → Int → Option β} {fin : List α → β} (hend : ∀ k o, o.length = l.length → F (k + 1) o (l.length : Int) = some (fin o))
    (hstep : ∀ k o (i : Nat), m ≤ k → i < l.length → o.length = l.length → F (k + 1) o (i : Int) = F k (o.set i (c (o.getD i z))) ((i + 1 : Nat) : Int)) :
    ∀ (d k i : Nat), i + d = l.length → d + m < k → F k ((l.take i).map c ++ l.drop i) (i : Int) = some (fin (l.map c)) := by
  intro d
  induction d with
  | zero =>
    intro k i hi hk
    obtain ⟨k, rfl⟩ := k_succ hk
    obtain rfl : i = l.length := by omega
    rw [List.take_length, List.drop_length, List.append_nil]
    exact hend k _ (by simp)
  | succ d ih =>
    intro k i hi hk
    obtain ⟨k, rfl⟩ := k_succ hk
    have hlt : i < l.length := by omega
    rw [hstep k _ i (by omega) hlt (by simp; omega)]
    have e : ((l.take i).map c ++ l.drop i).set i (c (((l.take i).map c ++ l.drop i).getD i z)) = (l.take (i + 1)).map c ++ l.drop (i + 1) := by
      have hl : ((l.take i).map c).length = i := by simp; omega
      have hg : ((l.take i).map c ++ l.drop i).getD i z = l[i] := by
        rw [List.getD_eq_getElem?_getD, List.getElem?_append_right (by omega), hl, Nat.sub_self, List.getElem?_drop]
        simp [hlt]
      rw [hg, List.set_append_right _ _ (by omega), hl, Nat.sub_self, List.drop_eq_getElem_cons hlt, List.set_cons_zero, List.take_succ_eq_append_getElem hlt, List.map_append, List.append_assoc]
      rfl
    rw [e]
    exact ih k (i + 1) (by omega) (by omega)
def upG (b : Int) (g : GT) : GT := ⟨g.f0, if g.f1 < b then b else g.f1⟩
def goneB (h : List ByteArray) (a : Int) : Int := if 0 < (h.length : Int) - a then (h.length : Int) - a else 0
/-- What TopicRetain answers. -/
def retT (nm : ByteArray) (b : Int) (h : List ByteArray) (l : List GT) (a : Int) : Out :=
  if topicB nm b h l = true ∧ (0 ≤ a ∧ a ≤ 20) then (nm, b + goneB h a, h.drop (goneB h a).toNat, l.map (upG (b + goneB h a)), [], goneB h a, 0) else ill 1
theorem ret1 {nm : ByteArray} {b : Int} {h : List ByteArray} {l : List GT} {a : Int} (ht : ¬ (topicB nm b h l = true ∧ (0 ≤ a ∧ a ≤ 20))) : retT nm b h l a = ill 1 := if_neg ht
theorem ret0 {nm : ByteArray} {b : Int} {h : List ByteArray} {l : List GT} {a : Int} (ht : topicB nm b h l = true ∧ (0 ≤ a ∧ a ≤ 20)) : retT nm b h l a = (nm, b + goneB h a, h.drop (goneB h a).toNat, l.map (upG (b + goneB h a)), [], goneB h a, 0) := if_pos ht
theorem gone_bounds {h : List ByteArray} {a : Int} (h20 : h.length ≤ 20) (h0 : 0 ≤ a) (h1 : a ≤ 20) : 0 ≤ goneB h a ∧ goneB h a ≤ (h.length : Int) := by
  unfold goneB
  split <;> omega
theorem spec_l {nm : ByteArray} {b n : Int} {h : List ByteArray} {l : List GT} (hl : l.length ≤ 9223372036854775807) {k : Nat} (hk : l.length < k) :
    spec_TopicRetain.l0 k n 0 nm b h l = some (nm, b, h, l.map (upG b), [], n, 0) := by
  have := mapLoop (l := l) (c := upG b) z55 (m := 0) (F := fun k o i => spec_TopicRetain.l0 k n i nm b h o) (fin := fun o => (nm, b, h, o, ([] : List ByteArray), n, (0 : Int))) (fun k o ho => by
    simp only [spec_TopicRetain.l0]
    rw [if_neg (by omega)]) (fun k o i hm hi ho => by
    simp only [spec_TopicRetain.l0, spec_l01Max.f]
    rw [if_pos (by omega), if_pos (by omega), w_nat hi hl, tNat]
    have e : (if b > (rd_T55 o (i : Int)).f1 then some b else some (rd_T55 o (i : Int)).f1) = some (if (rd_T55 o (i : Int)).f1 < b then b else (rd_T55 o (i : Int)).f1) := by
      split <;> rfl
    rw [e, tbind]
    rfl) l.length k 0 (by omega) (by omega)
  simpa using this
theorem spec_ret {nm : ByteArray} {b : Int} {h : List ByteArray} {l : List GT} {a : Int} (hn : nm.size ≤ 9223372036854775807) (hh : h.length ≤ 9223372036854775807) (hl : l.length ≤ 9223372036854775807) (hM : nmI l ≤ 9223372036854775807) {k : Nat}
    (hk : nm.size + (h.length + (l.length + (nmI l + 10))) < k) : spec_TopicRetain.f k nm b h l a = some (retT nm b h l a) := by
  obtain ⟨k, rfl⟩ : ∃ m, k = m + 1 := ⟨k - 1, by omega⟩
  unfold spec_TopicRetain.f
  rw [spec_topic_eq hn hh hl hM hk, tbind]
  by_cases ht : topicB nm b h l = true
  · obtain ⟨b0, b1, hh20, hl4, he⟩ := topicB_bounds ht
    rw [if_pos ht, tIs_eq, tbind, spec_TopicRetain.j0]
    by_cases hm : 0 ≤ a ∧ a ≤ 20
    · have hgb := gone_bounds hh20 hm.1 hm.2
      have hc : spec_l07Copy.f nm b h l = some (nm, b, h, l) := by
        unfold spec_l07Copy.f
        rw [tbind, if_pos (by simp; omega), tbind, if_pos (by simp; omega)]
        simp
      have hg : spec_l01Max.f 0 (wrap64 ((h.length : Int) - a)) = some (goneB h a) := by
        rw [w_id (by omega) (by omega)]
        unfold spec_l01Max.f goneB
        split <;> split <;> first | rfl | omega | (congr 1; omega)
      rw [ret0 ⟨ht, hm⟩, if_neg (by simp [hm]), hg, tbind, hc, tbind, if_pos hgb.1, if_pos hgb.2]
      show spec_TopicRetain.l0 k (goneB h a) 0 nm (wrap64 (b + goneB h a)) (h.drop (goneB h a).toNat) l = _
      rw [w_id (by omega) (by omega)]
      exact spec_l hl (by omega)
    · rw [ret1 (fun e => hm e.2), if_pos (by simp; omega)]
      rfl
  · rw [ret1 (fun e => ht e.1), if_neg ht, spec_TopicRetain.j0, if_pos rfl]
    rfl

end Go.Proofs.Ytnjnjffjblgldaa.Q
