/- The laws' comparisons of a result with itself; a topic that is retained is valid. -/
import Derived.Test.YtnjnjffjblgldaaQx12
import Derived.Test.YtnjnjffjblgldaaQPlTopicSet
import Derived.Test.YtnjnjffjblgldaaQPlTopicRet
namespace Go.Proofs.Ytnjnjffjblgldaa.Q
open Go.RowKit Go.Proofs.YtnjnjffjblgldaaW.PrintWords Go.Proofs.YtnjnjffjblgldaaW.PrintLast Go.Proofs.Ytnjnjffjblgldaa.HB
set_option linter.unusedVariables false
set_option linter.unusedSimpArgs false

theorem lwTexts_eq {l : List ByteArray} (hl : l.length ≤ 1000) {k : Nat} (hk : l.length < k) : laws_lwTexts.f k l l = some true := by
  unfold laws_lwTexts.f
  rw [if_pos rfl]
  refine upLoop (n := l.length) (m := 0) (F := fun k i => laws_lwTexts.l0 k l l i) (fun k => ?_) (fun k i hm hi => ?_) l.length k 0 (by omega) (by omega)
  · simp only [laws_lwTexts.l0]
    rw [if_neg (by omega)]
  · simp only [laws_lwTexts.l0]
    rw [if_pos (by omega), if_pos (by omega), if_pos (by omega), if_pos trivial, w_nat hi (by omega)]
theorem lwGroups_eq {l : List GT} (hl : l.length ≤ 1000) {k : Nat} (hk : l.length < k) : laws_lwGroups.f k l l = some true := by
  unfold laws_lwGroups.f
  rw [if_pos rfl]
  refine upLoop (n := l.length) (m := 0) (F := fun k i => laws_lwGroups.l0 k l l i) (fun k => ?_) (fun k i hm hi => ?_) l.length k 0 (by omega) (by omega)
  · simp only [laws_lwGroups.l0]
    rw [if_neg (by omega)]
  · simp only [laws_lwGroups.l0]
    rw [if_pos (by omega), if_pos (by omega), if_pos (by omega), if_neg (by simp), w_nat hi (by omega)]
theorem lwTopics_eq {nm : ByteArray} {b : Int} {h : List ByteArray} {l : List GT} {t : List ByteArray} {n c : Int} (hh : h.length ≤ 1000) (hl : l.length ≤ 1000) (ht : t.length ≤ 1000) {k : Nat} (hk : 2000 < k)
    (hr : c = 0 → spec_TopicRight.f k nm b h l = some true) : laws_lwTopics.f k nm b h l t n c nm b h l t n c = some true := by
  unfold laws_lwTopics.f laws_lwTopic.f
  rw [if_pos rfl, if_pos rfl, lwTexts_eq ht (by omega), tbind, if_pos rfl, if_pos rfl, if_pos rfl, lwTexts_eq hh (by omega), tbind, if_pos rfl, lwGroups_eq hl (by omega), tbind, tbind, if_pos rfl]
  by_cases hc : c = 0
  · rw [if_pos hc, hr hc, tbind]
  · rw [if_neg hc]
theorem scan_all {step : Nat → Option Bool} : ∀ d i : Nat, scanFrom step true d i = true → (∀ j, step j ≠ some true) → ∀ j, i ≤ j → j < i + d → step j = none := by
  intro d
  induction d with
  | zero => intro i _ _ j h1 h2; omega
  | succ d ih =>
    intro i h hn j h1 h2
    simp only [scanFrom] at h
    cases e : step i with
    | none =>
      rw [e] at h
      by_cases hj : j = i
      · rw [hj, e]
      · exact ih (i + 1) h hn j (by omega) (by omega)
    | some r =>
      rw [e] at h
      exact absurd (by rw [e]; exact congrArg some h) (hn i)
theorem scan_none {step : Nat → Option Bool} : ∀ d i : Nat, (∀ j, i ≤ j → j < i + d → step j = none) → scanFrom step true d i = true := by
  intro d
  induction d with
  | zero => intro i _; rfl
  | succ d ih =>
    intro i h
    simp only [scanFrom]
    rw [h i (by omega) (by omega)]
    exact ih (i + 1) fun j h1 h2 => h j (by omega) (by omega)
theorem rd_up (b : Int) {l : List GT} {j : Nat} (hj : j < l.length) : rd_T55 (l.map (upG b)) (j : Int) = upG b (rd_T55 l (j : Int)) := by
  simp [rd_T55, List.getD, hj]
theorem topicB_parts {nm : ByteArray} {b : Int} {h : List ByteArray} {l : List GT} (ht : topicB nm b h l = true) : nameB nm = true ∧ heldB h = true ∧ grB b (endB b h) l = true := by
  unfold topicB at ht
  simp only [Bool.and_eq_true, decide_eq_true_eq] at ht
  exact ⟨ht.1, ht.2.2.2.2.2.1, ht.2.2.2.2.2.2⟩
theorem ret_end {b a : Int} {h : List ByteArray} (b0 : 0 ≤ b) (b1 : b ≤ 1000000000) (h20 : h.length ≤ 20) (a0 : 0 ≤ a) (a1 : a ≤ 20) : endB (b + goneB h a) (h.drop (goneB h a).toNat) = b + (h.length : Int) := by
  obtain ⟨g0, g1⟩ := gone_bounds h20 a0 a1
  unfold endB
  rw [List.length_drop, w_id (by omega) (by omega)]
  omega
theorem ret_right {nm : ByteArray} {b a : Int} {h : List ByteArray} {l : List GT} (ht : topicB nm b h l = true) (a0 : 0 ≤ a) (a1 : a ≤ 20) : topicB nm (b + goneB h a) (h.drop (goneB h a).toNat) (l.map (upG (b + goneB h a))) = true := by
  obtain ⟨b0, b1, h20, l4, he⟩ := topicB_bounds ht
  obtain ⟨p1, p2, p3⟩ := topicB_parts ht
  obtain ⟨g0, g1⟩ := gone_bounds h20 a0 a1
  have e0 : endB b h = b + (h.length : Int) := endB_eq b0 b1 (by omega)
  unfold topicB
  rw [ret_end b0 b1 h20 a0 a1]
  simp only [Bool.and_eq_true, decide_eq_true_eq]
  refine ⟨p1, by omega, by simp; omega, by simpa using l4, by omega, List.all_eq_true.2 fun x hx => List.all_eq_true.1 p2 x (List.mem_of_mem_drop hx), ?_⟩
  unfold grB
  rw [List.length_map]
  refine scan_none _ _ fun j _ hj => ?_
  have hj : j < l.length := by omega
  have := scan_all l.length 0 p3 (grStep_ne _ _ _) j (by omega) (by omega)
  simp only [grStep] at this ⊢
  rw [rd_up _ hj]
  rw [e0] at this
  have hup : ∀ g : GT, b ≤ g.f1 ∧ g.f1 ≤ b + (h.length : Int) → decide (b + goneB h a ≤ (upG (b + goneB h a) g).f1 ∧ (upG (b + goneB h a) g).f1 ≤ b + (h.length : Int)) = true := fun g hg => by
    refine decide_eq_true ?_
    unfold upG
    dsimp only
    split <;> omega
  by_cases hn : nameB (rd_T55 l (j : Int)).f0 = true
  · rw [if_pos hn] at this
    rw [if_pos (show nameB (upG (b + goneB h a) (rd_T55 l (j : Int))).f0 = true from hn)]
    by_cases hd : decide (b ≤ (rd_T55 l (j : Int)).f1 ∧ (rd_T55 l (j : Int)).f1 ≤ b + (h.length : Int)) = true
    · have hd2 := hup _ (of_decide_eq_true hd)
      by_cases h0 : j = 0
      · rw [if_pos h0, if_pos hd2]
      · rw [if_neg h0] at this ⊢
        have ej : (j : Int) - 1 = ((j - 1 : Nat) : Int) := by omega
        rw [ej, rd_up _ (by omega)]
        rw [ej] at this
        by_cases hs : Op.bytesLess (rd_T55 l ((j - 1 : Nat) : Int)).f0.toList (rd_T55 l (j : Int)).f0.toList = true
        · rw [if_pos (show Op.bytesLess (upG (b + goneB h a) (rd_T55 l ((j - 1 : Nat) : Int))).f0.toList (upG (b + goneB h a) (rd_T55 l (j : Int))).f0.toList = true from hs), if_pos hd2]
        · rw [if_neg hs] at this
          cases this
    · rw [if_neg hd] at this
      split at this
      · cases this
      · split at this <;> cases this
  · rw [if_neg hn] at this
    cases this

end Go.Proofs.Ytnjnjffjblgldaa.Q
