/- What TopicRight and isTopic answer: one and the same function. (The first part of PlTopic.) -/
import Derived.Test.YtnjnjffjblgldaaQx2
import Derived.Test.YtnjnjffjblgldaaQx5
import Derived.Test.YtnjnjffjblgldaaQPlName
import Derived.Test.YtnjnjffjblgldaaQPlLoops
namespace Go.Proofs.Ytnjnjffjblgldaa.Q
open Go.RowKit Go.Proofs.YtnjnjffjblgldaaW.PrintWords Go.Proofs.YtnjnjffjblgldaaW.PrintLast Go.Proofs.Ytnjnjffjblgldaa.HB
set_option linter.unusedVariables false
set_option linter.unusedSimpArgs false

abbrev GT := S55
def nmI (l : List GT) : Nat := sup (fun g => g.f0.size) l
theorem rdGT {l : List GT} {i : Nat} (h : i < l.length) : rd_T55 l (i : Int) ∈ l := mem_getD _ (by simpa using h)
theorem nmIi {l : List GT} {i : Nat} (h : i < l.length) : (rd_T55 l (i : Int)).f0.size ≤ nmI l := le_sup (fun g : GT => g.f0.size) (rdGT h)
theorem tIs_eq (a b c : Int) : spec_l03Is.f a b c = some (decide (b ≤ a ∧ a ≤ c)) := by
  unfold spec_l03Is.f
  by_cases h : a ≥ b
  · rw [if_pos h]; simp [show b ≤ a from h]
  · rw [if_neg h]; simp [show ¬ b ≤ a from h]
theorem tWithin_eq (a b c : Int) : impl_within.f a b c = some (decide (b ≤ a ∧ a ≤ c)) := by
  unfold impl_within.f
  by_cases h : a ≥ b
  · rw [if_pos h]; simp [show b ≤ a from h]
  · rw [if_neg h]; simp [show ¬ b ≤ a from h]
def msgB (s : ByteArray) : Bool := decide (1 ≤ s.size ∧ s.size ≤ 40)
theorem text_eq (s : ByteArray) : spec_l07Text.f s = some (msgB s) := by
  unfold spec_l07Text.f msgB
  by_cases h : (s.size : Int) ≥ 1
  · rw [if_pos h]; congr 1; exact decide_eq_decide.2 (by omega)
  · rw [if_neg h]; congr 1; exact (decide_eq_false (by omega)).symm
theorem message_eq (s : ByteArray) : impl_isMessage.f s = some (msgB s) := by
  unfold impl_isMessage.f msgB
  by_cases h : (s.size : Int) ≥ 1
  · rw [if_pos h]; congr 1; exact decide_eq_decide.2 (by omega)
  · rw [if_neg h]; congr 1; exact (decide_eq_false (by omega)).symm
theorem not_message_eq (s : ByteArray) : impl_isTopic_1.f s = some (!msgB s) := by
  unfold impl_isTopic_1.f
  rw [message_eq]
  rfl
def endB (b : Int) (h : List ByteArray) : Int := wrap64 (b + (h.length : Int))

def heldStep (l : List ByteArray) (i : Nat) : Option Bool := if msgB (rdOf ByteArray.empty l (i : Int)) = true then none else some false
def heldB (l : List ByteArray) : Bool := l.all msgB
theorem held_scan (l : List ByteArray) : ∀ d i : Nat, i + d = l.length → scanFrom (heldStep l) true d i = (l.drop i).all msgB := by
  intro d
  induction d with
  | zero => intro i hi; rw [List.drop_of_length_le (by omega)]; rfl
  | succ d ih =>
    intro i hi
    have hlt : i < l.length := by omega
    have e : rdOf ByteArray.empty l (i : Int) = l[i] := by simp [rdOf, List.getD, hlt]
    simp only [scanFrom, heldStep]
    rw [e, List.drop_eq_getElem_cons hlt, List.all_cons]
    cases hm : msgB l[i]
    · simp
    · simp only [if_true, Bool.true_and]
      exact ih (i + 1) (by omega)
theorem ixFrom_any {p : ByteArray → Bool} : ∀ (l : List ByteArray) (i : Nat), decide (0 ≤ ixFrom p l i) = l.any p := by
  intro l
  induction l with
  | nil => intro i; simp [ixFrom]
  | cons x xs ih =>
    intro i
    rw [List.any_cons]
    by_cases hp : p x = true
    · have e : ixFrom p (x :: xs) i = (i : Int) := if_pos hp
      rw [e, hp]
      simp
    · have e : ixFrom p (x :: xs) i = ixFrom p xs (i + 1) := if_neg hp
      rw [e, ih (i + 1)]
      simp [hp]
theorem contains_eq (l : List ByteArray) : slices_ContainsFunc_string_string.f l = some (!heldB l) := by
  unfold slices_ContainsFunc_string_string.f
  rw [if_pos (List.all_eq_true.2 fun x _ => by rw [not_message_eq]; rfl), ixFrom_any]
  congr 1
  have e : slices_ContainsFunc_string_string_p = fun x => !msgB x := by
    funext x
    unfold slices_ContainsFunc_string_string_p
    rw [not_message_eq]
    cases msgB x <;> rfl
  rw [e]
  unfold heldB
  induction l with
  | nil => rfl
  | cons x xs ih => simp only [List.any_cons, List.all_cons, ih]; cases msgB x <;> simp

def grStep (b e : Int) (l : List GT) (i : Nat) : Option Bool :=
  let g := rd_T55 l i
  if nameB g.f0 = true then
    (if i = 0 then (if decide (b ≤ g.f1 ∧ g.f1 ≤ e) = true then none else some false)
     else if Op.bytesLess (rd_T55 l ((i : Int) - 1)).f0.toList g.f0.toList = true then (if decide (b ≤ g.f1 ∧ g.f1 ≤ e) = true then none else some false) else some false)
  else some false
theorem grStep_ne (b e : Int) (l : List GT) (j : Nat) : grStep b e l j ≠ some true := by
  simp only [grStep]
  split
  · split
    · split <;> simp
    · split
      · split <;> simp
      · simp
  · simp
def grB (b e : Int) (l : List GT) : Bool := scanFrom (grStep b e l) true l.length 0
def topicB (nm : ByteArray) (b : Int) (h : List ByteArray) (l : List GT) : Bool :=
  nameB nm && (decide (0 ≤ b ∧ b ≤ 1000000000) && (decide (h.length ≤ 20) && (decide (l.length ≤ 4) && (decide (endB b h ≤ 1000000000) && (heldB h && grB b (endB b h) l)))))

theorem spec_gr {nm : ByteArray} {b : Int} {h : List ByteArray} {l : List GT} (hl : l.length ≤ 9223372036854775807) (hM : nmI l ≤ 9223372036854775807) {k : Nat} (hk : l.length + (nmI l + 2) < k) :
    spec_TopicRight.l1 k 0 nm b h l = some (grB b (endB b h) l) := by
  unfold grB
  refine scanLoop (n := l.length) (m := nmI l + 2) (F := fun k i => spec_TopicRight.l1 k i nm b h l) (fun k => ?_) (fun k i hm hi => ?_) l.length k 0 (by omega) (by omega)
  · simp only [spec_TopicRight.l1]
    rw [if_neg (by omega)]
  · have hb := nmIi hi
    simp only [spec_TopicRight.l1, spec_l07End.f, tIs_eq]
    rw [if_pos (by omega), if_pos (by omega), spec_name_eq (by omega) (by omega), w_nat hi hl]
    simp only [Option.bind_some, grStep]
    by_cases hp : nameB (rd_T55 l i).f0 = true
    · rw [if_pos hp, if_pos hp]
      by_cases h0 : i = 0
      · subst h0
        rw [if_neg (by omega), if_pos rfl]
        unfold endB
        split <;> rfl
      · rw [if_pos (by omega), if_neg h0, w_id (by omega) (by omega), if_pos (by omega), if_pos (by omega)]
        by_cases hs : Op.bytesLess (rd_T55 l ((i : Int) - 1)).f0.toList (rd_T55 l i).f0.toList = true
        · rw [if_pos hs, if_pos hs]
          unfold endB
          split <;> rfl
        · rw [if_neg hs, if_neg hs]
    · rw [if_neg hp, if_neg hp]
theorem spec_held {nm : ByteArray} {b : Int} {h : List ByteArray} {l : List GT} (hh : h.length ≤ 9223372036854775807) (hl : l.length ≤ 9223372036854775807) (hM : nmI l ≤ 9223372036854775807) {k : Nat} (hk : h.length + (l.length + (nmI l + 4)) < k) :
    spec_TopicRight.l0 k 0 nm b h l = some (heldB h && grB b (endB b h) l) := by
  obtain ⟨k, rfl⟩ : ∃ m, k = m + (l.length + (nmI l + 3)) := ⟨k - (l.length + (nmI l + 3)), by omega⟩
  have hf := scanLoop (n := h.length) (m := 0) (F := fun k i => spec_TopicRight.l0 (k + (l.length + (nmI l + 3))) i nm b h l) (step := heldStep h) (fin := grB b (endB b h) l) (fun k => by
    rw [show k + 1 + (l.length + (nmI l + 3)) = (k + (l.length + (nmI l + 3))) + 1 by omega, spec_TopicRight.l0]
    rw [if_neg (by omega)]
    exact spec_gr hl hM (by omega)) (fun k i hm hi => by
    rw [show k + 1 + (l.length + (nmI l + 3)) = (k + (l.length + (nmI l + 3))) + 1 by omega, spec_TopicRight.l0]
    rw [if_pos (by omega), if_pos (by omega), text_eq, w_nat hi hh]
    simp only [Option.bind_some, heldStep]
    split <;> rfl) h.length k 0 (by omega) (by omega)
  refine Eq.trans hf ?_
  rw [scan_fin _ (fun j => by unfold heldStep; split <;> simp), held_scan h h.length 0 (by omega)]
  rfl
theorem spec_topic_eq {nm : ByteArray} {b : Int} {h : List ByteArray} {l : List GT} (hn : nm.size ≤ 9223372036854775807) (hh : h.length ≤ 9223372036854775807) (hl : l.length ≤ 9223372036854775807) (hM : nmI l ≤ 9223372036854775807) {k : Nat}
    (hk : nm.size + (h.length + (l.length + (nmI l + 10))) < k) : spec_TopicRight.f k nm b h l = some (topicB nm b h l) := by
  obtain ⟨k, rfl⟩ : ∃ m, k = m + 1 := ⟨k - 1, by omega⟩
  unfold spec_TopicRight.f topicB
  rw [spec_name_eq hn (by omega), tIs_eq]
  simp only [Option.bind_some, spec_TopicRight.j0, spec_l07End.f]
  rw [spec_held hh hl hM (by omega)]
  by_cases h1 : nameB nm = true
  · rw [if_pos h1, h1]
    by_cases h2 : 0 ≤ b ∧ b ≤ 1000000000
    · rw [if_pos (by simpa using h2)]
      by_cases h3 : h.length ≤ 20
      · rw [if_neg (by omega)]
        by_cases h4 : l.length ≤ 4
        · rw [if_neg (by omega)]
          by_cases h5 : endB b h ≤ 1000000000
          · have h5' : ¬ wrap64 (b + (h.length : Int)) > 1000000000 := by unfold endB at h5; omega
            rw [if_neg (by simpa using h5')]
            simp [h2, h3, h4, h5]
          · have h5' : wrap64 (b + (h.length : Int)) > 1000000000 := by unfold endB at h5; omega
            rw [if_pos (by simpa using h5')]
            simp [h5]
        · rw [if_pos (by omega)]
          simp [h4]
      · rw [if_pos (by omega)]
        simp [h3]
    · rw [if_neg (by simpa using h2)]
      have : decide (0 ≤ b ∧ b ≤ 1000000000) = false := decide_eq_false h2
      simp [this]
  · rw [if_neg h1]
    simp [h1]

theorem impl_gr {nm : ByteArray} {b : Int} {h : List ByteArray} {l : List GT} (hl : l.length ≤ 9223372036854775807) (hM : nmI l ≤ 9223372036854775807) {k : Nat} (hk : l.length + (nmI l + 2) < k) :
    impl_isTopic.l0 k l (l.length : Int) 0 nm b h l = some (heldB h && grB b (endB b h) l) := by
  have hf := scanLoop (n := l.length) (m := nmI l + 2) (F := fun k i => impl_isTopic.l0 k l (l.length : Int) i nm b h l) (step := grStep b (endB b h) l) (fin := heldB h) (fun k => by
    simp only [impl_isTopic.l0]
    rw [if_neg (by omega), contains_eq]
    simp) (fun k i hm hi => by
    have hb := nmIi hi
    simp only [impl_isTopic.l0, impl_Topic_end.f, tWithin_eq]
    rw [if_pos (by omega), if_pos (by omega), if_pos (by omega), impl_name_eq (by omega) (by omega), w_nat hi hl]
    simp only [Option.bind_some, grStep]
    by_cases hp : nameB (rd_T55 l i).f0 = true
    · rw [if_pos hp, if_pos hp]
      by_cases h0 : i = 0
      · subst h0
        rw [if_neg (by omega), if_pos rfl]
        unfold endB
        split <;> rfl
      · rw [if_pos (by omega), if_neg h0, w_id (by omega) (by omega), if_pos (by omega), if_pos (by omega)]
        by_cases hs : Op.bytesLess (rd_T55 l ((i : Int) - 1)).f0.toList (rd_T55 l i).f0.toList = true
        · rw [if_pos hs, if_pos hs]
          unfold endB
          split <;> rfl
        · rw [if_neg hs, if_neg hs]
    · rw [if_neg hp, if_neg hp]) l.length k 0 (by omega) (by omega)
  refine Eq.trans hf ?_
  rw [scan_fin _ (grStep_ne _ _ _), Bool.and_comm]
  rfl
theorem impl_topic_eq {nm : ByteArray} {b : Int} {h : List ByteArray} {l : List GT} (hn : nm.size ≤ 9223372036854775807) (hh : h.length ≤ 9223372036854775807) (hl : l.length ≤ 9223372036854775807) (hM : nmI l ≤ 9223372036854775807) {k : Nat}
    (hk : nm.size + (h.length + (l.length + (nmI l + 10))) < k) : impl_isTopic.f k nm b h l = some (topicB nm b h l) := by
  obtain ⟨k, rfl⟩ : ∃ m, k = m + 1 := ⟨k - 1, by omega⟩
  unfold impl_isTopic.f impl_isTime.f topicB
  rw [impl_name_eq hn (by omega), tWithin_eq]
  simp only [Option.bind_some, impl_isTopic.j0, impl_Topic_end.f]
  rw [impl_gr hl hM (by omega)]
  by_cases h1 : nameB nm = true
  · rw [if_pos h1, h1]
    by_cases h2 : 0 ≤ b ∧ b ≤ 1000000000
    · rw [if_pos (by simpa using h2)]
      by_cases h3 : h.length ≤ 20
      · rw [if_neg (by omega)]
        by_cases h5 : endB b h ≤ 1000000000
        · have h5' : ¬ wrap64 (b + (h.length : Int)) > 1000000000 := by unfold endB at h5; omega
          rw [if_neg h5']
          by_cases h4 : l.length ≤ 4
          · have h4' : ¬ (l.length : Int) > 4 := by omega
            rw [if_neg (by simpa using h4')]
            simp [h2, h3, h4, h5]
          · have h4' : (l.length : Int) > 4 := by omega
            rw [if_pos (by simpa using h4')]
            simp [h4]
        · have h5' : wrap64 (b + (h.length : Int)) > 1000000000 := by unfold endB at h5; omega
          rw [if_pos h5']
          simp [h5]
      · rw [if_pos (by omega)]
        simp [h3]
    · rw [if_neg (by simpa using h2)]
      have : decide (0 ≤ b ∧ b ≤ 1000000000) = false := decide_eq_false h2
      simp [this]
  · rw [if_neg h1]
    simp [h1]

theorem sup_le' {α : Type} {f : α → Nat} {l : List α} {B : Nat} (h : ∀ x ∈ l, f x ≤ B) : sup f l ≤ B := by
  induction l with
  | nil => exact Nat.zero_le _
  | cons x xs ih => exact Nat.max_le.2 ⟨h x (by simp), ih fun y hy => h y (by simp [hy])⟩
theorem tbind {α β : Type} (a : α) (f : α → Option β) : (some a).bind f = f a := of_eq_true (eq_self _)
theorem tNat (i : Nat) : ((i : Int)).toNat = i := of_eq_true (eq_self _)

end Go.Proofs.Ytnjnjffjblgldaa.Q
