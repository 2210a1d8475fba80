/- Copies, sizes and comparisons of topics, and what TopicRight and isTopic answer: one and the same function. -/
import Derived.Test.YtjjdakpnjiocjaaQx1
import Derived.Test.YtjjdakpnjiocjaaQx2
import Derived.Test.YtjjdakpnjiocjaaQx4
import Derived.Test.YtjjdakpnjiocjaaQx6
import Derived.Test.YtjjdakpnjiocjaaQx9
import Derived.Test.YtjjdakpnjiocjaaQPlName
import Derived.Test.YtjjdakpnjiocjaaQPlLoops
namespace Go.Proofs.Ytjjdakpnjiocjaa.Q
open Go.RowKit Go.Proofs.YtjjdakpnjiocjaaW.PrintWords Go.Proofs.YtjjdakpnjiocjaaW.PrintLast Go.Proofs.Ytjjdakpnjiocjaa.HB
set_option linter.unusedVariables false
set_option linter.unusedSimpArgs false

abbrev GT := S79
abbrev GL := S108
def groupOf (x : GL) : GT := ⟨x.f0, x.f1⟩
def nmI (l : List GT) : Nat := sup (fun g => g.f0.size) l
def nmL (l : List GL) : Nat := sup (fun g => g.f0.size) l
theorem nmI_map (l : List GL) : nmI (l.map groupOf) = nmL l := by
  unfold nmI nmL
  rw [sup_map]
  rfl
theorem rdGT {l : List GT} {i : Nat} (h : i < l.length) : rd_T79 l (i : Int) ∈ l := mem_getD _ (by simpa using h)
theorem rdGL {l : List GL} {i : Nat} (h : i < l.length) : rd_T108 l (i : Int) ∈ l := mem_getD _ (by simpa using h)
theorem nmIi {l : List GT} {i : Nat} (h : i < l.length) : (rd_T79 l (i : Int)).f0.size ≤ nmI l := le_sup (fun g : GT => g.f0.size) (rdGT h)
theorem tIs_eq (a b c : Int) : spec_l03Is.f a b c = some (decide (b ≤ a ∧ a ≤ c)) := by
  unfold spec_l03Is.f
  by_cases h : a ≥ b
  · rw [if_pos h]; simp [show b ≤ a from h]
  · rw [if_neg h]; simp [show ¬ b ≤ a from h]
theorem tWithin_eq (a b c : Int) : impl_within.f a b c = some (decide (b ≤ a ∧ a ≤ c)) := by
  unfold impl_within.f
  by_cases h : a ≥ b
  · rw [if_pos h]; simp [show b ≤ a from h]
  · rw [if_neg h]; simp [show ¬ b ≤ a from h]
def msgB (s : ByteArray) : Bool := decide (1 ≤ s.size ∧ s.size ≤ 40)
theorem text_eq (s : ByteArray) : spec_l07Text.f s = some (msgB s) := by
  unfold spec_l07Text.f msgB
  by_cases h : (s.size : Int) ≥ 1
  · rw [if_pos h]; congr 1; exact decide_eq_decide.2 (by omega)
  · rw [if_neg h]; congr 1; exact (decide_eq_false (by omega)).symm
theorem message_eq (s : ByteArray) : impl_isMessage.f s = some (msgB s) := by
  unfold impl_isMessage.f msgB
  by_cases h : (s.size : Int) ≥ 1
  · rw [if_pos h]; congr 1; exact decide_eq_decide.2 (by omega)
  · rw [if_neg h]; congr 1; exact (decide_eq_false (by omega)).symm
theorem not_message_eq (s : ByteArray) : impl_isTopic_1.f s = some (!msgB s) := by
  unfold impl_isTopic_1.f
  rw [message_eq]
  rfl
def endB (b : Int) (h : List ByteArray) : Int := wrap64 (b + (h.length : Int))

def heldStep (l : List ByteArray) (i : Nat) : Option Bool := if msgB (rdOf ByteArray.empty l (i : Int)) = true then none else some false
def heldB (l : List ByteArray) : Bool := l.all msgB
theorem held_scan (l : List ByteArray) : ∀ d i : Nat, i + d = l.length → scanFrom (heldStep l) true d i = (l.drop i).all msgB := by
  intro d
  induction d with
  | zero => intro i hi; rw [List.drop_of_length_le (by omega)]; rfl
  | succ d ih =>
    intro i hi
    have hlt : i < l.length := by omega
    have e : rdOf ByteArray.empty l (i : Int) = l[i] := by simp [rdOf, List.getD, hlt]
    simp only [scanFrom, heldStep]
    rw [e, List.drop_eq_getElem_cons hlt, List.all_cons]
    cases hm : msgB l[i]
    · simp
    · simp only [if_true, Bool.true_and]
      exact ih (i + 1) (by omega)
theorem ixFrom_any {p : ByteArray → Bool} : ∀ (l : List ByteArray) (i : Nat), decide (0 ≤ ixFrom p l i) = l.any p := by
  intro l
  induction l with
  | nil => intro i; simp [ixFrom]
  | cons x xs ih =>
    intro i
    rw [List.any_cons]
    by_cases hp : p x = true
    · have e : ixFrom p (x :: xs) i = (i : Int) := if_pos hp
      rw [e, hp]
      simp
    · have e : ixFrom p (x :: xs) i = ixFrom p xs (i + 1) := if_neg hp
      rw [e, ih (i + 1)]
      simp [hp]
theorem contains_eq (l : List ByteArray) : slices_ContainsFunc_string_string.f l = some (!heldB l) := by
  unfold slices_ContainsFunc_string_string.f
  rw [if_pos (List.all_eq_true.2 fun x _ => by rw [not_message_eq]; rfl), ixFrom_any]
  congr 1
  have e : slices_ContainsFunc_string_string_p = fun x => !msgB x := by
    funext x
    unfold slices_ContainsFunc_string_string_p
    rw [not_message_eq]
    cases msgB x <;> rfl
  rw [e]
  unfold heldB
  induction l with
  | nil => rfl
  | cons x xs ih => simp only [List.any_cons, List.all_cons, ih]; cases msgB x <;> simp

def grStep (b e : Int) (l : List GT) (i : Nat) : Option Bool :=
  let g := rd_T79 l i
  if nameB g.f0 = true then
    (if i = 0 then (if decide (b ≤ g.f1 ∧ g.f1 ≤ e) = true then none else some false)
     else if Op.bytesLess (rd_T79 l ((i : Int) - 1)).f0.toList g.f0.toList = true then (if decide (b ≤ g.f1 ∧ g.f1 ≤ e) = true then none else some false) else some false)
  else some false
theorem grStep_ne (b e : Int) (l : List GT) (j : Nat) : grStep b e l j ≠ some true := by
  simp only [grStep]
  split
  · split
    · split <;> simp
    · split
      · split <;> simp
      · simp
  · simp
def grB (b e : Int) (l : List GT) : Bool := scanFrom (grStep b e l) true l.length 0
def topicB (nm : ByteArray) (b : Int) (h : List ByteArray) (l : List GT) : Bool :=
  nameB nm && (decide (0 ≤ b ∧ b ≤ 1000000000) && (decide (h.length ≤ 20) && (decide (l.length ≤ 4) && (decide (endB b h ≤ 1000000000) && (heldB h && grB b (endB b h) l)))))

theorem spec_gr {nm : ByteArray} {b : Int} {h : List ByteArray} {l : List GT} (hl : l.length ≤ 9223372036854775807) (hM : nmI l ≤ 9223372036854775807) {k : Nat} (hk : l.length + (nmI l + 2) < k) :
    spec_TopicRight.l1 k 0 nm b h l = some (grB b (endB b h) l) := by
  unfold grB
  refine scanLoop (n := l.length) (m := nmI l + 2) (F := fun k i => spec_TopicRight.l1 k i nm b h l) (fun k => ?_) (fun k i hm hi => ?_) l.length k 0 (by omega) (by omega)
  · simp only [spec_TopicRight.l1]
    rw [if_neg (by omega)]
  · have hb := nmIi hi
    simp only [spec_TopicRight.l1, spec_l07End.f, tIs_eq]
    rw [if_pos (by omega), if_pos (by omega), spec_name_eq (by omega) (by omega), w_nat hi hl]
    simp only [Option.bind_some, grStep]
    by_cases hp : nameB (rd_T79 l i).f0 = true
    · rw [if_pos hp, if_pos hp]
      by_cases h0 : i = 0
      · subst h0
        rw [if_neg (by omega), if_pos rfl]
        unfold endB
        split <;> rfl
      · rw [if_pos (by omega), if_neg h0, w_id (by omega) (by omega), if_pos (by omega), if_pos (by omega)]
        by_cases hs : Op.bytesLess (rd_T79 l ((i : Int) - 1)).f0.toList (rd_T79 l i).f0.toList = true
        · rw [if_pos hs, if_pos hs]
          unfold endB
          split <;> rfl
        · rw [if_neg hs, if_neg hs]
    · rw [if_neg hp, if_neg hp]
theorem spec_held {nm : ByteArray} {b : Int} {h : List ByteArray} {l : List GT} (hh : h.length ≤ 9223372036854775807) (hl : l.length ≤ 9223372036854775807) (hM : nmI l ≤ 9223372036854775807) {k : Nat} (hk : h.length + (l.length + (nmI l + 4)) < k) :
    spec_TopicRight.l0 k 0 nm b h l = some (heldB h && grB b (endB b h) l) := by
  obtain ⟨k, rfl⟩ : ∃ m, k = m + (l.length + (nmI l + 3)) := ⟨k - (l.length + (nmI l + 3)), by omega⟩
  have hf := scanLoop (n := h.length) (m := 0) (F := fun k i => spec_TopicRight.l0 (k + (l.length + (nmI l + 3))) i nm b h l) (step := heldStep h) (fin := grB b (endB b h) l) (fun k => by
    rw [show k + 1 + (l.length + (nmI l + 3)) = (k + (l.length + (nmI l + 3))) + 1 by omega, spec_TopicRight.l0]
    rw [if_neg (by omega)]
    exact spec_gr hl hM (by omega)) (fun k i hm hi => by
    rw [show k + 1 + (l.length + (nmI l + 3)) = (k + (l.length + (nmI l + 3))) + 1 by omega, spec_TopicRight.l0]
    rw [if_pos (by omega), if_pos (by omega), text_eq, w_nat hi hh]
    simp only [Option.bind_some, heldStep]
    split <;> rfl) h.length k 0 (by omega) (by omega)
  refine Eq.trans hf ?_
  rw [scan_fin _ (fun j => by unfold heldStep; split <;> simp), held_scan h h.length 0 (by omega)]
  rfl
theorem spec_topic_eq {nm : ByteArray} {b : Int} {h : List ByteArray} {l : List GT} (hn : nm.size ≤ 9223372036854775807) (hh : h.length ≤ 9223372036854775807) (hl : l.length ≤ 9223372036854775807) (hM : nmI l ≤ 9223372036854775807) {k : Nat}
    (hk : nm.size + (h.length + (l.length + (nmI l + 10))) < k) : spec_TopicRight.f k nm b h l = some (topicB nm b h l) := by
  obtain ⟨k, rfl⟩ : ∃ m, k = m + 1 := ⟨k - 1, by omega⟩
  unfold spec_TopicRight.f topicB
  rw [spec_name_eq hn (by omega), tIs_eq]
  simp only [Option.bind_some, spec_TopicRight.j0, spec_l07End.f]
  rw [spec_held hh hl hM (by omega)]
  by_cases h1 : nameB nm = true
  · rw [if_pos h1, h1]
    by_cases h2 : 0 ≤ b ∧ b ≤ 1000000000
    · rw [if_pos (by simpa using h2)]
      by_cases h3 : h.length ≤ 20
      · rw [if_neg (by omega)]
        by_cases h4 : l.length ≤ 4
        · rw [if_neg (by omega)]
          by_cases h5 : endB b h ≤ 1000000000
          · have h5' : ¬ wrap64 (b + (h.length : Int)) > 1000000000 := by unfold endB at h5; omega
            rw [if_neg (by simpa using h5')]
            simp [h2, h3, h4, h5]
          · have h5' : wrap64 (b + (h.length : Int)) > 1000000000 := by unfold endB at h5; omega
            rw [if_pos (by simpa using h5')]
            simp [h5]
        · rw [if_pos (by omega)]
          simp [h4]
      · rw [if_pos (by omega)]
        simp [h3]
    · rw [if_neg (by simpa using h2)]
      have : decide (0 ≤ b ∧ b ≤ 1000000000) = false := decide_eq_false h2
      simp [this]
  · rw [if_neg h1]
    simp [h1]

theorem impl_gr {nm : ByteArray} {b : Int} {h : List ByteArray} {l : List GT} (hl : l.length ≤ 9223372036854775807) (hM : nmI l ≤ 9223372036854775807) {k : Nat} (hk : l.length + (nmI l + 2) < k) :
    impl_isTopic.l0 k l (l.length : Int) 0 nm b h l = some (heldB h && grB b (endB b h) l) := by
  have hf := scanLoop (n := l.length) (m := nmI l + 2) (F := fun k i => impl_isTopic.l0 k l (l.length : Int) i nm b h l) (step := grStep b (endB b h) l) (fin := heldB h) (fun k => by
    simp only [impl_isTopic.l0]
    rw [if_neg (by omega), contains_eq]
    simp) (fun k i hm hi => by
    have hb := nmIi hi
    simp only [impl_isTopic.l0, impl_Topic_end.f, tWithin_eq]
    rw [if_pos (by omega), if_pos (by omega), if_pos (by omega), impl_name_eq (by omega) (by omega), w_nat hi hl]
    simp only [Option.bind_some, grStep]
    by_cases hp : nameB (rd_T79 l i).f0 = true
    · rw [if_pos hp, if_pos hp]
      by_cases h0 : i = 0
      · subst h0
        rw [if_neg (by omega), if_pos rfl]
        unfold endB
        split <;> rfl
      · rw [if_pos (by omega), if_neg h0, w_id (by omega) (by omega), if_pos (by omega), if_pos (by omega)]
        by_cases hs : Op.bytesLess (rd_T79 l ((i : Int) - 1)).f0.toList (rd_T79 l i).f0.toList = true
        · rw [if_pos hs, if_pos hs]
          unfold endB
          split <;> rfl
        · rw [if_neg hs, if_neg hs]
    · rw [if_neg hp, if_neg hp]) l.length k 0 (by omega) (by omega)
  refine Eq.trans hf ?_
  rw [scan_fin _ (grStep_ne _ _ _), Bool.and_comm]
  rfl
theorem impl_topic_eq {nm : ByteArray} {b : Int} {h : List ByteArray} {l : List GT} (hn : nm.size ≤ 9223372036854775807) (hh : h.length ≤ 9223372036854775807) (hl : l.length ≤ 9223372036854775807) (hM : nmI l ≤ 9223372036854775807) {k : Nat}
    (hk : nm.size + (h.length + (l.length + (nmI l + 10))) < k) : impl_isTopic.f k nm b h l = some (topicB nm b h l) := by
  obtain ⟨k, rfl⟩ : ∃ m, k = m + 1 := ⟨k - 1, by omega⟩
  unfold impl_isTopic.f impl_isTime.f topicB
  rw [impl_name_eq hn (by omega), tWithin_eq]
  simp only [Option.bind_some, impl_isTopic.j0, impl_Topic_end.f]
  rw [impl_gr hl hM (by omega)]
  by_cases h1 : nameB nm = true
  · rw [if_pos h1, h1]
    by_cases h2 : 0 ≤ b ∧ b ≤ 1000000000
    · rw [if_pos (by simpa using h2)]
      by_cases h3 : h.length ≤ 20
      · rw [if_neg (by omega)]
        by_cases h5 : endB b h ≤ 1000000000
        · have h5' : ¬ wrap64 (b + (h.length : Int)) > 1000000000 := by unfold endB at h5; omega
          rw [if_neg h5']
          by_cases h4 : l.length ≤ 4
          · have h4' : ¬ (l.length : Int) > 4 := by omega
            rw [if_neg (by simpa using h4')]
            simp [h2, h3, h4, h5]
          · have h4' : (l.length : Int) > 4 := by omega
            rw [if_pos (by simpa using h4')]
            simp [h4]
        · have h5' : wrap64 (b + (h.length : Int)) > 1000000000 := by unfold endB at h5; omega
          rw [if_pos h5']
          simp [h5]
      · rw [if_pos (by omega)]
        simp [h3]
    · rw [if_neg (by simpa using h2)]
      have : decide (0 ≤ b ∧ b ≤ 1000000000) = false := decide_eq_false h2
      simp [this]
  · rw [if_neg h1]
    simp [h1]

theorem toStringS_eq {l : List ByteArray} (hl : l.length ≤ 17592186044416) {k : Nat} (hk : l.length < k) : laws_toStringS.f k l = some l := by
  unfold laws_toStringS.f
  rw [if_pos (by omega), if_pos (by omega)]
  have := copyLoop (l := l) (c := fun x => x) ByteArray.empty (m := 0) (F := fun k o i => laws_toStringS.l0 k l o i) (fun k o => by
    simp only [laws_toStringS.l0]
    rw [if_neg (by omega)]) (fun k o i hm hi ho => by
    simp only [laws_toStringS.l0]
    rw [if_pos (by omega), if_pos (by omega), if_pos (by omega), w_nat hi (by omega)]
    rfl) l.length k 0 (List.replicate ((l.length : Int)).toNat (⟨#[]⟩ : ByteArray)) (by omega) (by omega) (by simp) (by simp)
  simpa using this
theorem toGroupS_eq {l : List GL} (hl : l.length ≤ 11728124029610) {k : Nat} (hk : l.length < k) : laws_toGroupS.f k l = some (l.map groupOf) := by
  unfold laws_toGroupS.f
  rw [if_pos (by omega), if_pos (by omega)]
  refine copyLoop (l := l) (c := groupOf) z108 (m := 0) (F := fun k o i => laws_toGroupS.l0 k l o i) (fun k o => ?_) (fun k o i hm hi ho => ?_) l.length k 0 _ (by omega) (by omega) (by simp) (by simp)
  · simp only [laws_toGroupS.l0]
    rw [if_neg (by omega)]
  · simp only [laws_toGroupS.l0, laws_toGroup.f, Option.bind_some]
    rw [if_pos (by omega), if_pos (by omega), if_pos (by omega), w_nat hi (by omega)]
    rfl
theorem toTopic_eq {nm : ByteArray} {b : Int} {h : List ByteArray} {l : List GL} (hh : h.length ≤ 1048576) (hl : l.length ≤ 1048576) {k : Nat} (hk : h.length + l.length < k) : laws_toTopic.f k nm b h l = some (nm, b, h, l.map groupOf) := by
  unfold laws_toTopic.f
  rw [toStringS_eq (by omega) (by omega), toGroupS_eq (by omega) (by omega)]
  rfl
theorem eqStringS_eq {l : List ByteArray} (hl : l.length ≤ 9223372036854775807) {k : Nat} (hk : l.length < k) : laws_eqStringS.f k l l = some true := by
  unfold laws_eqStringS.f
  rw [if_pos rfl]
  refine upLoop (n := l.length) (m := 0) (F := fun k i => laws_eqStringS.l0 k l l i) (fun k => ?_) (fun k i hm hi => ?_) l.length k 0 (by omega) (by omega)
  · simp only [laws_eqStringS.l0]
    rw [if_neg (by omega)]
  · simp only [laws_eqStringS.l0]
    rw [if_pos (by omega), if_pos (by omega), if_pos (by omega), if_pos trivial, w_nat hi hl]
theorem eqGroupS_eq {l : List GT} (hl : l.length ≤ 9223372036854775807) {k : Nat} (hk : l.length < k) : laws_eqGroupS.f k l l = some true := by
  unfold laws_eqGroupS.f
  rw [if_pos rfl]
  refine upLoop (n := l.length) (m := 0) (F := fun k i => laws_eqGroupS.l0 k l l i) (fun k => ?_) (fun k i hm hi => ?_) l.length k 0 (by omega) (by omega)
  · simp only [laws_eqGroupS.l0]
    rw [if_neg (by omega)]
  · simp only [laws_eqGroupS.l0, laws_eqGroup.f]
    rw [if_pos (by omega), if_pos (by omega), if_pos (by omega), if_pos trivial, if_pos trivial, w_nat hi hl]
    simp
theorem eqTopic_eq {nm : ByteArray} {b : Int} {h : List ByteArray} {l : List GT} (hh : h.length ≤ 9223372036854775807) (hl : l.length ≤ 9223372036854775807) {k : Nat} (hk : h.length + l.length < k) : laws_eqTopic.f k nm b h l nm b h l = some true := by
  unfold laws_eqTopic.f
  rw [if_pos rfl, if_pos rfl, eqStringS_eq hh (by omega), eqGroupS_eq hl (by omega)]
  rfl
theorem szStringS_l0 (l : List ByteArray) (hl : l.length ≤ 9223372036854775807) (hw : ∀ x ∈ l, x.size ≤ 9223372036854775807) (d : Nat) : ∀ (k i : Nat) (n : Int), i + d = l.length → d < k → 0 ≤ n → n ≤ 1048576 →
    ∃ r, laws_szStringS.l0 k l n (i : Int) = some r ∧ r ≤ n ∧ -1 ≤ r := by
  induction d with
  | zero =>
    intro k i n hi hk h0 hn
    obtain ⟨k, rfl⟩ := k_succ hk
    simp only [laws_szStringS.l0]
    rw [if_neg (by omega)]
    exact ⟨n, rfl, by omega, by omega⟩
  | succ d ih =>
    intro k i n hi hk h0 hn
    obtain ⟨k, rfl⟩ := k_succ hk
    have hlt : i < l.length := by omega
    simp only [laws_szStringS.l0]
    have hm : rdOf ByteArray.empty l (i : Int) ∈ l := by simp [rdOf, List.getD, hlt]
    have ho := hw _ hm
    rw [if_pos (by omega), if_pos (by omega), w_id (by omega) (by omega), w_nat hlt hl]
    split
    · exact ⟨-1, rfl, by omega, by omega⟩
    · obtain ⟨r', hr', h5, h6⟩ := ih k (i + 1) (n - (rdOf ByteArray.empty l (i : Int)).size) (by omega) (by omega) (by omega) (by omega)
      exact ⟨r', hr', by omega, h6⟩
theorem szGroupS_l0 (l : List GL) (hl : l.length ≤ 9223372036854775807) (hw : ∀ x ∈ l, x.f0.size ≤ 9223372036854775807) (d : Nat) : ∀ (k i : Nat) (n : Int), i + d = l.length → d < k → 0 ≤ n → n ≤ 1048576 →
    ∃ r, laws_szGroupS.l0 k l n (i : Int) = some r ∧ r ≤ n ∧ -1 ≤ r ∧ (0 ≤ r → ∀ x ∈ l.drop i, x.f0.size ≤ 1048576) := by
  induction d with
  | zero =>
    intro k i n hi hk h0 hn
    obtain ⟨k, rfl⟩ := k_succ hk
    simp only [laws_szGroupS.l0]
    rw [if_neg (by omega)]
    exact ⟨n, rfl, by omega, by omega, fun _ x hx => by rw [List.drop_of_length_le (by omega)] at hx; simp at hx⟩
  | succ d ih =>
    intro k i n hi hk h0 hn
    obtain ⟨k, rfl⟩ := k_succ hk
    have hlt : i < l.length := by omega
    simp only [laws_szGroupS.l0, laws_szGroup.f]
    have ho := hw _ (rdGL hlt)
    rw [if_pos (by omega), if_pos (by omega), w_id (by omega) (by omega), w_nat hlt hl]
    by_cases hneg : n - ((rd_T108 l (i : Int)).f0.size : Int) < 0
    · rw [if_pos hneg]
      simp only [Option.bind_some]
      rw [if_pos (by omega)]
      exact ⟨-1, rfl, by omega, by omega, fun h => by omega⟩
    · rw [if_neg hneg]
      simp only [Option.bind_some]
      rw [if_neg hneg]
      obtain ⟨r', hr', h5, h6, h7⟩ := ih k (i + 1) (n - (rd_T108 l (i : Int)).f0.size) (by omega) (by omega) (by omega) (by omega)
      refine ⟨r', hr', by omega, h6, fun h x hx => ?_⟩
      rw [List.drop_eq_getElem_cons hlt] at hx
      rcases List.mem_cons.1 hx with rfl | hx
      · have e : rd_T108 l (i : Int) = l[i] := by simp [rd_T108, List.getD, hlt]
        rw [e] at hneg
        omega
      · exact h7 h x hx
theorem sup_le' {α : Type} {f : α → Nat} {l : List α} {B : Nat} (h : ∀ x ∈ l, f x ≤ B) : sup f l ≤ B := by
  induction l with
  | nil => exact Nat.zero_le _
  | cons x xs ih => exact Nat.max_le.2 ⟨h x (by simp), ih fun y hy => h y (by simp [hy])⟩
theorem szTopic_eq {nm : ByteArray} {b : Int} {h : List ByteArray} {l : List GL} (hn : nm.size ≤ 9223372036854775807) (hh : h.length ≤ 9223372036854775807) (hl : l.length ≤ 9223372036854775807)
    (hw : ∀ x ∈ h, x.size ≤ 9223372036854775807) (hg : ∀ x ∈ l, x.f0.size ≤ 9223372036854775807) {k : Nat} (hk : h.length + l.length < k) :
    ∃ r, laws_szTopic.f k nm b h l 1048576 = some r ∧ (0 ≤ r → nm.size ≤ 1048576 ∧ h.length ≤ 1048576 ∧ l.length ≤ 1048576 ∧ nmL l ≤ 1048576) := by
  unfold laws_szTopic.f laws_szStringS.f
  rw [w_id (by omega) (by omega)]
  split
  · exact ⟨-1, rfl, fun h => by omega⟩
  · rw [w_id (by omega) (by omega)]
    split
    · exact ⟨-1, rfl, fun h => by omega⟩
    · obtain ⟨r, hr, h1, h2⟩ := szStringS_l0 h hh hw h.length k 0 (1048576 - nm.size - h.length) (by omega) (by omega) (by omega) (by omega)
      rw [show ((0 : Int)) = ((0 : Nat) : Int) from rfl, hr]
      simp only [Option.bind_some]
      split
      · exact ⟨-1, rfl, fun h => by omega⟩
      · unfold laws_szGroupS.f
        rw [w_id (by omega) (by omega)]
        split
        · exact ⟨-1, rfl, fun h => by omega⟩
        · obtain ⟨r2, hr2, g1, g2, g3⟩ := szGroupS_l0 l hl hg l.length k 0 (r - l.length) (by omega) (by omega) (by omega) (by omega)
          rw [show ((0 : Int)) = ((0 : Nat) : Int) from rfl, hr2]
          simp only [Option.bind_some]
          split
          · exact ⟨-1, rfl, fun h => by omega⟩
          · exact ⟨r2, rfl, fun h => ⟨by omega, by omega, by omega, sup_le' fun x hx => g3 h x (by simpa using hx)⟩⟩

end Go.Proofs.Ytjjdakpnjiocjaa.Q
