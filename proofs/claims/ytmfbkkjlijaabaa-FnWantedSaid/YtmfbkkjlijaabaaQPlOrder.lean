/- Strings in order: putting one after the other into a list without doubles gives the same as sorting and then removing doubles. No condition. -/
import Derived.Test.YtmfbkkjlijaabaaQPlBase
import Derived.Test.YtmfbkkjlijaabaaStrRow
import Derived.Sort.Walk0
namespace Go.Proofs.Ytmfbkkjlijaabaa.Q
open Go.RowKit Go.Proofs.YtmfbkkjlijaabaaW.PrintWords Go.Proofs.YtmfbkkjlijaabaaW.PrintLast Go.Proofs.Ytmfbkkjlijaabaa.HB
set_option linter.unusedVariables false
set_option linter.unusedSimpArgs false

abbrev LU := List UInt8
theorem lu_total {x y : LU} (h : ¬ x < y) (h2 : x ≠ y) : y < x := by
  rcases List.le_iff_lt_or_eq.1 (List.not_lt.1 h) with h3 | h3
  · exact h3
  · exact absurd h3.symm h2
/-- x, put into a list without doubles. -/
def insU (x : LU) : List LU → List LU
  | [] => [x]
  | y :: ys => if y < x then y :: insU x ys else if y = x then y :: ys else x :: y :: ys
theorem mem_insU {x z : LU} {l : List LU} : z ∈ insU x l ↔ z = x ∨ z ∈ l := by
  induction l with
  | nil => simp [insU]
  | cons y ys ih =>
    unfold insU
    split
    · simp only [List.mem_cons, ih]
      constructor
      · rintro (h | h | h) <;> simp [h]
      · rintro (h | h | h) <;> simp [h]
    · split
      · rename_i h
        subst h
        simp
      · simp
theorem insU_pair {x : LU} {l : List LU} (h : l.Pairwise (· < ·)) : (insU x l).Pairwise (· < ·) := by
  induction l with
  | nil => simp [insU]
  | cons y ys ih =>
    obtain ⟨h1, h2⟩ := List.pairwise_cons.1 h
    unfold insU
    split
    · rename_i hlt
      refine List.pairwise_cons.2 ⟨fun z hz => ?_, ih h2⟩
      rcases mem_insU.1 hz with rfl | hz
      · exact hlt
      · exact h1 z hz
    · split
      · exact h
      · rename_i h3 h4
        have hxy := lu_total h3 h4
        refine List.pairwise_cons.2 ⟨fun z hz => ?_, h⟩
        rcases List.mem_cons.1 hz with rfl | hz
        · exact hxy
        · exact List.lt_trans hxy (h1 z hz)
/-- Two lists that rise and have the same elements are the same. -/
theorem rising_eq : ∀ {l m : List LU}, l.Pairwise (· < ·) → m.Pairwise (· < ·) → (∀ x, x ∈ l ↔ x ∈ m) → l = m := by
  intro l
  induction l with
  | nil =>
    intro m _ _ h
    cases m with
    | nil => rfl
    | cons y ys => exact absurd ((h y).2 (by simp)) (by simp)
  | cons x xs ih =>
    intro m hl hm h
    cases m with
    | nil => exact absurd ((h x).1 (by simp)) (by simp)
    | cons y ys =>
      obtain ⟨a1, a2⟩ := List.pairwise_cons.1 hl
      obtain ⟨b1, b2⟩ := List.pairwise_cons.1 hm
      have e : x = y := by
        rcases List.mem_cons.1 ((h x).1 (by simp)) with e | e
        · exact e
        · rcases List.mem_cons.1 ((h y).2 (by simp)) with e2 | e2
          · exact e2.symm
          · exact absurd (List.lt_trans (a1 y e2) (b1 x e)) (List.lt_irrefl _)
      subst e
      rw [ih a2 b2 fun z => ?_]
      constructor
      · intro hz
        rcases List.mem_cons.1 ((h z).1 (by simp [hz])) with e | e
        · subst e
          exact absurd (a1 z hz) (List.lt_irrefl _)
        · exact e
      · intro hz
        rcases List.mem_cons.1 ((h z).2 (by simp [hz])) with e | e
        · subst e
          exact absurd (b1 z hz) (List.lt_irrefl _)
        · exact e
theorem compact_mem {zs : List LU} {x : LU} : x ∈ Lib.compact zs ↔ x ∈ zs := by
  unfold Lib.compact Lib.compactUpTo
  simp only [List.mem_map, List.mem_filter, List.mem_range]
  constructor
  · rintro ⟨i, ⟨hi, _⟩, rfl⟩
    rw [getElem!_pos _ i (by simpa using hi)]
    simp
  · intro hx
    obtain ⟨i, hi, rfl⟩ := List.getElem_of_mem hx
    clear hx
    induction i with
    | zero => exact ⟨0, ⟨hi, by simp [Lib.keeps]⟩, by rw [getElem!_pos _ 0 (by simpa using hi)]; simp⟩
    | succ i ih =>
      by_cases e : zs[i + 1] = zs[i]
      · rw [e]
        exact ih (by omega)
      · refine ⟨i + 1, ⟨hi, ?_⟩, by rw [getElem!_pos _ (i + 1) (by simpa using hi)]; simp⟩
        simp only [Lib.keeps, Nat.add_sub_cancel, decide_eq_true_eq]
        right
        rw [getElem!_pos _ (i + 1) (by simpa using hi), getElem!_pos _ i (by simp; omega)]
        simpa using e
theorem compact_pair {zs : List LU} (h : zs.Pairwise (fun x y => decide (x ≤ y) = true)) : (Lib.compact zs).Pairwise (· < ·) := by
  unfold Lib.compact Lib.compactUpTo
  rw [List.pairwise_map]
  refine (List.pairwise_lt_range.filter _).imp_of_mem ?_
  intro i j hi hj hij
  have hj1 := (List.mem_filter.1 hj).2
  have hj2 : j < zs.length := by simpa using (List.mem_filter.1 hj).1
  simp only [Lib.keeps, decide_eq_true_eq] at hj1
  have g : ∀ a (ha : a < zs.length), zs.toArray[a]! = zs[a] := fun a ha => by rw [getElem!_pos _ a (by simpa using ha)]; simp
  rcases hj1 with hj1 | hj1
  · omega
  · rw [g j hj2, g (j - 1) (by omega)] at hj1
    rw [g i (by omega), g j hj2]
    have hp := List.pairwise_iff_getElem.1 h
    have h1 : zs[j - 1] < zs[j] := by
      have := hp (j - 1) j (by omega) hj2 (by omega)
      rcases List.le_iff_lt_or_eq.1 (of_decide_eq_true this) with h3 | h3
      · exact h3
      · exact absurd h3.symm hj1
    by_cases e : i = j - 1
    · subst e
      exact h1
    · have := hp i (j - 1) (by omega) (by omega) (by omega)
      exact List.lt_of_le_of_lt (of_decide_eq_true this) h1
theorem compact_sort_pair (zs : List LU) : (Lib.compact (zs.mergeSort fun x y => decide (x ≤ y))).Pairwise (· < ·) := by
  refine compact_pair (List.pairwise_mergeSort (fun a b c h1 h2 => ?_) (fun a b => ?_) zs)
  · exact decide_eq_true (List.le_trans (of_decide_eq_true h1) (of_decide_eq_true h2))
  · rcases List.le_total a b with h | h <;> simp [h]
/-- One after the other, from what is there on. -/
def insAll (acc : List LU) : List LU → List LU
  | [] => acc
  | x :: xs => insAll (insU x acc) xs
theorem insAll_pair {l : List LU} : ∀ {acc : List LU}, acc.Pairwise (· < ·) → (insAll acc l).Pairwise (· < ·) := by
  induction l with
  | nil => intro acc h; exact h
  | cons x xs ih => intro acc h; exact ih (insU_pair h)
theorem mem_insAll {l : List LU} {z : LU} : ∀ {acc : List LU}, z ∈ insAll acc l ↔ z ∈ acc ∨ z ∈ l := by
  induction l with
  | nil => intro acc; simp [insAll]
  | cons x xs ih =>
    intro acc
    simp only [insAll, ih, mem_insU, List.mem_cons]
    constructor
    · rintro ((h | h) | h) <;> simp [h]
    · rintro (h | h | h) <;> simp [h]
theorem insAll_eq (zs : List LU) : insAll [] zs = Lib.compact (zs.mergeSort fun x y => decide (x ≤ y)) :=
  rising_eq (insAll_pair List.Pairwise.nil) (compact_sort_pair zs) fun x => by rw [mem_insAll, compact_mem, List.mem_mergeSort]; simp
/-- Of strings. -/
def dl (s : ByteArray) : LU := s.data.toList
theorem dl_inj {a b : ByteArray} (h : dl a = dl b) : a = b := by
  cases a; cases b
  simp only [dl] at h
  congr 1
  exact Array.toList_inj.1 h
theorem dl_mk (x : LU) : dl ⟨x.toArray⟩ = x := by simp [dl]
theorem toList_dl (s : ByteArray) : s.toList = dl s := Lib.toList_data s
theorem less_dl (a b : ByteArray) : Op.bytesLess a.toList b.toList = decide (dl a < dl b) := by rw [bytesLess_eq, toList_dl, toList_dl]
theorem toList_eq_iff (a b : ByteArray) : a.toList = b.toList ↔ a = b := ⟨fun h => dl_inj (by rwa [toList_dl, toList_dl] at h), fun h => by rw [h]⟩
def insS (x : ByteArray) : List ByteArray → List ByteArray
  | [] => [x]
  | y :: ys => if dl y < dl x then y :: insS x ys else if y = x then y :: ys else x :: y :: ys
theorem insS_dl (x : ByteArray) (l : List ByteArray) : (insS x l).map dl = insU (dl x) (l.map dl) := by
  induction l with
  | nil => rfl
  | cons y ys ih =>
    simp only [insS, List.map_cons, insU]
    by_cases h : dl y < dl x
    · rw [if_pos h, if_pos h, List.map_cons, ih]
    · rw [if_neg h, if_neg h]
      by_cases h2 : y = x
      · rw [if_pos h2, if_pos (by rw [h2]), List.map_cons]
      · rw [if_neg h2, if_neg (fun e => h2 (dl_inj e))]
        simp
def insSAll (acc : List ByteArray) : List ByteArray → List ByteArray
  | [] => acc
  | x :: xs => insSAll (insS x acc) xs
theorem insSAll_dl (l : List ByteArray) : ∀ acc : List ByteArray, (insSAll acc l).map dl = insAll (acc.map dl) (l.map dl) := by
  induction l with
  | nil => intro acc; rfl
  | cons x xs ih => intro acc; simp only [insSAll, List.map_cons, insAll, ih, insS_dl]
theorem dl_map_inj : ∀ {l m : List ByteArray}, l.map dl = m.map dl → l = m := by
  intro l
  induction l with
  | nil => intro m h; cases m with
    | nil => rfl
    | cons y ys => simp at h
  | cons x xs ih => intro m h; cases m with
    | nil => simp at h
    | cons y ys =>
      simp only [List.map_cons, List.cons.injEq] at h
      rw [dl_inj h.1, ih h.2]
theorem insSAll_eq (l : List ByteArray) : insSAll [] l = compactS (sortS l) := by
  refine dl_map_inj ?_
  rw [insSAll_dl]
  have e1 : (sortS l).map (·.data.toList) = (l.map dl).mergeSort fun x y => decide (x ≤ y) := by
    simp [sortS, Function.comp_def]
    rfl
  have e2 : (compactS (sortS l)).map dl = Lib.compact ((sortS l).map (·.data.toList)) := by
    simp [compactS, Function.comp_def, dl]
  rw [e2, e1]
  exact insAll_eq _

end Go.Proofs.Ytmfbkkjlijaabaa.Q
