/- slices.Sort of at most four numbers from 0 to 3 is the counting sort: by trying all such lists. -/
import Derived.Test.YtmfbkkjlijaabaaQx12
import Derived.Test.YtmfbkkjlijaabaaQPlBase
namespace Go.Proofs.Ytmfbkkjlijaabaa.Q
open Go.RowKit Go.Proofs.YtmfbkkjlijaabaaW.PrintWords Go.Proofs.YtmfbkkjlijaabaaW.PrintLast
set_option linter.unusedVariables false
set_option linter.unusedSimpArgs false

def cntSort (m : List Int) : List Int := m.filter (· == 0) ++ (m.filter (· == 1) ++ (m.filter (· == 2) ++ m.filter (· == 3)))
def lists4 : Nat → List (List Int)
  | 0 => [[]]
  | n + 1 => (lists4 n).flatMap fun l => [0 :: l, 1 :: l, 2 :: l, 3 :: l]
theorem mem_lists4 : ∀ m : List Int, (∀ x ∈ m, 0 ≤ x ∧ x ≤ 3) → m ∈ lists4 m.length := by
  intro m
  induction m with
  | nil => intro _; simp [lists4]
  | cons x xs ih =>
    intro h
    have h1 := ih (fun y hy => h y (List.mem_cons_of_mem _ hy))
    have h2 := h x List.mem_cons_self
    simp only [List.length_cons, lists4, List.mem_flatMap]
    refine ⟨xs, h1, ?_⟩
    have : x = 0 ∨ x = 1 ∨ x = 2 ∨ x = 3 := by omega
    rcases this with rfl | rfl | rfl | rfl <;> simp
def sortsB (m : List Int) : Bool := slices_Sort_int64_int64.f 60 m == some (cntSort m)
theorem sorts0 : (lists4 0).all sortsB = true := by decide +kernel
theorem sorts1 : (lists4 1).all sortsB = true := by decide +kernel
theorem sorts2 : (lists4 2).all sortsB = true := by decide +kernel
theorem sorts3 : (lists4 3).all sortsB = true := by decide +kernel
theorem sorts4 : (lists4 4).all sortsB = true := by decide +kernel
theorem sort_eq {m : List Int} (h : ∀ x ∈ m, 0 ≤ x ∧ x ≤ 3) (hl : m.length ≤ 4) {k : Nat} (hk : 60 ≤ k) : slices_Sort_int64_int64.f k m = some (cntSort m) := by
  have hm := mem_lists4 m h
  have : sortsB m = true := by
    have : m.length = 0 ∨ m.length = 1 ∨ m.length = 2 ∨ m.length = 3 ∨ m.length = 4 := by omega
    rcases this with e | e | e | e | e <;> rw [e] at hm
    · exact List.all_eq_true.1 sorts0 _ hm
    · exact List.all_eq_true.1 sorts1 _ hm
    · exact List.all_eq_true.1 sorts2 _ hm
    · exact List.all_eq_true.1 sorts3 _ hm
    · exact List.all_eq_true.1 sorts4 _ hm
  have e : slices_Sort_int64_int64.f 60 m = some (cntSort m) := by simpa [sortsB] using this
  exact at_rounds (fun k => slices_Sort_int64_int64.mono m k) hk e
theorem count_le_one (w : Int) : ∀ m : List Int, m.Pairwise (· ≠ ·) → m.count w ≤ 1 := by
  intro m
  induction m with
  | nil => intro _; simp
  | cons x xs ih =>
    intro h
    obtain ⟨h1, h2⟩ := List.pairwise_cons.1 h
    rw [List.count_cons]
    by_cases e : x = w
    · subst e
      have : xs.count x = 0 := List.count_eq_zero.2 (fun hx => h1 x hx rfl)
      simp [this]
    · have := ih h2
      simp [e]
      omega
theorem length_count : ∀ m : List Int, (∀ x ∈ m, 0 ≤ x ∧ x ≤ 3) → m.length = m.count 0 + m.count 1 + m.count 2 + m.count 3 := by
  intro m
  induction m with
  | nil => intro _; simp
  | cons x xs ih =>
    intro h
    have h1 := ih (fun y hy => h y (List.mem_cons_of_mem _ hy))
    have h2 := h x List.mem_cons_self
    simp only [List.length_cons, List.count_cons]
    have : x = 0 ∨ x = 1 ∨ x = 2 ∨ x = 3 := by omega
    rcases this with rfl | rfl | rfl | rfl <;> simp <;> omega
theorem length_le4 {m : List Int} (h : ∀ x ∈ m, 0 ≤ x ∧ x ≤ 3) (hp : m.Pairwise (· ≠ ·)) : m.length ≤ 4 := by
  have h0 := count_le_one 0 m hp
  have h1 := count_le_one 1 m hp
  have h2 := count_le_one 2 m hp
  have h3 := count_le_one 3 m hp
  have := length_count m h
  omega
theorem cntSort_len (m : List Int) : (cntSort m).length ≤ 4 * m.length := by
  have := List.length_filter_le (fun x : Int => x == 0) m
  have := List.length_filter_le (fun x : Int => x == 1) m
  have := List.length_filter_le (fun x : Int => x == 2) m
  have := List.length_filter_le (fun x : Int => x == 3) m
  simp only [cntSort, List.length_append]
  omega

end Go.Proofs.Ytmfbkkjlijaabaa.Q
