/- What spec.NameRight and impl.isName answer: one and the same function. Texts of at most 2^63 - 1 bytes. -/
import Derived.Test.YtnjnjffjblgldaaQx2
import Derived.Test.YtnjnjffjblgldaaQx4
import Derived.Test.YtnjnjffjblgldaaQPlLoops
namespace Go.Proofs.Ytnjnjffjblgldaa.Q
open Go.RowKit Go.Proofs.YtnjnjffjblgldaaW.PrintWords Go.Proofs.YtnjnjffjblgldaaW.PrintLast
set_option linter.unusedVariables false
set_option linter.unusedSimpArgs false

def nameOk (c : Int) (i : Nat) : Prop := (97 ≤ c ∧ c ≤ 122) ∨ (i ≠ 0 ∧ ((48 ≤ c ∧ c ≤ 57) ∨ c = 95))
instance (c : Int) (i : Nat) : Decidable (nameOk c i) := by unfold nameOk; infer_instance
def nameStep (s : ByteArray) (i : Nat) : Option Bool := if nameOk (bt s (i : Int)) i then none else some false
def nameB (s : ByteArray) : Bool := decide (1 ≤ s.size ∧ s.size ≤ 20) && scanFrom (nameStep s) true s.size 0
theorem scan_fin {step : Nat → Option Bool} (fin : Bool) (h : ∀ j, step j ≠ some true) : ∀ d i : Nat, scanFrom step fin d i = (scanFrom step true d i && fin) := by
  intro d
  induction d with
  | zero => intro i; simp [scanFrom]
  | succ d ih =>
    intro i
    simp only [scanFrom]
    cases e : step i with
    | none => exact ih (i + 1)
    | some r =>
      have : r = false := by
        cases r with
        | false => rfl
        | true => exact absurd e (h i)
      simp [this]
theorem nameStep_ne (s : ByteArray) (j : Nat) : nameStep s j ≠ some true := by unfold nameStep; split <;> simp
theorem spec_name_l0 {s : ByteArray} (hs : s.size ≤ 9223372036854775807) {k : Nat} (hk : s.size < k) : spec_NameRight.l0 k s 0 = some (scanFrom (nameStep s) true s.size 0) := by
  refine scanLoop (n := s.size) (m := 0) (F := fun k i => spec_NameRight.l0 k s i) (fun k => ?_) (fun k i _ hi => ?_) s.size k 0 (by omega) (by omega)
  · simp only [spec_NameRight.l0]
    rw [if_neg (by omega)]
  · simp only [spec_NameRight.l0]
    rw [if_pos (by omega), if_pos (by omega), w_nat hi hs]
    unfold nameStep
    generalize bt s (i : Int) = c
    by_cases h : nameOk c i
    · rw [if_pos h]
      show _ = spec_NameRight.l0 k s ((i + 1 : Nat) : Int)
      unfold nameOk at h
      repeat' split
      all_goals first | rfl | (exfalso; omega)
    · rw [if_neg h]
      show _ = some false
      unfold nameOk at h
      repeat' split
      all_goals first | rfl | (exfalso; omega)
theorem impl_name_l0 {s : ByteArray} (hs : s.size ≤ 9223372036854775807) {k : Nat} (hk : s.size < k) : impl_isName.l0 k s (s.size : Int) 0 = some (scanFrom (nameStep s) (decide (1 ≤ s.size ∧ s.size ≤ 20)) s.size 0) := by
  refine scanLoop (n := s.size) (m := 0) (F := fun k i => impl_isName.l0 k s (s.size : Int) i) (fun k => ?_) (fun k i _ hi => ?_) s.size k 0 (by omega) (by omega)
  · simp only [impl_isName.l0]
    rw [if_neg (by omega)]
    by_cases h : (s.size : Int) ≥ 1
    · rw [if_pos h]
      congr 1
      exact decide_eq_decide.2 (by omega)
    · rw [if_neg h]
      congr 1
      exact (decide_eq_false (by omega)).symm
  · simp only [impl_isName.l0]
    rw [if_pos (by omega), if_pos (by omega), if_pos (by omega), w_nat hi hs]
    unfold nameStep
    generalize bt s (i : Int) = c
    by_cases h : nameOk c i
    · rw [if_pos h]
      show _ = impl_isName.l0 k s (s.size : Int) ((i + 1 : Nat) : Int)
      unfold nameOk at h
      repeat' split
      all_goals first | rfl | (exfalso; omega)
    · rw [if_neg h]
      show _ = some false
      unfold nameOk at h
      repeat' split
      all_goals first | rfl | (exfalso; omega)
theorem spec_name_eq {s : ByteArray} (hs : s.size ≤ 9223372036854775807) {k : Nat} (hk : s.size + 1 < k) : spec_NameRight.f k s = some (nameB s) := by
  obtain ⟨k, rfl⟩ : ∃ m, k = m + 1 := ⟨k - 1, by omega⟩
  unfold spec_NameRight.f nameB
  simp only [spec_NameRight.j0, if_true]
  rw [spec_name_l0 hs (by omega)]
  by_cases h : (s.size : Int) < 1
  · rw [if_pos h]
    simp
    omega
  · rw [if_neg h]
    by_cases h2 : (s.size : Int) > 20
    · rw [if_pos (by simpa using h2)]
      simp
      omega
    · rw [if_neg (by simpa using h2), decide_eq_true (p := 1 ≤ s.size ∧ s.size ≤ 20) (by omega)]
      rfl
theorem impl_name_eq {s : ByteArray} (hs : s.size ≤ 9223372036854775807) {k : Nat} (hk : s.size < k) : impl_isName.f k s = some (nameB s) := by
  unfold impl_isName.f nameB
  rw [impl_name_l0 hs hk, scan_fin _ (nameStep_ne s), Bool.and_comm]
theorem nameB_size {s : ByteArray} (h : nameB s = true) : s.size ≤ 20 := by
  simp only [nameB, Bool.and_eq_true, decide_eq_true_eq] at h
  exact h.1.2

end Go.Proofs.Ytnjnjffjblgldaa.Q
