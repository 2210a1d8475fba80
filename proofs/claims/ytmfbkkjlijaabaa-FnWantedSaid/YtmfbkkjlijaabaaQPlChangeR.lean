/- What ChangeRight and isChange answer: one and the same function. -/
import Derived.Test.YtmfbkkjlijaabaaQx4
import Derived.Test.YtmfbkkjlijaabaaQx6
import Derived.Test.YtmfbkkjlijaabaaQPlProofR
import Derived.Test.YtmfbkkjlijaabaaQPlLoops
namespace Go.Proofs.Ytmfbkkjlijaabaa.Q
open Go.RowKit Go.Proofs.YtmfbkkjlijaabaaW.PrintWords Go.Proofs.YtmfbkkjlijaabaaW.PrintLast
set_option linter.unusedVariables false
set_option linter.unusedSimpArgs false

abbrev PI := S32
def byMax (l : List PI) : Nat := sup (fun p => p.f3.length) l
theorem rdPI {l : List PI} {i : Nat} (h : i < l.length) : rd_T32 l (i : Int) ∈ l := mem_getD _ (by simpa using h)
theorem byI {l : List PI} {i : Nat} (h : i < l.length) : (rd_T32 l (i : Int)).f3.length ≤ byMax l := le_sup (fun p : PI => p.f3.length) (rdPI h)
/-- One round of the check of a change's proofs: an answer, or none. -/
def chStep (v : Int) (l : List PI) (i : Nat) : Option Bool :=
  let p := rd_T32 l i
  if proofB p.f0 p.f1 p.f2 p.f3 = true then (if p.f0 ≥ v then some false else if i = 0 then none else if (rd_T32 l ((i : Int) - 1)).f1 ≥ p.f1 then some false else none) else some false
def changeB (f v : Int) (l : List PI) : Bool := whoB f && (decide (1 ≤ v ∧ v ≤ 7) && scanFrom (chStep v l) true l.length 0)

theorem spec_change_l0 (f v : Int) {l : List PI} (hl : l.length ≤ 9223372036854775807) (hM : byMax l ≤ 9223372036854775807) {k : Nat} (hk : l.length + (byMax l + 1) < k) : spec_ChangeRight.l0 k 0 f v l = some (scanFrom (chStep v l) true l.length 0) := by
  refine scanLoop (n := l.length) (m := byMax l + 1) (F := fun k i => spec_ChangeRight.l0 k i f v l) (fun k => ?_) (fun k i hm hi => ?_) l.length k 0 (by omega) (by omega)
  · simp only [spec_ChangeRight.l0]
    rw [if_neg (by omega)]
  · have hb := byI hi
    simp only [spec_ChangeRight.l0]
    rw [if_pos (by omega), if_pos (by omega), spec_proof_eq (by omega) (by omega), w_nat hi hl]
    simp only [Option.bind_some, chStep]
    by_cases hp : proofB (rd_T32 l i).f0 (rd_T32 l i).f1 (rd_T32 l i).f2 (rd_T32 l i).f3 = true
    · rw [if_pos hp, if_pos hp]
      by_cases hv : (rd_T32 l i).f0 ≥ v
      · rw [if_pos hv, if_pos hv]
      · rw [if_neg hv, if_neg hv]
        by_cases h0 : i = 0
        · subst h0
          rw [if_neg (by omega), if_pos rfl]
        · rw [if_pos (by omega), if_neg h0, w_id (by omega) (by omega), if_pos (by omega), if_pos (by omega)]
          split <;> rfl
    · rw [if_neg hp, if_neg hp]
theorem spec_change_eq {f v : Int} {l : List PI} (hl : l.length ≤ 9223372036854775807) (hM : byMax l ≤ 9223372036854775807) {k : Nat} (hk : l.length + (byMax l + 1) + 1 < k) : spec_ChangeRight.f k f v l = some (changeB f v l) := by
  obtain ⟨k, rfl⟩ := k_succ hk
  unfold spec_ChangeRight.f changeB
  rw [l09Who_eq, l03Is_eq]
  simp only [Option.bind_some, spec_ChangeRight.j0]
  rw [spec_change_l0 f v hl hM (by omega)]
  cases whoB f <;> cases decide (1 ≤ v ∧ v ≤ 7) <;> simp

theorem impl_change_eq {f v : Int} {l : List PI} (hl : l.length ≤ 9223372036854775807) (hM : byMax l ≤ 9223372036854775807) {k : Nat} (hk : l.length + (byMax l + 1) < k) : impl_isChange.f k f v l = some (changeB f v l) := by
  unfold impl_isChange.f
  let st : Nat → Option Bool := fun i => chStep v l i
  have h := scanLoop (n := l.length) (m := byMax l + 1) (F := fun k i => impl_isChange.l0 k l (l.length : Int) i f v l) (step := st) (fin := whoB f && decide (1 ≤ v ∧ v ≤ 7)) (fun k => by
    simp only [impl_isChange.l0]
    rw [if_neg (by omega), isReplica_eq, isView_eq]
    simp only [Option.bind_some]
    cases whoB f <;> simp) (fun k i hm hi => by
    have hb := byI hi
    simp only [impl_isChange.l0]
    rw [if_pos (by omega), if_pos (by omega), if_pos (by omega), impl_proof_eq (by omega) (by omega), w_nat hi hl]
    simp only [Option.bind_some, st, chStep]
    by_cases hp : proofB (rd_T32 l i).f0 (rd_T32 l i).f1 (rd_T32 l i).f2 (rd_T32 l i).f3 = true
    · rw [if_pos hp, if_pos hp]
      by_cases h0 : i = 0
      · subst h0
        rw [if_neg (by omega), if_pos rfl]
        split <;> rfl
      · rw [if_pos (by omega), if_neg h0, w_id (by omega) (by omega), if_pos (by omega), if_pos (by omega)]
        by_cases hv : (rd_T32 l i).f0 ≥ v
        · rw [if_pos hv, if_pos hv]
          split <;> rfl
        · rw [if_neg hv, if_neg hv]
          split <;> rfl
    · rw [if_neg hp, if_neg hp]) l.length k 0 (by omega) (by omega)
  refine Eq.trans h ?_
  unfold changeB
  congr 1
  have key : ∀ d i, scanFrom st (whoB f && decide (1 ≤ v ∧ v ≤ 7)) d i = (whoB f && (decide (1 ≤ v ∧ v ≤ 7) && scanFrom (chStep v l) true d i)) := by
    intro d
    induction d with
    | zero => intro i; simp [scanFrom]
    | succ d ih =>
      intro i
      simp only [scanFrom]
      have hs : st i = chStep v l i := rfl
      rw [hs]
      cases hc : chStep v l i with
      | none => exact ih (i + 1)
      | some b =>
        have hb : b = false := by
          simp only [chStep] at hc
          split at hc
          · split at hc
            · exact (Option.some.inj hc).symm
            · split at hc
              · exact absurd hc (by simp)
              · split at hc
                · exact (Option.some.inj hc).symm
                · exact absurd hc (by simp)
          · exact (Option.some.inj hc).symm
        subst hb
        simp
  exact key _ _

theorem sup_le {α : Type} {f : α → Nat} {l : List α} {B : Nat} (h : ∀ x ∈ l, f x ≤ B) : sup f l ≤ B := by
  induction l with
  | nil => exact Nat.zero_le _
  | cons x xs ih => exact Nat.max_le.2 ⟨h x (by simp), ih fun y hy => h y (by simp [hy])⟩
end Go.Proofs.Ytmfbkkjlijaabaa.Q
