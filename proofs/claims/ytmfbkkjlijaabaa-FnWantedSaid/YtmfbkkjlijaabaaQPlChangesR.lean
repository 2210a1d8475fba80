/- Rows of changes: rounds; walks that stop at the first fault. -/
import Derived.Test.YtmfbkkjlijaabaaQPlChangeR
namespace Go.Proofs.Ytmfbkkjlijaabaa.Q
open Go.RowKit Go.Proofs.YtmfbkkjlijaabaaW.PrintWords Go.Proofs.YtmfbkkjlijaabaaW.PrintLast
set_option linter.unusedVariables false
set_option linter.unusedSimpArgs false

abbrev CI := S29
def mI (l : List CI) : Nat := sup (fun c => c.f2.length + byMax c.f2 + 4) l
theorem rdCI {l : List CI} {i : Nat} (h : i < l.length) : rd_T29 l (i : Int) ∈ l := mem_getD _ (by simpa using h)
theorem mIi {l : List CI} {i : Nat} (h : i < l.length) : (rd_T29 l (i : Int)).f2.length + byMax (rd_T29 l (i : Int)).f2 + 4 ≤ mI l := le_sup (fun c : CI => c.f2.length + byMax c.f2 + 4) (rdCI h)
theorem scan_fin {step : Nat → Option Bool} (hs : ∀ j, step j ≠ some true) (b : Bool) : ∀ d i, scanFrom step b d i = (scanFrom step true d i && b) := by
  intro d
  induction d with
  | zero => intro i; simp [scanFrom]
  | succ d ih =>
    intro i
    simp only [scanFrom]
    cases e : step i with
    | none => exact ih (i + 1)
    | some r =>
      cases r with
      | true => exact absurd e (hs i)
      | false => rfl
theorem scan_none {step : Nat → Option Bool} (hs : ∀ j, step j ≠ some true) : ∀ d i, scanFrom step true d i = true → ∀ j, i ≤ j → j < i + d → step j = none := by
  intro d
  induction d with
  | zero => intro i _ j h1 h2; omega
  | succ d ih =>
    intro i h j h1 h2
    unfold scanFrom at h
    cases e : step i with
    | some r =>
      rw [e] at h
      have : r = true := h
      exact absurd (by rw [e, this]) (hs i)
    | none =>
      rw [e] at h
      by_cases hij : j = i
      · rw [hij, e]
      · exact ih (i + 1) h j (by omega) (by omega)
end Go.Proofs.Ytmfbkkjlijaabaa.Q
