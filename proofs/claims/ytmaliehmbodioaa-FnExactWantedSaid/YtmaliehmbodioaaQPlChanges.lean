/- Copies, sizes and comparisons of rows of changes; walks that stop at the first fault. -/
import Derived.Test.YtmaliehmbodioaaQx1
import Derived.Test.YtmaliehmbodioaaQx4
import Derived.Test.YtmaliehmbodioaaQx7
import Derived.Test.YtmaliehmbodioaaQPlChange
namespace Go.Proofs.Ytmaliehmbodioaa.Q
open Go.RowKit Go.Proofs.YtmaliehmbodioaaW.PrintWords Go.Proofs.YtmaliehmbodioaaW.PrintLast
set_option linter.unusedVariables false
set_option linter.unusedSimpArgs false

abbrev CL := S62
abbrev CI := S26
def changeOf (x : CL) : CI := ⟨x.f0, x.f1, x.f2.map proofOf⟩
def mI (l : List CI) : Nat := sup (fun c => c.f2.length + byMax c.f2 + 4) l
def mL (l : List CL) : Nat := sup (fun c => c.f2.length + byMaxL c.f2 + 4) l
theorem mI_map (l : List CL) : mI (l.map changeOf) = mL l := by
  unfold mI mL
  rw [sup_map]
  congr 1
  funext x
  simp [changeOf, byMax_map]
theorem rdCI {l : List CI} {i : Nat} (h : i < l.length) : rd_T26 l (i : Int) ∈ l := mem_getD _ (by simpa using h)
theorem rdCL {l : List CL} {i : Nat} (h : i < l.length) : rd_T62 l (i : Int) ∈ l := mem_getD _ (by simpa using h)
theorem mIi {l : List CI} {i : Nat} (h : i < l.length) : (rd_T26 l (i : Int)).f2.length + byMax (rd_T26 l (i : Int)).f2 + 4 ≤ mI l := le_sup (fun c : CI => c.f2.length + byMax c.f2 + 4) (rdCI h)
theorem mLi {l : List CL} {i : Nat} (h : i < l.length) : (rd_T62 l (i : Int)).f2.length + byMaxL (rd_T62 l (i : Int)).f2 + 4 ≤ mL l := le_sup (fun c : CL => c.f2.length + byMaxL c.f2 + 4) (rdCL h)

theorem scan_fin {step : Nat → Option Bool} (hs : ∀ j, step j ≠ some true) (b : Bool) : ∀ d i, scanFrom step b d i = (scanFrom step true d i && b) := by
  intro d
  induction d with
  | zero => intro i; simp [scanFrom]
  | succ d ih =>
    intro i
    simp only [scanFrom]
    cases e : step i with
    | none => exact ih (i + 1)
    | some r =>
      cases r with
      | true => exact absurd e (hs i)
      | false => rfl
theorem scan_none {step : Nat → Option Bool} (hs : ∀ j, step j ≠ some true) : ∀ d i, scanFrom step true d i = true → ∀ j, i ≤ j → j < i + d → step j = none := by
  intro d
  induction d with
  | zero => intro i _ j h1 h2; omega
  | succ d ih =>
    intro i h j h1 h2
    unfold scanFrom at h
    cases e : step i with
    | some r =>
      rw [e] at h
      have : r = true := h
      exact absurd (by rw [e, this]) (hs i)
    | none =>
      rw [e] at h
      by_cases hij : j = i
      · rw [hij, e]
      · exact ih (i + 1) h j (by omega) (by omega)
/-- What a reading gives of a change. -/
def okC (x : CL) : Prop := x.f2.length ≤ 9223372036854775807 ∧ ∀ p ∈ x.f2, okP p
theorem szChangeS_l0 (l : List CL) (hl : l.length ≤ 9223372036854775807) (hw : ∀ x ∈ l, okC x) (d : Nat) : ∀ (k i : Nat) (n : Int), i + d = l.length → d + mL l < k → 0 ≤ n → n ≤ 1048576 →
    ∃ r, laws_szChangeS.l0 k l n (i : Int) = some r ∧ r ≤ n ∧ -1 ≤ r ∧ (0 ≤ r → ∀ x ∈ l.drop i, x.f2.length ≤ 1048576 ∧ byMaxL x.f2 ≤ 1048576) := by
  induction d with
  | zero =>
    intro k i n hi hk h0 hn
    obtain ⟨k, rfl⟩ := k_succ hk
    simp only [laws_szChangeS.l0]
    rw [if_neg (by omega)]
    exact ⟨n, rfl, by omega, by omega, fun _ x hx => by rw [List.drop_of_length_le (by omega)] at hx; simp at hx⟩
  | succ d ih =>
    intro k i n hi hk h0 hn
    obtain ⟨k, rfl⟩ := k_succ hk
    have hlt : i < l.length := by omega
    have hb := mLi hlt
    simp only [laws_szChangeS.l0]
    have ho := hw _ (rdCL hlt)
    obtain ⟨r, hr, h1, h2, h3⟩ := szChange_eq (f := (rd_T62 l i).f0) (v := (rd_T62 l i).f1) (l := (rd_T62 l i).f2) (n := n) ho.1 ho.2 h0 hn (k := k) (by omega)
    rw [if_pos (by omega), if_pos (by omega), hr, w_nat hlt hl]
    simp only [Option.bind_some]
    split
    · exact ⟨-1, rfl, by omega, by omega, fun h => by omega⟩
    · have h4 := h3 (by omega)
      obtain ⟨r', hr', h5, h6, h7⟩ := ih k (i + 1) r (by omega) (by omega) (by omega) (by omega)
      refine ⟨r', hr', by omega, h6, fun h x hx => ?_⟩
      rw [List.drop_eq_getElem_cons hlt] at hx
      rcases List.mem_cons.1 hx with rfl | hx
      · have e : rd_T62 l (i : Int) = l[i] := by simp [rd_T62, List.getD, hlt]
        rw [e] at h4
        exact h4
      · exact h7 h x hx
theorem toChangeS_eq {l : List CL} (hl : l.length ≤ 1048576) (hM : mL l ≤ 3000000) {k : Nat} (hk : l.length + (mL l + 1) < k) : laws_toChangeS.f k l = some (l.map changeOf) := by
  unfold laws_toChangeS.f
  rw [if_pos (by omega), if_pos (by omega)]
  refine copyLoop (l := l) (c := changeOf) z62 (m := mL l + 1) (F := fun k o i => laws_toChangeS.l0 k l o i) (fun k o => ?_) (fun k o i hm hi ho => ?_) l.length k 0 _ (by omega) (by omega) (by simp) (by simp)
  · simp only [laws_toChangeS.l0]
    rw [if_neg (by omega)]
  · have hb := mLi hi
    simp only [laws_toChangeS.l0]
    rw [if_pos (by omega), if_pos (by omega), toChange_eq (by omega) (by omega) (by omega), w_nat hi (by omega)]
    simp only [Option.bind_some]
    rw [if_pos (by omega)]
    rfl
theorem eqChangeS_eq {l : List CI} (hl : l.length ≤ 9223372036854775807) (hM : mI l ≤ 9223372036854775807) {k : Nat} (hk : l.length + (mI l + 1) < k) : laws_eqChangeS.f k l l = some true := by
  unfold laws_eqChangeS.f
  rw [if_pos rfl]
  refine upLoop (n := l.length) (m := mI l + 1) (F := fun k i => laws_eqChangeS.l0 k l l i) (fun k => ?_) (fun k i hm hi => ?_) l.length k 0 (by omega) (by omega)
  · simp only [laws_eqChangeS.l0]
    rw [if_neg (by omega)]
  · have hb := mIi hi
    simp only [laws_eqChangeS.l0]
    rw [if_pos (by omega), if_pos (by omega), if_pos (by omega), eqChange_eq (by omega) (by omega) (by omega), w_nat hi hl]
    simp

end Go.Proofs.Ytmaliehmbodioaa.Q
