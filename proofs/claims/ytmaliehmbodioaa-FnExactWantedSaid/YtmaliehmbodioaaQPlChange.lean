/- Copies, sizes and comparisons of changes, and what ChangeRight and isChange answer: one and the same function. -/
import Derived.Test.YtmaliehmbodioaaQx1
import Derived.Test.YtmaliehmbodioaaQx2
import Derived.Test.YtmaliehmbodioaaQx4
import Derived.Test.YtmaliehmbodioaaQx5
import Derived.Test.YtmaliehmbodioaaQx6
import Derived.Test.YtmaliehmbodioaaQPlProof
import Derived.Test.YtmaliehmbodioaaQPlLoops
namespace Go.Proofs.Ytmaliehmbodioaa.Q
open Go.RowKit Go.Proofs.YtmaliehmbodioaaW.PrintWords Go.Proofs.YtmaliehmbodioaaW.PrintLast
set_option linter.unusedVariables false
set_option linter.unusedSimpArgs false

abbrev PL := S89
abbrev PI := S72
def proofOf (x : PL) : PI := ⟨x.f0, x.f1, x.f2, x.f3⟩
def byMax (l : List PI) : Nat := sup (fun p => p.f3.length) l
def byMaxL (l : List PL) : Nat := sup (fun p => p.f3.length) l
theorem byMax_map (l : List PL) : byMax (l.map proofOf) = byMaxL l := sup_map _ _ _
theorem rdPI {l : List PI} {i : Nat} (h : i < l.length) : rd_T72 l (i : Int) ∈ l := mem_getD _ (by simpa using h)
theorem rdPL {l : List PL} {i : Nat} (h : i < l.length) : rd_T89 l (i : Int) ∈ l := mem_getD _ (by simpa using h)
theorem byI {l : List PI} {i : Nat} (h : i < l.length) : (rd_T72 l (i : Int)).f3.length ≤ byMax l := le_sup (fun p : PI => p.f3.length) (rdPI h)
theorem byL {l : List PL} {i : Nat} (h : i < l.length) : (rd_T89 l (i : Int)).f3.length ≤ byMaxL l := le_sup (fun p : PL => p.f3.length) (rdPL h)

/-- One round of the check of a change's proofs: an answer, or none. -/
def chStep (v : Int) (l : List PI) (i : Nat) : Option Bool :=
  let p := rd_T72 l i
  if proofB p.f0 p.f1 p.f2 p.f3 = true then (if p.f0 ≥ v then some false else if i = 0 then none else if (rd_T72 l ((i : Int) - 1)).f1 ≥ p.f1 then some false else none) else some false
def changeB (f v : Int) (l : List PI) : Bool := whoB f && (decide (1 ≤ v ∧ v ≤ 7) && scanFrom (chStep v l) true l.length 0)

theorem spec_change_l0 (f v : Int) {l : List PI} (hl : l.length ≤ 9223372036854775807) (hM : byMax l ≤ 9223372036854775807) {k : Nat} (hk : l.length + (byMax l + 1) < k) : spec_ChangeRight.l0 k 0 f v l = some (scanFrom (chStep v l) true l.length 0) := by
  refine scanLoop (n := l.length) (m := byMax l + 1) (F := fun k i => spec_ChangeRight.l0 k i f v l) (fun k => ?_) (fun k i hm hi => ?_) l.length k 0 (by omega) (by omega)
  · simp only [spec_ChangeRight.l0]
    rw [if_neg (by omega)]
  · have hb := byI hi
    simp only [spec_ChangeRight.l0]
    rw [if_pos (by omega), if_pos (by omega), spec_proof_eq (by omega) (by omega), w_nat hi hl]
    simp only [Option.bind_some, chStep]
    by_cases hp : proofB (rd_T72 l i).f0 (rd_T72 l i).f1 (rd_T72 l i).f2 (rd_T72 l i).f3 = true
    · rw [if_pos hp, if_pos hp]
      by_cases hv : (rd_T72 l i).f0 ≥ v
      · rw [if_pos hv, if_pos hv]
      · rw [if_neg hv, if_neg hv]
        by_cases h0 : i = 0
        · subst h0
          rw [if_neg (by omega), if_pos rfl]
        · rw [if_pos (by omega), if_neg h0, w_id (by omega) (by omega), if_pos (by omega), if_pos (by omega)]
          split <;> rfl
    · rw [if_neg hp, if_neg hp]
theorem spec_change_eq {f v : Int} {l : List PI} (hl : l.length ≤ 9223372036854775807) (hM : byMax l ≤ 9223372036854775807) {k : Nat} (hk : l.length + (byMax l + 1) + 1 < k) : spec_ChangeRight.f k f v l = some (changeB f v l) := by
  obtain ⟨k, rfl⟩ := k_succ hk
  unfold spec_ChangeRight.f changeB
  rw [l09Who_eq, l03Is_eq]
  simp only [Option.bind_some, spec_ChangeRight.j0]
  rw [spec_change_l0 f v hl hM (by omega)]
  cases whoB f <;> cases decide (1 ≤ v ∧ v ≤ 7) <;> simp

theorem impl_change_eq {f v : Int} {l : List PI} (hl : l.length ≤ 9223372036854775807) (hM : byMax l ≤ 9223372036854775807) {k : Nat} (hk : l.length + (byMax l + 1) < k) : impl_isChange.f k f v l = some (changeB f v l) := by
  unfold impl_isChange.f
  let st : Nat → Option Bool := fun i => chStep v l i
  have h := scanLoop (n := l.length) (m := byMax l + 1) (F := fun k i => impl_isChange.l0 k l (l.length : Int) i f v l) (step := st) (fin := whoB f && decide (1 ≤ v ∧ v ≤ 7)) (fun k => by
    simp only [impl_isChange.l0]
    rw [if_neg (by omega), isReplica_eq, isView_eq]
    simp only [Option.bind_some]
    cases whoB f <;> simp) (fun k i hm hi => by
    have hb := byI hi
    simp only [impl_isChange.l0]
    rw [if_pos (by omega), if_pos (by omega), if_pos (by omega), impl_proof_eq (by omega) (by omega), w_nat hi hl]
    simp only [Option.bind_some, st, chStep]
    by_cases hp : proofB (rd_T72 l i).f0 (rd_T72 l i).f1 (rd_T72 l i).f2 (rd_T72 l i).f3 = true
    · rw [if_pos hp, if_pos hp]
      by_cases h0 : i = 0
      · subst h0
        rw [if_neg (by omega), if_pos rfl]
        split <;> rfl
      · rw [if_pos (by omega), if_neg h0, w_id (by omega) (by omega), if_pos (by omega), if_pos (by omega)]
        by_cases hv : (rd_T72 l i).f0 ≥ v
        · rw [if_pos hv, if_pos hv]
          split <;> rfl
        · rw [if_neg hv, if_neg hv]
          split <;> rfl
    · rw [if_neg hp, if_neg hp]) l.length k 0 (by omega) (by omega)
  refine Eq.trans h ?_
  unfold changeB
  congr 1
  have key : ∀ d i, scanFrom st (whoB f && decide (1 ≤ v ∧ v ≤ 7)) d i = (whoB f && (decide (1 ≤ v ∧ v ≤ 7) && scanFrom (chStep v l) true d i)) := by
    intro d
    induction d with
    | zero => intro i; simp [scanFrom]
    | succ d ih =>
      intro i
      simp only [scanFrom]
      have hs : st i = chStep v l i := rfl
      rw [hs]
      cases hc : chStep v l i with
      | none => exact ih (i + 1)
      | some b =>
        have hb : b = false := by
          simp only [chStep] at hc
          split at hc
          · split at hc
            · exact (Option.some.inj hc).symm
            · split at hc
              · exact absurd hc (by simp)
              · split at hc
                · exact (Option.some.inj hc).symm
                · exact absurd hc (by simp)
          · exact (Option.some.inj hc).symm
        subst hb
        simp
  exact key _ _

theorem toProofS_eq {l : List PL} (hl : l.length ≤ 5026338869833) (hM : byMaxL l ≤ 35184372088832) {k : Nat} (hk : l.length + (byMaxL l + 1) < k) : laws_toProofS.f k l = some (l.map proofOf) := by
  unfold laws_toProofS.f
  rw [if_pos (by omega), if_pos (by omega)]
  refine copyLoop (l := l) (c := proofOf) z89 (m := byMaxL l + 1) (F := fun k o i => laws_toProofS.l0 k l o i) (fun k o => ?_) (fun k o i hm hi ho => ?_) l.length k 0 _ (by omega) (by omega) (by simp) (by simp)
  · simp only [laws_toProofS.l0]
    rw [if_neg (by omega)]
  · have hb := byL hi
    simp only [laws_toProofS.l0]
    rw [if_pos (by omega), if_pos (by omega), toProof_eq (by omega) (by omega), w_nat hi (by omega)]
    simp only [Option.bind_some]
    rw [if_pos (by omega)]
    rfl
theorem toChange_eq {f v : Int} {l : List PL} (hl : l.length ≤ 5026338869833) (hM : byMaxL l ≤ 35184372088832) {k : Nat} (hk : l.length + (byMaxL l + 1) < k) : laws_toChange.f k f v l = some (f, v, l.map proofOf) := by
  unfold laws_toChange.f
  rw [toProofS_eq hl hM hk]
  rfl
theorem eqProofS_eq {l : List PI} (hl : l.length ≤ 9223372036854775807) (hM : byMax l ≤ 9223372036854775807) {k : Nat} (hk : l.length + (byMax l + 1) < k) : laws_eqProofS.f k l l = some true := by
  unfold laws_eqProofS.f
  rw [if_pos rfl]
  refine upLoop (n := l.length) (m := byMax l + 1) (F := fun k i => laws_eqProofS.l0 k l l i) (fun k => ?_) (fun k i hm hi => ?_) l.length k 0 (by omega) (by omega)
  · simp only [laws_eqProofS.l0]
    rw [if_neg (by omega)]
  · have hb := byI hi
    simp only [laws_eqProofS.l0]
    rw [if_pos (by omega), if_pos (by omega), if_pos (by omega), eqProof_eq (by omega) (by omega), w_nat hi hl]
    simp
theorem eqChange_eq {f v : Int} {l : List PI} (hl : l.length ≤ 9223372036854775807) (hM : byMax l ≤ 9223372036854775807) {k : Nat} (hk : l.length + (byMax l + 1) < k) : laws_eqChange.f k f v l f v l = some true := by
  unfold laws_eqChange.f
  rw [if_pos rfl, if_pos rfl, eqProofS_eq hl hM hk]
  rfl
/-- What a reading gives of a proof: its text and its list are no longer than a whole number goes. -/
def okP (x : PL) : Prop := x.f2.size ≤ 9223372036854775807 ∧ x.f3.length ≤ 9223372036854775807
theorem szProofS_l0 (l : List PL) (hl : l.length ≤ 9223372036854775807) (hw : ∀ x ∈ l, okP x) (d : Nat) : ∀ (k i : Nat) (n : Int), i + d = l.length → d < k → 0 ≤ n → n ≤ 1048576 →
    ∃ r, laws_szProofS.l0 k l n (i : Int) = some r ∧ r ≤ n ∧ -1 ≤ r ∧ (0 ≤ r → ∀ x ∈ l.drop i, x.f3.length ≤ 1048576) := by
  induction d with
  | zero =>
    intro k i n hi hk h0 hn
    obtain ⟨k, rfl⟩ := k_succ hk
    simp only [laws_szProofS.l0]
    rw [if_neg (by omega)]
    exact ⟨n, rfl, by omega, by omega, fun _ x hx => by rw [List.drop_of_length_le (by omega)] at hx; simp at hx⟩
  | succ d ih =>
    intro k i n hi hk h0 hn
    obtain ⟨k, rfl⟩ := k_succ hk
    have hlt : i < l.length := by omega
    simp only [laws_szProofS.l0]
    have ho := hw _ (rdPL hlt)
    obtain ⟨r, hr, h1, h2, h3⟩ := szProof_eq (rd_T89 l i).f0 (rd_T89 l i).f1 (rd_T89 l i).f2 (rd_T89 l i).f3 n ho.1 ho.2 h0 hn
    rw [if_pos (by omega), if_pos (by omega), hr, w_nat hlt hl]
    simp only [Option.bind_some]
    split
    · exact ⟨-1, rfl, by omega, by omega, fun h => by omega⟩
    · have h4 := h3 (by omega)
      obtain ⟨r', hr', h5, h6, h7⟩ := ih k (i + 1) r (by omega) (by omega) (by omega) (by omega)
      refine ⟨r', hr', by omega, h6, fun h x hx => ?_⟩
      rw [List.drop_eq_getElem_cons hlt] at hx
      rcases List.mem_cons.1 hx with rfl | hx
      · have e : rd_T89 l (i : Int) = l[i] := by simp [rd_T89, List.getD, hlt]
        rw [e] at h4
        omega
      · exact h7 h x hx
theorem szProofS_eq {l : List PL} {n : Int} (hl : l.length ≤ 9223372036854775807) (hw : ∀ x ∈ l, okP x) (h0 : 0 ≤ n) (hn : n ≤ 1048576) {k : Nat} (hk : l.length < k) :
    ∃ r, laws_szProofS.f k l n = some r ∧ r ≤ n ∧ -1 ≤ r ∧ (0 ≤ r → (l.length : Int) ≤ n ∧ ∀ x ∈ l, x.f3.length ≤ 1048576) := by
  unfold laws_szProofS.f
  rw [w_id (by omega) (by omega)]
  split
  · exact ⟨-1, rfl, by omega, by omega, fun h => by omega⟩
  · obtain ⟨r, hr, h1, h2, h3⟩ := szProofS_l0 l hl hw l.length k 0 (n - l.length) (by omega) hk (by omega) (by omega)
    exact ⟨r, hr, by omega, h2, fun h => ⟨by omega, by simpa using h3 h⟩⟩
theorem sup_le {α : Type} {f : α → Nat} {l : List α} {B : Nat} (h : ∀ x ∈ l, f x ≤ B) : sup f l ≤ B := by
  induction l with
  | nil => exact Nat.zero_le _
  | cons x xs ih => exact Nat.max_le.2 ⟨h x (by simp), ih fun y hy => h y (by simp [hy])⟩
theorem szChange_eq {f v : Int} {l : List PL} {n : Int} (hl : l.length ≤ 9223372036854775807) (hw : ∀ x ∈ l, okP x) (h0 : 0 ≤ n) (hn : n ≤ 1048576) {k : Nat} (hk : l.length < k) :
    ∃ r, laws_szChange.f k f v l n = some r ∧ r ≤ n ∧ -1 ≤ r ∧ (0 ≤ r → l.length ≤ 1048576 ∧ byMaxL l ≤ 1048576) := by
  unfold laws_szChange.f
  obtain ⟨r, hr, h1, h2, h3⟩ := szProofS_eq (k := k) hl hw h0 hn hk
  rw [hr]
  simp only [Option.bind_some]
  split
  · exact ⟨-1, rfl, by omega, by omega, fun h => by omega⟩
  · exact ⟨r, rfl, h1, h2, fun h => ⟨by have := (h3 h).1; omega, sup_le (h3 h).2⟩⟩

end Go.Proofs.Ytmaliehmbodioaa.Q
