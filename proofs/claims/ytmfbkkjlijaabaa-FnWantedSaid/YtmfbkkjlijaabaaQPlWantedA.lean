/- What Wanted answers, the program's and the reference's: one and the same function. -/
import Derived.Test.YtmfbkkjlijaabaaQx5
import Derived.Test.YtmfbkkjlijaabaaQx7
import Derived.Test.YtmfbkkjlijaabaaQPlChangesR
import Derived.Test.YtmfbkkjlijaabaaQPlWanted
namespace Go.Proofs.Ytmfbkkjlijaabaa.Q
open Go.RowKit Go.Proofs.YtmfbkkjlijaabaaW.PrintWords Go.Proofs.YtmfbkkjlijaabaaW.PrintLast Go.Proofs.Ytmfbkkjlijaabaa.HB
set_option linter.unusedVariables false
set_option linter.unusedSimpArgs false

/-- One round of the check: an answer, or none. -/
def wStep (l : List CI) (i : Nat) : Option Bool :=
  let c := rd_T29 l i
  if changeB c.f0 c.f1 c.f2 = true then (if i = 0 then none else if (rd_T29 l ((i : Int) - 1)).f0 ≥ c.f0 then some false else none) else some false
theorem wStep_ne (l : List CI) (j : Nat) : wStep l j ≠ some true := by
  simp only [wStep]
  split
  · split
    · simp
    · split <;> simp
  · simp
theorem chStep_ne (v : Int) (l : List PI) (j : Nat) : chStep v l j ≠ some true := by
  simp only [chStep]
  split
  · split
    · simp
    · split
      · simp
      · split <;> simp
  · simp
/-- What a right change holds. -/
theorem right_ok {f v : Int} {P : List PI} (h : changeB f v P = true) : P.length ≤ 6 ∧ ∀ p ∈ P, goodP p := by
  have hs : scanFrom (chStep v P) true P.length 0 = true := by
    simp only [changeB, Bool.and_eq_true] at h
    exact h.2.2
  have hn := scan_none (chStep_ne v P) _ _ hs
  have hp : ∀ j : Nat, j < P.length → proofB (rd_T32 P (j : Int)).f0 (rd_T32 P (j : Int)).f1 (rd_T32 P (j : Int)).f2 (rd_T32 P (j : Int)).f3 = true ∧ (j = 0 ∨ (rd_T32 P ((j : Int) - 1)).f1 < (rd_T32 P (j : Int)).f1) := by
    intro j hj
    have := hn j (by omega) (by omega)
    simp only [chStep] at this
    split at this
    · rename_i h1
      refine ⟨h1, ?_⟩
      split at this
      · cases this
      · split at this
        · rename_i h3; exact .inl h3
        · split at this
          · cases this
          · rename_i h4; exact .inr (by omega)
    · cases this
  have hgood : ∀ j : Nat, j < P.length → goodP (rd_T32 P (j : Int)) := by
    intro j hj
    have := (hp j hj).1
    simp only [proofB, Bool.and_eq_true, decide_eq_true_eq] at this
    exact ⟨this.1.1, this.2.1.1, this.2.1.2⟩
  refine ⟨?_, fun p hq => ?_⟩
  · have key : ∀ j : Nat, j < P.length → (j : Int) + 1 ≤ (rd_T32 P (j : Int)).f1 := by
      intro j
      induction j with
      | zero => intro hj; have := (hgood 0 hj).2.1; simpa using this
      | succ j ih =>
        intro hj
        have h1 := ih (by omega)
        rcases (hp (j + 1) hj).2 with h2 | h2
        · omega
        · rw [show ((j + 1 : Nat) : Int) - 1 = (j : Int) by omega] at h2
          omega
    apply Nat.le_of_not_lt
    intro h7
    have h1 := key 6 h7
    have h2 := (hgood 6 h7).2.2
    omega
  · obtain ⟨j, hj, rfl⟩ := List.mem_iff_getElem.1 hq
    have := hgood j hj
    have e : rd_T32 P (j : Int) = P[j] := by
      unfold rd_T32
      rw [Int.toNat_natCast, List.getD_eq_getElem?_getD, List.getElem?_eq_getElem hj]
      rfl
    rwa [e] at this
/-- What Wanted answers. -/
def wAns (l : List CI) : List WF := if l.length ≤ 4 then (if scanFrom (wStep l) true l.length 0 = true then wOut l else []) else []
theorem scan_cut {l : List CI} {i : Nat} : ∀ d, (∀ j, i ≤ j → j < i + d → wStep l j = none) → scanFrom (wStep l) true d i = true := by
  intro d
  induction d generalizing i with
  | zero => intro _; rfl
  | succ d ih =>
    intro h
    unfold scanFrom
    rw [h i (by omega) (by omega)]
    exact ih (fun j h1 h2 => h j (by omega) (by omega))
theorem all_ok {l : List CI} (h : ∀ j, j < l.length → wStep l j = none) : ∀ c ∈ l, c.f2.length ≤ 6 ∧ ∀ p ∈ c.f2, goodP p := by
  intro c hc
  obtain ⟨j, hj, rfl⟩ := List.mem_iff_getElem.1 hc
  have := h j hj
  have e : rd_T29 l (j : Int) = l[j] := by
    unfold rd_T29
    rw [Int.toNat_natCast, List.getD_eq_getElem?_getD, List.getElem?_eq_getElem hj]
    rfl
  simp only [wStep] at this
  split at this
  · rename_i h1
    rw [e] at h1
    exact right_ok h1
  · cases this
theorem wAns_none {l : List CI} (hl : l.length ≤ 4) (h : ∀ j, j < l.length → wStep l j = none) : wAns l = wOut l := by
  unfold wAns
  rw [if_pos hl, if_pos (scan_cut _ (fun j _ h2 => h j (by omega)))]
theorem wAns_some {l : List CI} {i : Nat} (hi : i < l.length) {b : Bool} (h : wStep l i = some b) : wAns l = [] := by
  unfold wAns
  split
  · rw [if_neg]
    intro hs
    have := scan_none (wStep_ne l) _ _ hs i (by omega) (by omega)
    rw [h] at this
    cases this
  · rfl
set_option maxRecDepth 100000 in
theorem spec_W0 {l : List CI} (hl : l.length ≤ 4) (hM : mI l ≤ 9223372036854775000) (d : Nat) : ∀ (k i : Nat), i + d = l.length → d + (mI l + 400) < k → (∀ j, j < i → wStep l j = none) → spec_Wanted.l0 k l (i : Int) = some (wAns l) := by
  induction d with
  | zero =>
    intro k i hi hk h
    obtain ⟨k, rfl⟩ := k_succ hk
    have h' : ∀ j, j < l.length → wStep l j = none := fun j hj => h j (by omega)
    simp only [spec_Wanted.l0]
    rw [if_neg (by omega), spec_w hl (all_ok h') (by omega), wbind, wAns_none hl h']
  | succ d ih =>
    intro k i hi hk h
    obtain ⟨k, rfl⟩ := k_succ hk
    have hlt : i < l.length := by omega
    have hb := mIi hlt
    have wi : wrap64 ((i : Int) + 1) = ((i + 1 : Nat) : Int) := by rw [w_id (by omega) (by omega)]; omega
    have hst : ∀ x, x = wStep l i → wStep l i = x := fun x hx => hx.symm
    simp only [spec_Wanted.l0]
    rw [if_pos (by omega), if_pos (by omega), spec_change_eq (by omega) (by omega) (by omega), wbind, wi]
    by_cases hp : changeB (rd_T29 l i).f0 (rd_T29 l i).f1 (rd_T29 l i).f2 = true
    · rw [if_pos hp]
      by_cases h0 : i = 0
      · subst h0
        rw [if_neg (by omega)]
        exact ih k 1 (by omega) (by omega) (fun j hj => by
          obtain rfl : j = 0 := by omega
          exact (if_pos hp).trans (if_pos rfl))
      · rw [if_pos (by omega), w_id (by omega) (by omega), if_pos (by omega), if_pos (by omega)]
        by_cases h2 : (rd_T29 l ((i : Int) - 1)).f0 ≥ (rd_T29 l (i : Int)).f0
        · rw [if_pos h2, wAns_some hlt (b := false) ((if_pos hp).trans ((if_neg h0).trans (if_pos h2)))]
        · rw [if_neg h2]
          exact ih k (i + 1) (by omega) (by omega) (fun j hj => by
            by_cases e : j = i
            · subst e
              exact (if_pos hp).trans ((if_neg h0).trans (if_neg h2))
            · exact h j (by omega))
    · rw [if_neg hp, wAns_some hlt (b := false) (if_neg hp)]
set_option maxRecDepth 100000 in
theorem spec_W {l : List CI} (hM : mI l ≤ 9223372036854775000) {k : Nat} (hk : mI l + 405 < k) : spec_Wanted.f k l = some (wAns l) := by
  unfold spec_Wanted.f
  by_cases h : (l.length : Int) > 4
  · rw [if_pos h]
    unfold wAns
    rw [if_neg (by omega)]
  · rw [if_neg h]
    exact spec_W0 (by omega) hM l.length k 0 (by omega) (by omega) (fun j hj => by omega)
set_option maxRecDepth 100000 in
theorem impl_W0 {l : List CI} (hl : l.length ≤ 4) (hM : mI l ≤ 9223372036854775000) (d : Nat) : ∀ (k i : Nat), i + d = l.length → d + (mI l + 400) < k → (∀ j, j < i → wStep l j = none) → impl_Wanted.l0 k l l (l.length : Int) (i : Int) = some (wAns l) := by
  induction d with
  | zero =>
    intro k i hi hk h
    obtain ⟨k, rfl⟩ := k_succ hk
    have h' : ∀ j, j < l.length → wStep l j = none := fun j hj => h j (by omega)
    simp only [impl_Wanted.l0]
    rw [if_neg (by omega), impl_w (by omega) (fun c hc => ⟨by have := (all_ok h' c hc).1; omega, (all_ok h' c hc).2⟩), wbind, wAns_none hl h']
  | succ d ih =>
    intro k i hi hk h
    obtain ⟨k, rfl⟩ := k_succ hk
    have hlt : i < l.length := by omega
    have hb := mIi hlt
    have wi : wrap64 ((i : Int) + 1) = ((i + 1 : Nat) : Int) := by rw [w_id (by omega) (by omega)]; omega
    simp only [impl_Wanted.l0]
    rw [if_pos (by omega), if_pos (by omega), if_pos (by omega), impl_change_eq (by omega) (by omega) (by omega), wbind, wi]
    by_cases hp : changeB (rd_T29 l i).f0 (rd_T29 l i).f1 (rd_T29 l i).f2 = true
    · rw [if_pos hp]
      by_cases h0 : i = 0
      · subst h0
        rw [if_neg (by omega)]
        exact ih k 1 (by omega) (by omega) (fun j hj => by
          obtain rfl : j = 0 := by omega
          exact (if_pos hp).trans (if_pos rfl))
      · rw [if_pos (by omega), w_id (by omega) (by omega), if_pos (by omega), if_pos (by omega)]
        by_cases h2 : (rd_T29 l ((i : Int) - 1)).f0 ≥ (rd_T29 l (i : Int)).f0
        · rw [if_pos h2, wAns_some hlt (b := false) ((if_pos hp).trans ((if_neg h0).trans (if_pos h2)))]
        · rw [if_neg h2]
          exact ih k (i + 1) (by omega) (by omega) (fun j hj => by
            by_cases e : j = i
            · subst e
              exact (if_pos hp).trans ((if_neg h0).trans (if_neg h2))
            · exact h j (by omega))
    · rw [if_neg hp, wAns_some hlt (b := false) (if_neg hp)]
set_option maxRecDepth 100000 in
theorem impl_W {l : List CI} (hM : mI l ≤ 9223372036854775000) {k : Nat} (hk : mI l + 405 < k) : impl_Wanted.f k l = some (wAns l) := by
  unfold impl_Wanted.f
  by_cases h : (l.length : Int) > 4
  · rw [if_pos h]
    unfold wAns
    rw [if_neg (by omega)]
  · rw [if_neg h]
    exact impl_W0 (by omega) hM l.length k 0 (by omega) (by omega) (fun j hj => by omega)
theorem wAns_len (l : List CI) : (wAns l).length ≤ 6 := by
  by_cases h4 : l.length ≤ 4
  · by_cases hs : scanFrom (wStep l) true l.length 0 = true
    · have hn := scan_none (wStep_ne l) _ _ hs
      have hg := all_ok (l := l) (fun j hj => hn j (by omega) (by omega))
      have hm := mx_le (allP l) 0 (fun p hp => by
        obtain ⟨c, hc, hp⟩ := List.mem_flatMap.1 hp
        exact (hg c hc).2 p hp) (by omega) (by omega)
      unfold wAns
      rw [if_pos h4, if_pos hs]
      unfold wOut
      rw [List.length_map, List.length_range]
      omega
    · unfold wAns
      rw [if_pos h4, if_neg hs]
      simp
  · unfold wAns
    rw [if_neg h4]
    simp
end Go.Proofs.Ytmfbkkjlijaabaa.Q
