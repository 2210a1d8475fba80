/- A proof that three replicas are behind is right. -/
import Derived.Test.YtmfbkkjlijaabaaQPlPrepared
import Derived.Test.YtmfbkkjlijaabaaQPlProofR
import Derived.Test.YtmfbkkjlijaabaaQPlVotesA
namespace Go.Proofs.Ytmfbkkjlijaabaa.Q
open Go.RowKit Go.Proofs.YtmfbkkjlijaabaaW.PrintWords Go.Proofs.YtmfbkkjlijaabaaW.PrintLast Go.Proofs.Ytmfbkkjlijaabaa.HB
set_option linter.unusedVariables false
set_option linter.unusedSimpArgs false

theorem cntSort_le : ∀ m : List Int, (cntSort m).length ≤ m.length
  | [] => by simp [cntSort]
  | x :: m => by
    have ih := cntSort_le m
    unfold cntSort at ih ⊢
    simp only [List.length_append] at ih ⊢
    simp only [List.filter_cons, List.length_cons]
    by_cases h0 : x = 0
    · subst h0; simp; omega
    · by_cases h1 : x = 1
      · subst h1; simp; omega
      · by_cases h2 : x = 2
        · subst h2; simp; omega
        · by_cases h3 : x = 3
          · subst h3; simp; omega
          · simp [h0, h1, h2, h3]; omega
theorem all_le {l : List VT} (h : votesB l = true) (a b c : Int) : (l.filter (opP a b c)).length ≤ 4 := by
  have h1 : ∀ x ∈ (l.filter (opP a b c)).map (·.f4), 0 ≤ x ∧ x ≤ 3 := by
    intro x hx
    obtain ⟨v, hv, rfl⟩ := List.mem_map.1 hx
    obtain ⟨i, hi, rfl⟩ := List.getElem_of_mem (List.mem_filter.1 hv).1
    have := ((votesB_step h).2 i hi).1
    simp only [voteB, whoB, Bool.and_eq_true, decide_eq_true_eq] at this
    exact this.2.2.2.2
  have h2 : ((l.filter (opP a b c)).map (·.f4)).Pairwise (· ≠ ·) := by
    rw [List.pairwise_map]
    refine ((votesB_pair h).filter _).imp_of_mem ?_
    intro x y hx hy hs e
    have h1 := (List.mem_filter.1 hx).2
    have h2 := (List.mem_filter.1 hy).2
    simp only [opP, Bool.and_eq_true, decide_eq_true_eq] at h1 h2
    have : sameB x y = true := by simp [sameB, h1, h2, e]
    rw [this] at hs
    exact absurd hs (by decide)
  have := length_le4 h1 h2
  simpa using this
/-- A voter, if there is any. -/
theorem a_vote {l : List VT} (h : votesB l = true) {a b c : Int} {op : ByteArray} (h1 : 3 ≤ (vs a b c l op).length) : ∃ v ∈ l, opP a b c v = true ∧ v.f3 = op ∧ voteB a b c op v.f4 = true := by
  have h3 := cntSort_le (castF a b c op l)
  unfold vs at h1
  have h4 : castF a b c op l ≠ [] := fun e => by rw [e] at h1; exact absurd h1 (by decide)
  obtain ⟨x, hx⟩ := List.exists_mem_of_ne_nil _ h4
  unfold castF at hx
  obtain ⟨v, hv, rfl⟩ := List.mem_map.1 hx
  obtain ⟨hv1, hv2⟩ := List.mem_filter.1 hv
  simp only [castB, Bool.and_eq_true, decide_eq_true_eq] at hv2
  have ho : v.f3 = op := (toList_eq_iff _ _).1 hv2.2.2.2
  refine ⟨v, hv1, by simp [opP, hv2], ho, ?_⟩
  obtain ⟨i, hi, rfl⟩ := List.getElem_of_mem hv1
  have := ((votesB_step h).2 i hi).1
  rw [hv2.1, hv2.2.1, hv2.2.2.1, ho] at this
  exact this
theorem quorumFrom_ok {m : List Int} (hw : ∀ x ∈ m, 0 ≤ x ∧ x ≤ 3) (hp : m.Pairwise (· < ·)) (h3 : 3 ≤ m.length) : ∀ d i : Nat, i + d = m.length → quorumFrom m d i = true
  | 0, _, _ => by simp [quorumFrom, h3]
  | d + 1, i, hi => by
    have hlt : i < m.length := by omega
    have e1 : rd m (i : Int) = m[i] := by simp [rd, List.getD, hlt]
    have ih := quorumFrom_ok hw hp h3 d (i + 1) (by omega)
    unfold quorumFrom
    have hwi := hw m[i] (List.getElem_mem _)
    rw [if_pos (by rw [e1]; simp [whoB, hwi])]
    by_cases h0 : i = 0
    · rw [if_pos h0]; exact ih
    · have e2 : rd m ((i : Int) - 1) = m[i - 1] := by
        rw [show (i : Int) - 1 = ((i - 1 : Nat) : Int) by omega]
        simp [rd, List.getD, show i - 1 < m.length by omega]
      have := List.pairwise_iff_getElem.1 hp (i - 1) i (by omega) hlt (by omega)
      rw [if_neg h0, e1, e2, if_neg (by omega)]
      exact ih
theorem filter_eq' (w : Int) {m : List Int} (h : m.count w ≤ 1) : m.filter (· == w) = [] ∨ m.filter (· == w) = [w] := by
  rw [List.filter_beq]
  have : m.count w = 0 ∨ m.count w = 1 := by omega
  rcases this with e | e <;> rw [e] <;> simp
theorem cntSort_rises {m : List Int} (hp : m.Pairwise (· ≠ ·)) : (cntSort m).Pairwise (· < ·) := by
  unfold cntSort
  rcases filter_eq' 0 (count_le_one 0 m hp) with e0 | e0 <;> rcases filter_eq' 1 (count_le_one 1 m hp) with e1 | e1 <;> rcases filter_eq' 2 (count_le_one 2 m hp) with e2 | e2 <;> rcases filter_eq' 3 (count_le_one 3 m hp) with e3 | e3 <;> rw [e0, e1, e2, e3] <;> decide
theorem cntSort_mem {m : List Int} {x : Int} (h : x ∈ cntSort m) : x ∈ m := by
  unfold cntSort at h
  simp only [List.mem_append, List.mem_filter] at h
  rcases h with h | h | h | h <;> exact h.1
/-- A proof that is found is right. -/
theorem proof_right {l : List VT} (h : votesB l = true) {v s : Int} {op : ByteArray} (h1 : 3 ≤ (vs 2 v s l op).length) : proofB v s op (vs 2 v s l op) = true := by
  obtain ⟨x, hx, _, _, hv⟩ := a_vote h h1
  simp only [voteB, Bool.and_eq_true, decide_eq_true_eq] at hv
  have hc := castF_ok h 2 v s op
  have hq : quorumB (vs 2 v s l op) = true := quorumFrom_ok (m := vs 2 v s l op) (fun x hx => hc.1 x (cntSort_mem hx)) (cntSort_rises hc.2) h1 (vs 2 v s l op).length 0 (by omega)
  unfold proofB
  rw [hq]
  simp [hv]
end Go.Proofs.Ytmfbkkjlijaabaa.Q
