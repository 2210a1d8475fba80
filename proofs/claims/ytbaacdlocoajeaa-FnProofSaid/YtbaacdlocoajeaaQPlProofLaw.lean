/- What holds of proofs and decisions of right votes: one operation of a view and a number, a proof is right, the best proof is of no lesser view. No program in sight. -/
import Derived.Test.YtbaacdlocoajeaaQPlPrepared
import Derived.Test.YtbaacdlocoajeaaQPlDecided
import Derived.Test.YtbaacdlocoajeaaQPlVotesA
import Derived.Test.YtbaacdlocoajeaaQPlLoops
import Derived.Test.YtbaacdlocoajeaaQx9
namespace Go.Proofs.Ytbaacdlocoajeaa.Q
open Go.RowKit Go.Proofs.YtbaacdlocoajeaaW.PrintWords Go.Proofs.YtbaacdlocoajeaaW.PrintLast Go.Proofs.Ytbaacdlocoajeaa.HB
set_option linter.unusedVariables false
set_option linter.unusedSimpArgs false

theorem cntSort_le : ∀ m : List Int, (cntSort m).length ≤ m.length
  | [] => by simp [cntSort]
  | x :: m => by
    have ih := cntSort_le m
    unfold cntSort at ih ⊢
    simp only [List.length_append] at ih ⊢
    simp only [List.filter_cons, List.length_cons]
    by_cases h0 : x = 0
    · subst h0; simp; omega
    · by_cases h1 : x = 1
      · subst h1; simp; omega
      · by_cases h2 : x = 2
        · subst h2; simp; omega
        · by_cases h3 : x = 3
          · subst h3; simp; omega
          · simp [h0, h1, h2, h3]; omega
theorem two_filters {α : Type} {p q r : α → Bool} (hp : ∀ x, p x = true → r x = true) (hq : ∀ x, q x = true → r x = true) (hd : ∀ x, p x = true → q x = true → False) : ∀ l : List α, (l.filter p).length + (l.filter q).length ≤ (l.filter r).length
  | [] => by simp
  | x :: l => by
    have ih := two_filters hp hq hd l
    have h1 := hp x
    have h2 := hq x
    have h3 := hd x
    simp only [List.filter_cons]
    cases e1 : p x <;> cases e2 : q x <;> cases e3 : r x <;> simp_all <;> omega
theorem all_le {l : List VT} (h : votesB l = true) (a b c : Int) : (l.filter (opP a b c)).length ≤ 4 := by
  have h1 : ∀ x ∈ (l.filter (opP a b c)).map (·.f4), 0 ≤ x ∧ x ≤ 3 := by
    intro x hx
    obtain ⟨v, hv, rfl⟩ := List.mem_map.1 hx
    obtain ⟨i, hi, rfl⟩ := List.getElem_of_mem (List.mem_filter.1 hv).1
    have := ((votesB_step h).2 i hi).1
    simp only [voteB, whoB, Bool.and_eq_true, decide_eq_true_eq] at this
    exact this.2.2.2.2
  have h2 : ((l.filter (opP a b c)).map (·.f4)).Pairwise (· ≠ ·) := by
    rw [List.pairwise_map]
    refine ((votesB_pair h).filter _).imp_of_mem ?_
    intro x y hx hy hs e
    have h1 := (List.mem_filter.1 hx).2
    have h2 := (List.mem_filter.1 hy).2
    simp only [opP, Bool.and_eq_true, decide_eq_true_eq] at h1 h2
    have : sameB x y = true := by simp [sameB, h1, h2, e]
    rw [this] at hs
    exact absurd hs (by decide)
  have := length_le4 h1 h2
  simpa using this
theorem castF_two {l : List VT} (h : votesB l = true) (a b c : Int) {op op' : ByteArray} (hne : op ≠ op') : (castF a b c op l).length + (castF a b c op' l).length ≤ 4 := by
  refine Nat.le_trans ?_ (all_le h a b c)
  unfold castF
  rw [List.length_map, List.length_map]
  refine two_filters (fun x hx => ?_) (fun x hx => ?_) (fun x h1 h2 => ?_) l
  · simp only [castB, Bool.and_eq_true, decide_eq_true_eq] at hx
    simp [opP, hx]
  · simp only [castB, Bool.and_eq_true, decide_eq_true_eq] at hx
    simp [opP, hx]
  · simp only [castB, Bool.and_eq_true, decide_eq_true_eq] at h1 h2
    exact hne ((toList_eq_iff op op').1 (h1.2.2.2.symm.trans h2.2.2.2))
/-- One operation of a view and a number. -/
theorem one_op {l : List VT} (h : votesB l = true) {a b c : Int} {op op' : ByteArray} (hne : op ≠ op') (h1 : 3 ≤ (vs a b c l op).length) : (vs a b c l op').length < 3 := by
  have h2 := castF_two h a b c hne
  have h3 := cntSort_le (castF a b c op l)
  have h4 := cntSort_le (castF a b c op' l)
  unfold vs at h1 ⊢
  omega
/-- A voter, if there is any. -/
theorem a_vote {l : List VT} (h : votesB l = true) {a b c : Int} {op : ByteArray} (h1 : 3 ≤ (vs a b c l op).length) : ∃ v ∈ l, opP a b c v = true ∧ v.f3 = op ∧ voteB a b c op v.f4 = true := by
  have h3 := cntSort_le (castF a b c op l)
  unfold vs at h1
  have h4 : castF a b c op l ≠ [] := fun e => by rw [e] at h1; exact absurd h1 (by decide)
  obtain ⟨x, hx⟩ := List.exists_mem_of_ne_nil _ h4
  unfold castF at hx
  obtain ⟨v, hv, rfl⟩ := List.mem_map.1 hx
  obtain ⟨hv1, hv2⟩ := List.mem_filter.1 hv
  simp only [castB, Bool.and_eq_true, decide_eq_true_eq] at hv2
  have ho : v.f3 = op := (toList_eq_iff _ _).1 hv2.2.2.2
  refine ⟨v, hv1, by simp [opP, hv2], ho, ?_⟩
  obtain ⟨i, hi, rfl⟩ := List.getElem_of_mem hv1
  have := ((votesB_step h).2 i hi).1
  rw [hv2.1, hv2.2.1, hv2.2.2.1, ho] at this
  exact this
/-- From element i on, d elements being left. -/
def quorumFrom (l : List Int) : Nat → Nat → Bool
  | 0, _ => decide (3 ≤ l.length)
  | d + 1, i => if whoB (rd l i) = true then (if i = 0 then quorumFrom l d (i + 1) else if rd l ((i : Int) - 1) ≥ rd l i then false else quorumFrom l d (i + 1)) else false
def quorumB (l : List Int) : Bool := quorumFrom l l.length 0

theorem spec_quorum_l0 (l : List Int) (hl : l.length ≤ 9223372036854775807) (d : Nat) : ∀ (k i : Nat), i + d = l.length → d < k → spec_QuorumRight.l0 k l (i : Int) = some (quorumFrom l d i) := by
  induction d with
  | zero =>
    intro k i hi hk
    obtain ⟨k, rfl⟩ := k_succ hk
    simp only [spec_QuorumRight.l0, quorumFrom]
    rw [if_neg (by omega)]
    congr 1
    exact decide_eq_decide.2 (by omega)
  | succ d ih =>
    intro k i hi hk
    obtain ⟨k, rfl⟩ := k_succ hk
    have h1 := ih k (i + 1) (by omega) (by omega)
    simp only [spec_QuorumRight.l0, quorumFrom]
    rw [if_pos (by omega), if_pos (by omega), l09Who_eq, w_succ (n := l.length) (by omega) (by omega) (by omega)]
    simp only [Option.bind_some]
    by_cases hw : whoB (rd l i) = true
    · rw [if_pos hw, if_pos hw]
      by_cases h0 : i = 0
      · subst h0
        rw [if_neg (by omega), if_pos rfl]
        simpa using h1
      · rw [if_pos (by omega), if_neg h0, w_id (by omega) (by omega), if_pos (by omega), if_pos (by omega)]
        by_cases hg : rd l ((i : Int) - 1) ≥ rd l i
        · rw [if_pos hg, if_pos hg]
        · rw [if_neg hg, if_neg hg]
          simpa using h1
    · rw [if_neg hw, if_neg hw]

theorem spec_quorum_eq {l : List Int} (hl : l.length ≤ 9223372036854775807) {k : Nat} (hk : l.length < k) : spec_QuorumRight.f k l = some (quorumB l) := by
  unfold spec_QuorumRight.f quorumB
  exact spec_quorum_l0 l hl l.length k 0 (by omega) hk

def proofB (v s : Int) (op : ByteArray) (by_ : List Int) : Bool := decide (0 ≤ v ∧ v ≤ 7) && (decide (1 ≤ s ∧ s ≤ 6) && (decide (op.size ≤ 120) && quorumB by_))
theorem spec_proof_eq {v s : Int} {op : ByteArray} {l : List Int} (hl : l.length ≤ 9223372036854775807) {k : Nat} (hk : l.length < k) : spec_ProofRight.f k v s op l = some (proofB v s op l) := by
  unfold spec_ProofRight.f proofB
  rw [l10View_eq']
  simp only [Option.bind_some]
  rw [l10Seq_eq']
  simp only [Option.bind_some]
  rw [opRight_eq', spec_quorum_eq hl hk]
  simp only [Option.bind_some]
  cases decide (0 ≤ v ∧ v ≤ 7) <;> cases decide (1 ≤ s ∧ s ≤ 6) <;> cases decide (op.size ≤ 120) <;> simp
theorem quorumFrom_ok {m : List Int} (hw : ∀ x ∈ m, 0 ≤ x ∧ x ≤ 3) (hp : m.Pairwise (· < ·)) (h3 : 3 ≤ m.length) : ∀ d i : Nat, i + d = m.length → quorumFrom m d i = true
  | 0, _, _ => by simp [quorumFrom, h3]
  | d + 1, i, hi => by
    have hlt : i < m.length := by omega
    have e1 : rd m (i : Int) = m[i] := by simp [rd, List.getD, hlt]
    have ih := quorumFrom_ok hw hp h3 d (i + 1) (by omega)
    unfold quorumFrom
    have hwi := hw m[i] (List.getElem_mem _)
    rw [if_pos (by rw [e1]; simp [whoB, hwi])]
    by_cases h0 : i = 0
    · rw [if_pos h0]; exact ih
    · have e2 : rd m ((i : Int) - 1) = m[i - 1] := by
        rw [show (i : Int) - 1 = ((i - 1 : Nat) : Int) by omega]
        simp [rd, List.getD, show i - 1 < m.length by omega]
      have := List.pairwise_iff_getElem.1 hp (i - 1) i (by omega) hlt (by omega)
      rw [if_neg h0, e1, e2, if_neg (by omega)]
      exact ih
theorem filter_eq' (w : Int) {m : List Int} (h : m.count w ≤ 1) : m.filter (· == w) = [] ∨ m.filter (· == w) = [w] := by
  rw [List.filter_beq]
  have : m.count w = 0 ∨ m.count w = 1 := by omega
  rcases this with e | e <;> rw [e] <;> simp
theorem cntSort_rises {m : List Int} (hp : m.Pairwise (· ≠ ·)) : (cntSort m).Pairwise (· < ·) := by
  unfold cntSort
  rcases filter_eq' 0 (count_le_one 0 m hp) with e0 | e0 <;> rcases filter_eq' 1 (count_le_one 1 m hp) with e1 | e1 <;> rcases filter_eq' 2 (count_le_one 2 m hp) with e2 | e2 <;> rcases filter_eq' 3 (count_le_one 3 m hp) with e3 | e3 <;> rw [e0, e1, e2, e3] <;> decide
theorem cntSort_mem {m : List Int} {x : Int} (h : x ∈ cntSort m) : x ∈ m := by
  unfold cntSort at h
  simp only [List.mem_append, List.mem_filter] at h
  rcases h with h | h | h | h <;> exact h.1
/-- A proof that is found is right. -/
theorem proof_right {l : List VT} (h : votesB l = true) {v s : Int} {op : ByteArray} (h1 : 3 ≤ (vs 2 v s l op).length) : proofB v s op (vs 2 v s l op) = true := by
  obtain ⟨x, hx, _, _, hv⟩ := a_vote h h1
  simp only [voteB, Bool.and_eq_true, decide_eq_true_eq] at hv
  have hc := castF_ok h 2 v s op
  have hq : quorumB (vs 2 v s l op) = true := quorumFrom_ok (m := vs 2 v s l op) (fun x hx => hc.1 x (cntSort_mem hx)) (cntSort_rises hc.2) h1 (vs 2 v s l op).length 0 (by omega)
  unfold proofB
  rw [hq]
  simp [hv]
theorem insS_self (x : ByteArray) : ∀ l : List ByteArray, x ∈ insS x l
  | [] => by simp [insS]
  | y :: l => by
    have ih := insS_self x l
    unfold insS
    split
    · simp [ih]
    · split
      · rename_i h
        simp [h]
      · simp
theorem insS_keep {x y : ByteArray} : ∀ {l : List ByteArray}, y ∈ l → y ∈ insS x l
  | z :: l, h => by
    unfold insS
    split
    · rcases List.mem_cons.1 h with rfl | h
      · simp
      · simp [insS_keep h]
    · split
      · exact h
      · exact List.mem_cons_of_mem _ h
theorem insSAll_keep {y : ByteArray} : ∀ (l acc : List ByteArray), y ∈ acc ∨ y ∈ l → y ∈ insSAll acc l
  | [], acc, h => by
    rcases h with h | h
    · simpa [insSAll] using h
    · exact absurd h (by simp)
  | x :: l, acc, h => by
    unfold insSAll
    refine insSAll_keep l _ ?_
    rcases h with h | h
    · exact .inl (insS_keep h)
    · rcases List.mem_cons.1 h with rfl | h
      · exact .inl (insS_self _ _)
      · exact .inr h
theorem mem_ops {l : List VT} {a b c : Int} {v : VT} (hv : v ∈ l) (h : opP a b c v = true) : v.f3 ∈ opsB a b c l := by
  unfold opsB opF
  exact insSAll_keep _ _ (.inr (List.mem_map.2 ⟨v, List.mem_filter.2 ⟨hv, h⟩, rfl⟩))
/-- The best proof is of no lesser view. -/
theorem best_ge {l : List VT} (h : votesB l = true) {s v : Int} {op : ByteArray} (h0 : 0 ≤ v) (h1 : 3 ≤ (vs 2 v s l op).length) : ∀ d : Nat, v < d → v ≤ (bestD l s d).1.1
  | 0, hd => by omega
  | d + 1, hd => by
    unfold bestD
    cases e : (opsB 2 (d : Int) s l).find? (enough 2 (d : Int) s l) with
    | some o => simp only; omega
    | none =>
      simp only
      by_cases hv : v = d
      · subst hv
        obtain ⟨x, hx, h2, h3, _⟩ := a_vote h h1
        have := List.find?_eq_none.1 e x.f3 (mem_ops hx h2)
        rw [h3] at this
        exact absurd (decide_eq_true h1) this
      · exact best_ge h h0 h1 d (by omega)
theorem dec_none (l : List VT) (s : Int) : ∀ (d : Nat) (v : Int), (decFrom l s d v).2 = false → (decFrom l s d v).1 = (⟨#[]⟩ : ByteArray)
  | 0, _ => by intro _; rfl
  | d + 1, v => by
    unfold decFrom
    cases e : (opsB 3 v s l).find? (enough 3 v s l) with
    | some o => intro hh; exact absurd hh (by simp [found])
    | none => exact dec_none l s d (v + 1)
theorem dec_some (l : List VT) (s : Int) : ∀ (d : Nat) (v : Int), (decFrom l s d v).2 = true → ∃ w : Int, v ≤ w ∧ w < v + d ∧ 3 ≤ (vs 3 w s l (decFrom l s d v).1).length
  | 0, _ => by intro hh; exact absurd hh (by simp [decFrom])
  | d + 1, v => by
    unfold decFrom
    cases e : (opsB 3 v s l).find? (enough 3 v s l) with
    | some o =>
      intro _
      have := List.find?_some e
      exact ⟨v, by omega, by omega, of_decide_eq_true this⟩
    | none =>
      intro hh
      obtain ⟨w, h1, h2, h3⟩ := dec_some l s d (v + 1) hh
      exact ⟨w, by omega, by omega, h3⟩
end Go.Proofs.Ytbaacdlocoajeaa.Q
