/- The proof of the greatest view, and of the least operation: the reference and the program find the same one. -/
import Derived.Test.YtmfbkkjlijaabaaQx12
import Derived.Test.YtmfbkkjlijaabaaQx15
import Derived.Test.YtmfbkkjlijaabaaQx16
import Derived.Test.YtmfbkkjlijaabaaQPlOps
namespace Go.Proofs.Ytmfbkkjlijaabaa.Q
open Go.RowKit Go.Proofs.YtmfbkkjlijaabaaW.PrintWords Go.Proofs.YtmfbkkjlijaabaaW.PrintLast Go.Proofs.Ytmfbkkjlijaabaa.HB
set_option linter.unusedVariables false
set_option linter.unusedSimpArgs false

abbrev PT := Int × Int × ByteArray × List Int
/-- Of d views the greatest that has a proof. -/
def bestD (l : List VT) (s : Int) : Nat → PT × Bool
  | 0 => ((0, 0, ⟨#[]⟩, []), false)
  | d + 1 => match (opsB 2 (d : Int) s l).find? (enough 2 (d : Int) s l) with
    | some op => (((d : Int), s, op, vs 2 (d : Int) s l op), true)
    | none => bestD l s d
theorem vs_len {l : List VT} (h : votesB l = true) (a b c : Int) (op : ByteArray) : (vs a b c l op).length ≤ 16 := by
  have h1 := cntSort_len (castF a b c op l)
  have h2 := length_le4 (castF_ok h a b c op).1 (castF_ok h a b c op).2
  unfold vs
  omega
theorem bestD_len {l : List VT} (h : votesB l = true) (s : Int) : ∀ d, (bestD l s d).1.2.2.2.length ≤ 16
  | 0 => by simp [bestD]
  | d + 1 => by
    have ih := bestD_len h s d
    unfold bestD
    split
    · exact vs_len h _ _ _ _
    · exact ih

def fnd (l : List VT) (v s : Int) (o : Option ByteArray) : Int × Int × ByteArray × List Int × Bool := match o with | some op => (v, s, op, vs 2 v s l op, true) | none => (0, 0, ⟨#[]⟩, [], false)
theorem spec_proof_l0 {l : List VT} {s v : Int} {ops : List ByteArray} (hl : l.length ≤ 1000) (ho : ops.length ≤ 1000) (d : Nat) : ∀ k i : Nat, i + d = ops.length → d + (4 * l.length + 10) < k →
    spec_l11Proof.l0 k l v s ops (i : Int) = some (fnd l v s ((ops.drop i).find? (enough 2 v s l))) := by
  induction d with
  | zero =>
    intro k i hi hk
    obtain ⟨k, rfl⟩ := k_succ hk
    simp only [spec_l11Proof.l0]
    rw [if_neg (by omega), List.drop_of_length_le (by omega)]
    rfl
  | succ d ih =>
    intro k i hi hk
    obtain ⟨k, rfl⟩ := k_succ hk
    have hlt : i < ops.length := by omega
    simp only [spec_l11Proof.l0]
    rw [if_pos (by omega), if_pos (by omega), spec_voters_f hl (by omega), w_nat hlt (by omega), find_drop hlt]
    simp only [Option.bind_some]
    have ih' := ih k (i + 1) (by omega) (by omega)
    by_cases h : enough 2 v s l (rdOf ByteArray.empty ops (i : Int)) = true
    · rw [if_pos (by have := of_decide_eq_true h; omega), if_pos h]
      rfl
    · rw [if_neg (by intro h2; exact h (decide_eq_true (by omega))), if_neg h]
      exact ih'
theorem spec_proofIn_eq {l : List VT} {s v : Int} (hl : l.length ≤ 1000) {k : Nat} (h1 : l.length * 1010 + 1 ≤ k) (h2 : 5 * l.length + 20 ≤ k) : spec_l11Proof.f k l v s = some (fnd l v s ((opsB 2 v s l).find? (enough 2 v s l))) := by
  have ho := opsB_len 2 v s l
  unfold spec_l11Proof.f
  rw [spec_ops_eq hl h1]
  simp only [Option.bind_some]
  have := spec_proof_l0 (l := l) (s := s) (v := v) (ops := opsB 2 v s l) hl (by omega) (opsB 2 v s l).length k 0 (by omega) (by omega)
  simp only [List.drop_zero] at this
  exact this
theorem spec_best_l0 {l : List VT} {s : Int} (hl : l.length ≤ 1000) {R : Nat} (h1 : l.length * 1010 + 1 ≤ R) (h2 : 5 * l.length + 20 ≤ R) (d : Nat) (hd : d ≤ 1000) : ∀ k : Nat, R + d < k →
    spec_l11Best.l0 k l s ((d : Int) - 1) = some ((bestD l s d).1.1, (bestD l s d).1.2.1, (bestD l s d).1.2.2.1, (bestD l s d).1.2.2.2, (bestD l s d).2) := by
  induction d with
  | zero =>
    intro k hk
    obtain ⟨k, rfl⟩ := k_succ hk
    simp only [spec_l11Best.l0]
    rw [if_neg (by omega)]
    rfl
  | succ d ih =>
    intro k hk
    obtain ⟨k, rfl⟩ := k_succ hk
    have ih' := ih (by omega) k (by omega)
    have e : ((d + 1 : Nat) : Int) - 1 = (d : Int) := by omega
    rw [e]
    simp only [spec_l11Best.l0]
    rw [if_pos (by omega), spec_proofIn_eq hl (Nat.le_trans h1 (by omega)) (by omega)]
    simp only [Option.bind_some, bestD]
    cases hf : (opsB 2 (d : Int) s l).find? (enough 2 (d : Int) s l) with
    | some op => simp [fnd]
    | none =>
      refine (if_neg Bool.false_ne_true).trans ?_
      rw [w_id (by omega) (by omega)]
      exact ih'
def prepR (l : List VT) : Nat := (l.length * 1010 + 1) + (5 * l.length + 220) + 10
set_option maxRecDepth 100000 in
theorem spec_best_eq {l : List VT} {s : Int} (hl : l.length ≤ 1000) {k : Nat} (hk : prepR l < k) : spec_l11Best.f k l s 8 = some ((bestD l s 8).1.1, (bestD l s 8).1.2.1, (bestD l s 8).1.2.2.1, (bestD l s 8).1.2.2.2, (bestD l s 8).2) := by
  unfold spec_l11Best.f
  rw [w_id (by omega) (by omega)]
  exact spec_best_l0 hl (R := (l.length * 1010 + 1) + (5 * l.length + 220)) (Nat.le_add_right _ _) (Nat.le_trans (Nat.add_le_add_left (by decide) _) (Nat.le_add_left _ _)) 8 (by omega) k (Nat.lt_of_le_of_lt (by unfold prepR; exact Nat.add_le_add_left (by decide) _) hk)

theorem opsB_zero {l : List VT} (h : votesB l = true) (a b : Int) : opsB a b 0 l = [] := by
  have : opF a b 0 l = [] := by
    unfold opF
    rw [List.map_eq_nil_iff, List.filter_eq_nil_iff]
    intro v hv hp
    obtain ⟨i, hi, rfl⟩ := List.getElem_of_mem hv
    have := ((votesB_step h).2 i hi).1
    simp only [voteB, Bool.and_eq_true, decide_eq_true_eq] at this
    simp only [opP, Bool.and_eq_true, decide_eq_true_eq] at hp
    omega
  unfold opsB
  rw [this]
  rfl
def fnd4 (l : List VT) (v s : Int) (o : Option ByteArray) : PT := match o with | some op => (v, s, op, vs 2 v s l op) | none => (0, 0, ⟨#[]⟩, [])
theorem impl_proved_l0 {l : List VT} {s v : Int} {ops : List ByteArray} (hv : votesB l = true) (hs : s ≠ 0) (ho : ops.length ≤ 1000) (d : Nat) : ∀ k i : Nat, i + d = ops.length → d + (l.length + 100) < k →
    impl_provedIn.l0 k l v s ops (ops.length : Int) (i : Int) = some (fnd4 l v s ((ops.drop i).find? (enough 2 v s l))) := by
  induction d with
  | zero =>
    intro k i hi hk
    obtain ⟨k, rfl⟩ := k_succ hk
    simp only [impl_provedIn.l0]
    rw [if_neg (by omega), List.drop_of_length_le (by omega)]
    rfl
  | succ d ih =>
    intro k i hi hk
    obtain ⟨k, rfl⟩ := k_succ hk
    have hlt : i < ops.length := by omega
    simp only [impl_provedIn.l0]
    rw [if_pos (by omega), if_pos (by omega), if_pos (by omega), w_nat hlt (by omega), find_drop hlt]
    unfold impl_proofOf.f
    rw [impl_voters_f hv (by omega)]
    simp only [Option.bind_some]
    have ih' := ih k (i + 1) (by omega) (by omega)
    by_cases h : enough 2 v s l (rdOf ByteArray.empty ops (i : Int)) = true
    · have h2 : 3 ≤ (cntSort (castF 2 v s (rdOf ByteArray.empty ops (i : Int)) l)).length := of_decide_eq_true h
      rw [if_neg (by omega), if_pos h]
      simp only [Option.bind_some]
      rw [if_neg hs]
      rfl
    · have h2 : ¬ 3 ≤ (cntSort (castF 2 v s (rdOf ByteArray.empty ops (i : Int)) l)).length := fun h2 => h (decide_eq_true h2)
      rw [if_pos (by omega), if_neg h]
      simp only [Option.bind_some]
      rw [if_pos trivial]
      exact ih'
set_option maxRecDepth 100000 in
theorem impl_provedIn_eq {l : List VT} {s v : Int} (hv : votesB l = true) {k : Nat} (h2 : 5 * l.length + 220 ≤ k) : impl_provedIn.f k l v s = some (fnd4 l v s ((opsB 2 v s l).find? (enough 2 v s l))) := by
  have ho := opsB_len 2 v s l
  have hl := (votesB_step hv).1
  unfold impl_provedIn.f
  rw [impl_ops_eq (by omega) (by omega)]
  simp only [Option.bind_some]
  by_cases hs : s = 0
  · subst hs
    rw [opsB_zero hv]
    obtain ⟨k, rfl⟩ : ∃ m, k = m + 1 := ⟨k - 1, by omega⟩
    simp only [impl_provedIn.l0]
    rw [if_neg (by simp)]
    rfl
  · have := impl_proved_l0 (l := l) (s := s) (v := v) (ops := opsB 2 v s l) hv hs (by omega) (opsB 2 v s l).length k 0 (by omega) (by omega)
    simp only [List.drop_zero] at this
    exact this
set_option maxRecDepth 100000 in
theorem impl_prep_l0 {l : List VT} {s : Int} (hv : votesB l = true) (d : Nat) (hd : d ≤ 1000) : ∀ k : Nat, (5 * l.length + 220) + d < k →
    impl_prepared.l0 k l s ((d : Int) - 1) = some (bestD l s d).1 := by
  induction d with
  | zero =>
    intro k hk
    obtain ⟨k, rfl⟩ := k_succ hk
    simp only [impl_prepared.l0]
    rw [if_neg (by omega)]
    rfl
  | succ d ih =>
    intro k hk
    obtain ⟨k, rfl⟩ := k_succ hk
    have ih' := ih (by omega) k (by omega)
    have e : ((d + 1 : Nat) : Int) - 1 = (d : Int) := by omega
    rw [e]
    simp only [impl_prepared.l0]
    rw [if_pos (by omega), impl_provedIn_eq hv (by omega)]
    simp only [Option.bind_some, bestD]
    cases hf : (opsB 2 (d : Int) s l).find? (enough 2 (d : Int) s l) with
    | some op =>
      have hs : s ≠ 0 := by
        intro hs
        subst hs
        rw [opsB_zero hv] at hf
        simp at hf
      exact (if_neg hs).trans rfl
    | none =>
      refine (if_pos rfl).trans ?_
      rw [w_id (by omega) (by omega)]
      exact ih'
set_option maxRecDepth 100000 in
theorem impl_prep_eq {l : List VT} {s : Int} (hv : votesB l = true) {k : Nat} (hk : prepR l < k) : impl_prepared.f k l s 7 = some (bestD l s 8).1 := by
  unfold impl_prepared.f
  exact impl_prep_l0 hv 8 (by omega) k (Nat.lt_of_le_of_lt (by unfold prepR; generalize l.length * 1010 + 1 = z; omega) hk)
/-- What Prepared answers. -/
def prepB (l : List VT) (s : Int) : PT := if votesB l = true then (bestD l s 8).1 else (0, 0, ⟨#[]⟩, [])
theorem prepB_len (l : List VT) (s : Int) : (prepB l s).2.2.2.length ≤ 16 := by
  unfold prepB
  split
  · rename_i h
    exact bestD_len h s 8
  · simp
set_option maxRecDepth 100000 in
theorem prepR_ge (l : List VT) : 4 * l.length + 220 ≤ prepR l := by
  unfold prepR
  generalize l.length * 1010 + 1 = z
  omega

end Go.Proofs.Ytmfbkkjlijaabaa.Q
