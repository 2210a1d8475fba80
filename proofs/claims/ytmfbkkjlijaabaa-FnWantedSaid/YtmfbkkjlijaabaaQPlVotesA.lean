/- What VotesRight and areVotes answer: one and the same function. -/
import Derived.Test.YtmfbkkjlijaabaaQx8
import Derived.Test.YtmfbkkjlijaabaaQx11
import Derived.Test.YtmfbkkjlijaabaaQPlWho
import Derived.Test.YtmfbkkjlijaabaaQPlLoops
namespace Go.Proofs.Ytmfbkkjlijaabaa.Q
open Go.RowKit Go.Proofs.YtmfbkkjlijaabaaW.PrintWords Go.Proofs.YtmfbkkjlijaabaaW.PrintLast Go.Proofs.Ytmfbkkjlijaabaa.HB
set_option linter.unusedVariables false
set_option linter.unusedSimpArgs false

theorem opRight_eq' (s : ByteArray) : spec_OpRight.f s = some (decide (s.size ≤ 120)) := by
  unfold spec_OpRight.f; congr 1; exact decide_eq_decide.2 (by omega)
theorem isOp_eq' (s : ByteArray) : impl_isOp.f s = some (decide (s.size ≤ 120)) := by
  unfold impl_isOp.f; congr 1; exact decide_eq_decide.2 (by omega)
theorem l10View_eq' (a : Int) : spec_l10View.f a = some (decide (0 ≤ a ∧ a ≤ 7)) := by unfold spec_l10View.f; rw [l03Is_eq]; rfl
theorem l10Seq_eq' (a : Int) : spec_l10Seq.f a = some (decide (1 ≤ a ∧ a ≤ 6)) := by unfold spec_l10Seq.f; rw [l03Is_eq]; rfl
theorem isView_eq' (a b : Int) : impl_isView.f a b = some (decide (b ≤ a ∧ a ≤ 7)) := by unfold impl_isView.f; rw [within_eq]; rfl
theorem isSeq_eq' (a : Int) : impl_isSeq.f a = some (decide (1 ≤ a ∧ a ≤ 6)) := by unfold impl_isSeq.f; rw [within_eq]; rfl

def voteB (k v s : Int) (op : ByteArray) (f : Int) : Bool := (decide (k = 2) || decide (k = 3)) && (decide (0 ≤ v ∧ v ≤ 7) && (decide (1 ≤ s ∧ s ≤ 6) && (decide (op.size ≤ 120) && whoB f)))
theorem spec_vote_eq (k v s : Int) (op : ByteArray) (f : Int) : spec_l11Vote.f k v s op f = some (voteB k v s op f) := by
  unfold spec_l11Vote.f voteB
  rw [l10View_eq', l10Seq_eq', opRight_eq', l09Who_eq]
  simp only [Option.bind_some]
  by_cases h2 : k = 2
  · rw [if_pos h2]
    simp only [h2, decide_true, Bool.true_or, Bool.true_and]
    cases decide (0 ≤ v ∧ v ≤ 7) <;> cases decide (1 ≤ s ∧ s ≤ 6) <;> cases decide (op.size ≤ 120) <;> simp
  · rw [if_neg h2]
    by_cases h3 : k = 3
    · rw [if_pos h3]
      simp only [h3, decide_true, Bool.or_true, Bool.true_and]
      cases decide (0 ≤ v ∧ v ≤ 7) <;> cases decide (1 ≤ s ∧ s ≤ 6) <;> cases decide (op.size ≤ 120) <;> simp
    · rw [if_neg h3]
      simp [h2, h3]
theorem impl_vote_eq (k v s : Int) (op : ByteArray) (f : Int) : impl_isVote.f k v s op f = some (voteB k v s op f) := by
  unfold impl_isVote.f voteB
  rw [isView_eq', isSeq_eq', isOp_eq', isReplica_eq]
  simp only [Option.bind_some]
  by_cases h2 : k = 2
  · rw [if_pos h2]
    simp only [h2, decide_true, Bool.true_or, Bool.true_and]
    cases decide (0 ≤ v ∧ v ≤ 7) <;> cases decide (1 ≤ s ∧ s ≤ 6) <;> cases decide (op.size ≤ 120) <;> simp
  · rw [if_neg h2]
    by_cases h3 : k = 3
    · rw [if_pos h3]
      simp only [h3, decide_true, Bool.or_true, Bool.true_and]
      cases decide (0 ≤ v ∧ v ≤ 7) <;> cases decide (1 ≤ s ∧ s ≤ 6) <;> cases decide (op.size ≤ 120) <;> simp
    · rw [if_neg h3]
      simp [h2, h3]

/-- The same Kind, View, Seq and From. -/
def sameB (x y : S67) : Bool := x.f0 == y.f0 && (x.f1 == y.f1 && (x.f2 == y.f2 && x.f4 == y.f4))
theorem same_p (x y : S67) : impl_voteIndex_p y.f0 y.f1 y.f2 y.f4 x = sameB x y := rfl
theorem same_eq (x y : S67) : spec_l11Same.f x.f0 x.f1 x.f2 x.f3 x.f4 y.f0 y.f1 y.f2 y.f3 y.f4 = some (sameB x y) := by
  unfold spec_l11Same.f sameB
  by_cases h0 : x.f0 = y.f0
  · by_cases h1 : x.f1 = y.f1
    · by_cases h2 : x.f2 = y.f2
      · simp [h0, h1, h2]
      · simp [h0, h1, h2]
    · simp [h0, h1]
  · simp [h0]
theorem has_l0 (l : List S67) (y : S67) (hl : l.length ≤ 9223372036854775807) (d : Nat) : ∀ (k i : Nat), i + d = l.length → d < k →
    spec_l11Has.l0 k l (i : Int) y.f0 y.f1 y.f2 y.f3 y.f4 = some ((l.drop i).any fun x => sameB x y) := by
  induction d with
  | zero =>
    intro k i hi hk
    obtain ⟨k, rfl⟩ := k_succ hk
    simp only [spec_l11Has.l0]
    rw [if_neg (by omega), List.drop_of_length_le (by omega)]
    rfl
  | succ d ih =>
    intro k i hi hk
    obtain ⟨k, rfl⟩ := k_succ hk
    have hlt : i < l.length := by omega
    have h1 := ih k (i + 1) (by omega) (by omega)
    simp only [spec_l11Has.l0]
    rw [if_pos (by omega), if_pos (by omega), w_nat hlt hl, same_eq]
    simp only [Option.bind_some]
    have e : rd_T67 l (i : Int) = l[i] := by simp [rd_T67, List.getD, hlt]
    rw [List.drop_eq_getElem_cons hlt, List.any_cons, e]
    cases sameB l[i] y with
    | true => simp
    | false => simpa using h1
theorem has_eq {l : List S67} {y : S67} (hl : l.length ≤ 9223372036854775807) {k : Nat} (hk : l.length < k) : spec_l11Has.f k l y.f0 y.f1 y.f2 y.f3 y.f4 = some (l.any fun x => sameB x y) := by
  unfold spec_l11Has.f
  have := has_l0 l y hl l.length k 0 (by omega) hk
  simpa using this

/-- One round of the check: an answer, or none. -/
def votesStep (l : List S67) (i : Nat) : Option Bool :=
  let v := rd_T67 l i
  if voteB v.f0 v.f1 v.f2 v.f3 v.f4 = true then (if ((l.take i).any fun x => sameB x v) = true then some false else none) else some false
def votesB (l : List S67) : Bool := if l.length > 400 then false else scanFrom (votesStep l) true l.length 0

theorem spec_votes_eq {l : List S67} {k : Nat} (hk : l.length + l.length < k) : spec_VotesRight.f k l = some (votesB l) := by
  unfold spec_VotesRight.f votesB
  by_cases h : l.length > 400
  · rw [if_pos (by omega), if_pos h]
  · rw [if_neg (by omega), if_neg h]
    refine scanLoop (n := l.length) (m := l.length) (F := fun k i => spec_VotesRight.l0 k l i) (fun k => ?_) (fun k i hm hi => ?_) l.length k 0 (by omega) (by omega)
    · simp only [spec_VotesRight.l0]
      rw [if_neg (by omega)]
    · simp only [spec_VotesRight.l0]
      rw [if_pos (by omega), if_pos (by omega), spec_vote_eq, w_nat hi (by omega)]
      simp only [Option.bind_some, votesStep]
      by_cases hv : voteB (rd_T67 l i).f0 (rd_T67 l i).f1 (rd_T67 l i).f2 (rd_T67 l i).f3 (rd_T67 l i).f4 = true
      · rw [if_pos hv, if_pos hv, if_pos (by omega), Int.toNat_natCast, has_eq (by simp; omega) (by simp; omega)]
        simp only [Option.bind_some]
        split <;> rfl
      · rw [if_neg hv, if_neg hv]

theorem ixFrom_any {α : Type} (p : α → Bool) (z : α) : ∀ (l : List α) (b i : Nat), i < l.length → p (l.getD i z) = true → (ixFrom p l b < (b : Int) + i ↔ ((l.take i).any p) = true) := by
  intro l
  induction l with
  | nil => intro b i hi; simp at hi
  | cons x xs ih =>
    intro b i hi hp
    unfold ixFrom
    cases i with
    | zero =>
      have : p x = true := by simpa using hp
      simp [this]
    | succ i =>
      by_cases hx : p x = true
      · simp [hx]; omega
      · have := ih (b + 1) i (by simpa using hi) (by simpa using hp)
        simp only [hx, Bool.false_eq_true, if_false, List.take_succ_cons, List.any_cons, Bool.false_or]
        rw [← this]
        omega
theorem sameB_self (x : S67) : sameB x x = true := by simp [sameB]

theorem impl_votes_eq {l : List S67} {k : Nat} (hk : l.length < k) : impl_areVotes.f k l = some (votesB l) := by
  unfold impl_areVotes.f votesB
  by_cases h : l.length > 400
  · rw [if_pos (by omega), if_pos h]
  · rw [if_neg (by omega), if_neg h]
    refine scanLoop (n := l.length) (m := 0) (F := fun k i => impl_areVotes.l0 k l l (l.length : Int) i) (fun k => ?_) (fun k i hm hi => ?_) l.length k 0 (by omega) (by omega)
    · simp only [impl_areVotes.l0]
      rw [if_neg (by omega)]
    · simp only [impl_areVotes.l0]
      rw [if_pos (by omega), if_pos (by omega), if_pos (by omega), impl_vote_eq, w_nat hi (by omega)]
      simp only [Option.bind_some, votesStep, impl_voteIndex.f]
      by_cases hv : voteB (rd_T67 l i).f0 (rd_T67 l i).f1 (rd_T67 l i).f2 (rd_T67 l i).f3 (rd_T67 l i).f4 = true
      · rw [if_pos hv, if_pos hv]
        have hz := ixFrom_any (impl_voteIndex_p (rd_T67 l i).f0 (rd_T67 l i).f1 (rd_T67 l i).f2 (rd_T67 l i).f4) z67 l 0 i hi (by
          have : l.getD i z67 = rd_T67 l (i : Int) := rfl
          rw [this]
          exact sameB_self _)
        by_cases hs : ((l.take i).any fun x => sameB x (rd_T67 l i)) = true
        · have h1 := hz.2 hs
          rw [if_pos hs]
          exact if_pos (by simpa using h1)
        · have h1 := fun h => hs (hz.1 h)
          rw [if_neg hs]
          exact if_neg (by simpa using h1)
      · rw [if_neg hv, if_neg hv]

end Go.Proofs.Ytmfbkkjlijaabaa.Q
