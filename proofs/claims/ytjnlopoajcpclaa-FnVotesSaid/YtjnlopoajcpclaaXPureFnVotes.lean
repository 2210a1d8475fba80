/- FnVotes: of drawn votes, what VoteAdd and Voters answer, is as the law says. No condition. -/
import Derived.Test.YtjnlopoajcpclaaXSaidFnVotes
import Derived.Test.YtjnlopoajcpclaaXPlDraw
import Derived.Test.YtjnlopoajcpclaaXPlVoters
import Derived.Test.YtjnlopoajcpclaaXx6
import Derived.Test.YtjnlopoajcpclaaXx8
import Derived.Test.YtjnlopoajcpclaaXx20
namespace Go.Proofs.Ytjnlopoajcpclaa.X.PureFnVotes
open Go.RowKit Go.Proofs.YtjnlopoajcpclaaW.PrintWords Go.Proofs.YtjnlopoajcpclaaW.PrintLast Go.Proofs.Ytjnlopoajcpclaa.X Go.Proofs.Ytjnlopoajcpclaa.HB
set_option linter.unusedVariables false
set_option linter.unusedSimpArgs false

theorem lwVotes_eq {l : List VT} (hl : l.length ≤ 2000000) {k : Nat} (hk : l.length < k) : laws_lwVotes.f k l l = some true := by
  unfold laws_lwVotes.f
  rw [if_pos rfl]
  refine upLoop (n := l.length) (m := 0) (F := fun k i => laws_lwVotes.l0 k l l i) (fun k => ?_) (fun k i hm hi => ?_) l.length k 0 (by omega) (by omega)
  · simp only [laws_lwVotes.l0]
    rw [if_neg (by omega)]
  · simp only [laws_lwVotes.l0]
    rw [if_pos (by omega), if_pos (by omega), if_pos (by omega), w_nat hi (by omega)]
    simp
theorem lwNums_eq {l : List Int} (hl : l.length ≤ 2000000) {k : Nat} (hk : l.length < k) : laws_lwNums.f k l l = some true := by
  unfold laws_lwNums.f
  rw [if_pos rfl]
  refine upLoop (n := l.length) (m := 0) (F := fun k i => laws_lwNums.l0 k l l i) (fun k => ?_) (fun k i hm hi => ?_) l.length k 0 (by omega) (by omega)
  · simp only [laws_lwNums.l0]
    rw [if_neg (by omega)]
  · simp only [laws_lwNums.l0]
    rw [if_pos (by omega), if_pos (by omega), if_pos (by omega), if_pos trivial, w_nat hi (by omega)]
theorem scan_all_none {step : Nat → Option Bool} : ∀ d i : Nat, (∀ j, i ≤ j → j < i + d → step j = none) → scanFrom step true d i = true := by
  intro d
  induction d with
  | zero => intro i _; rfl
  | succ d ih =>
    intro i h
    unfold scanFrom
    rw [h i (by omega) (by omega)]
    exact ih (i + 1) fun j h1 h2 => h j (by omega) (by omega)
theorem votesB_of {l : List VT} (hl : l.length ≤ 400) (h : ∀ i (hi : i < l.length), voteB l[i].f0 l[i].f1 l[i].f2 l[i].f3 l[i].f4 = true ∧ ((l.take i).any fun x => sameB x l[i]) = false) : votesB l = true := by
  unfold votesB
  rw [if_neg (by omega)]
  refine scan_all_none l.length 0 fun j _ hj => ?_
  have hj' : j < l.length := by omega
  obtain ⟨h1, h2⟩ := h j hj'
  have e : rd_T32 l (j : Int) = l[j] := by simp [rd_T32, List.getD, hj']
  simp only [votesStep, e]
  rw [if_pos h1, if_neg (by rw [h2]; simp)]
theorem votesB_append {l : List VT} {v : VT} (h : votesB l = true) (hv : voteB v.f0 v.f1 v.f2 v.f3 v.f4 = true) (hs : ¬ (l.any fun x => sameB x v) = true) (hl : l.length < 400) : votesB (l ++ [v]) = true := by
  refine votesB_of (by simp; omega) fun i hi => ?_
  by_cases e : i < l.length
  · have := (votesB_step h).2 i e
    rw [List.getElem_append_left e, List.take_append_of_le_length (by omega)]
    exact this
  · have e2 : i = l.length := by simp at hi; omega
    subst e2
    simp only [List.getElem_concat_length, List.take_left']
    exact ⟨hv, by simpa using hs⟩
theorem filter_eq (w : Int) {m : List Int} (h : m.count w ≤ 1) : m.filter (· == w) = [] ∨ m.filter (· == w) = [w] := by
  rw [List.filter_beq]
  have : m.count w = 0 ∨ m.count w = 1 := by omega
  rcases this with e | e <;> rw [e] <;> simp
theorem cntSort_rising {m : List Int} (hp : m.Pairwise (· ≠ ·)) : (cntSort m).Pairwise (· < ·) := by
  unfold cntSort
  rcases filter_eq 0 (count_le_one 0 m hp) with e0 | e0 <;> rcases filter_eq 1 (count_le_one 1 m hp) with e1 | e1 <;> rcases filter_eq 2 (count_le_one 2 m hp) with e2 | e2 <;> rcases filter_eq 3 (count_le_one 3 m hp) with e3 | e3 <;> rw [e0, e1, e2, e3] <;> decide
theorem votersB_rising (l : List VT) (a b c : Int) (op : ByteArray) : (votersB l a b c op).Pairwise (· < ·) := by
  unfold votersB
  split
  · simp
  · split
    · rename_i h
      exact cntSort_rising (castF_ok h a b c op).2
    · simp
/-- Adding again. -/
theorem addB_again {l : List VT} {v : VT} (h : (addB l v).2.2 = 0) :
    votesB (addB l v).1 = true ∧ addB (addB l v).1 v = ((addB l v).1, false, 0) ∧ ((addB l v).2.1 = true → (addB l v).1 = l ++ [v]) ∧ ((addB l v).2.1 = false → (addB l v).1 = l) := by
  unfold addB at h ⊢
  by_cases h0 : l.length > 400
  · rw [if_pos h0] at h; exact absurd h (by simp)
  · rw [if_neg h0] at h ⊢
    by_cases h1 : votesB l = true
    · rw [if_pos h1] at h ⊢
      by_cases h2 : voteB v.f0 v.f1 v.f2 v.f3 v.f4 = true
      · rw [if_pos h2] at h ⊢
        by_cases h3 : (l.any fun x => sameB x v) = true
        · rw [if_pos h3] at h ⊢
          refine ⟨h1, ?_, by simp, by simp⟩
          rw [if_neg h0, if_pos h1, if_pos h2, if_pos h3]
        · rw [if_neg h3] at h ⊢
          by_cases h4 : l.length ≥ 400
          · rw [if_pos h4] at h; exact absurd h (by simp)
          · rw [if_neg h4] at h ⊢
            have h5 := votesB_append h1 h2 h3 (by omega)
            have h6 : ((l ++ [v]).any fun x => sameB x v) = true := by simp [sameB_self]
            refine ⟨h5, ?_, by simp, by simp⟩
            rw [if_neg (by simp; omega), if_pos h5, if_pos h2, if_pos h6]
      · rw [if_neg h2] at h; exact absurd h (by simp)
    · rw [if_neg h1] at h; exact absurd h (by simp)
/-- The end of the law, behind the check of the order. -/
theorem law_l0 {l : List VT} {v : VT} {who : List Int} (hl : l.length ≤ 402) (hw : who.length ≤ 16) (hr : who.Pairwise (· < ·)) (d : Nat) : ∀ k i : Nat, i + d = who.length + 1 → 1 ≤ i → d + 3000 < k →
    laws_FnVotes.l0 k l who (i : Int) v.f0 v.f1 v.f2 v.f3 v.f4 (addB l v).1 (addB l v).2.1 (addB l v).2.2 = some true := by
  have hb := addB_len l v
  have main : ∀ k i : Nat, who.length ≤ i → 3000 < k → laws_FnVotes.l0 k l who (i : Int) v.f0 v.f1 v.f2 v.f3 v.f4 (addB l v).1 (addB l v).2.1 (addB l v).2.2 = some true := by
    intro k i hi hk
    obtain ⟨k, rfl⟩ := k_succ hk
    simp only [laws_FnVotes.l0]
    rw [if_neg (by omega)]
    by_cases h : (addB l v).2.2 = 0
    · rw [if_pos h]
      obtain ⟨g1, g2, g3, g4⟩ := addB_again h
      rw [impl_add_eq (by omega) (by omega), spec_votes_eq (by omega)]
      simp only [Option.bind_some]
      rw [if_pos g1, g2]
      simp only [if_true, Bool.false_eq_true, if_false]
      rw [lwVotes_eq (by omega) (by omega)]
      simp only [Option.bind_some, if_true]
      rw [w_id (by omega) (by omega)]
      cases hn : (addB l v).2.1
      · rw [g4 hn, if_neg (by simp; omega)]
        simp
      · rw [g3 hn, if_neg (by simp)]
        rw [if_pos rfl, if_pos (by omega), if_pos (by simp; omega)]
        have e : rd_T32 (l ++ [v]) (l.length : Int) = v := by simp [rd_T32, List.getD]
        rw [e]
        simp
    · rw [if_neg h]
  induction d with
  | zero =>
    intro k i hi h1 hk
    exact main k i (by omega) (by omega)
  | succ d ih =>
    intro k i hi h1 hk
    by_cases hlt : i < who.length
    · obtain ⟨k, rfl⟩ := k_succ hk
      have e1 : rd who (i : Int) = who[i] := by simp [rd, List.getD, hlt]
      have e2 : rd who ((i : Int) - 1) = who[i - 1] := by
        rw [show (i : Int) - 1 = ((i - 1 : Nat) : Int) by omega]
        simp [rd, List.getD, show i - 1 < who.length by omega]
      have hp := List.pairwise_iff_getElem.1 hr (i - 1) i (by omega) hlt (by omega)
      simp only [laws_FnVotes.l0]
      rw [if_pos (by omega), w_id (i := (i : Int) - 1) (by omega) (by omega), if_pos (by omega), if_pos (by omega), if_pos (by omega), e1, e2, if_neg (by omega), w_nat hlt (by omega)]
      exact ih k (i + 1) (by omega) (by omega) (by omega)
    · exact main k i (by omega) (by omega)

theorem proved : SaidFnVotes.Pure := by
  intro x0 x1 _ _
  obtain ⟨K, hK⟩ : ∃ K : Nat, 10000 ≤ K := ⟨10000, Nat.le_refl _⟩
  refine ⟨K + 1 + 1, ?_⟩
  have fin : ∀ b : Bool, (b = false → x0.length ≤ 2000000 ∧ x1.length ≤ 2000000) → laws_FnVotes.j0 (K + 1 + 1) x0 x1 b = some true := by
    intro b hb
    rw [laws_FnVotes.j0]
    cases b with
    | true => rw [if_pos rfl]
    | false =>
      obtain ⟨h0, h1⟩ := hb rfl
      obtain ⟨l, v, e1, hl⟩ := drawAdd_ok h0 (k := K + 1) (by omega)
      obtain ⟨m, u, e2, hm⟩ := drawVoters_ok h1 (k := K + 1) (by omega)
      have hb := addB_len l v
      have hvl := votersB_len m u.f0 u.f1 u.f2 u.f3
      have hvr := votersB_rising m u.f0 u.f1 u.f2 u.f3
      rw [if_neg (by simp), e1]
      simp only [Option.bind_some]
      rw [impl_add_eq (by omega) (by omega), spec_add_eq (by omega) (by omega), e2]
      simp only [Option.bind_some]
      rw [impl_voters_eq (by omega)]
      simp only [Option.bind_some, if_true]
      rw [if_neg (by simp), lwVotes_eq (by omega) (by omega)]
      simp only [Option.bind_some, if_true]
      rw [spec_voters_eq (by omega)]
      simp only [Option.bind_some]
      rw [lwNums_eq (by omega) (by omega)]
      simp only [Option.bind_some, if_true]
      unfold impl_VotesRight.f
      rw [impl_votes_eq (by omega), spec_votes_eq (by omega)]
      simp only [Option.bind_some]
      rw [laws_FnVotes.j1, if_neg (by simp)]
      exact law_l0 hl hvl hvr (votersB m u.f0 u.f1 u.f2 u.f3).length K 1 (by omega) (by omega) (by omega)
  unfold laws_FnVotes.f
  by_cases h0 : (x0.length : Int) > 1048576
  · rw [if_pos h0]
    exact fin true (by simp)
  · rw [if_neg h0]
    exact fin _ fun h => ⟨by omega, by have := of_decide_eq_false h; omega⟩

end Go.Proofs.Ytjnlopoajcpclaa.X.PureFnVotes
