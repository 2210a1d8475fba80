/- The voters for an operation, in the reference and in the program: those of equal kind, view, number and operation, in order. -/
import Derived.Test.YtmfbkkjlijaabaaQx12
import Derived.Test.YtmfbkkjlijaabaaQx14
import Derived.Test.YtmfbkkjlijaabaaQPlVotesA
import Derived.Test.YtmfbkkjlijaabaaQPlSort
namespace Go.Proofs.Ytmfbkkjlijaabaa.Q
open Go.RowKit Go.Proofs.YtmfbkkjlijaabaaW.PrintWords Go.Proofs.YtmfbkkjlijaabaaW.PrintLast Go.Proofs.Ytmfbkkjlijaabaa.HB
set_option linter.unusedVariables false
set_option linter.unusedSimpArgs false

abbrev VT := S67
theorem obind' {α β : Type} (a : α) (f : α → Option β) : (some a).bind f = f a := of_eq_true (eq_self _)
/-- The same Kind, View, Seq and Op. -/
def castB (a b c : Int) (op : ByteArray) (v : VT) : Bool := decide (v.f0 = a) && (decide (v.f1 = b) && (decide (v.f2 = c) && decide (v.f3.toList = op.toList)))
def castF (a b c : Int) (op : ByteArray) (l : List VT) : List Int := (l.filter (castB a b c op)).map (·.f4)

theorem castF_drop (a b c : Int) (op : ByteArray) (l : List VT) (i : Nat) (h : i < l.length) :
    castF a b c op (l.drop i) = (if castB a b c op (rd_T67 l (i : Int)) = true then [(rd_T67 l (i : Int)).f4] else []) ++ castF a b c op (l.drop (i + 1)) := by
  have e : rd_T67 l (i : Int) = l[i] := by simp [rd_T67, List.getD, h]
  rw [e, List.drop_eq_getElem_cons h]
  unfold castF
  rw [List.filter_cons]
  split <;> simp
theorem castF_len (a b c : Int) (op : ByteArray) (l : List VT) : (castF a b c op l).length ≤ l.length := by
  unfold castF
  rw [List.length_map]
  exact List.length_filter_le _ _

theorem spec_voters_l1 (l : List VT) (a b c w : Int) (op : ByteArray) (hl : l.length ≤ 9223372036854775807) (d : Nat) : ∀ (k i : Nat) (acc : List Int), i + d = l.length → acc.length + d ≤ 1000000 →
    spec_l11Voters.l1 (k + d + 1) l a b c op acc w (i : Int) = spec_l11Voters.l0 k l a b c op (acc ++ (castF a b c op (l.drop i)).filter (· == w)) (wrap64 (w + 1)) := by
  induction d with
  | zero =>
    intro k i acc hi _
    simp only [spec_l11Voters.l1]
    rw [if_neg (by omega), List.drop_of_length_le (by omega)]
    simp [castF]
  | succ d ih =>
    intro k i acc hi ha
    have hlt : i < l.length := by omega
    have ih' := fun acc ha => ih k (i + 1) acc (by omega) ha
    clear ih
    rw [show k + (d + 1) + 1 = (k + d + 1) + 1 from rfl, castF_drop a b c op l i hlt]
    generalize k + d + 1 = q at ih' ⊢
    simp only [spec_l11Voters.l1]
    rw [if_pos (by omega), if_pos (by omega), w_nat hlt hl]
    generalize rd_T67 l (i : Int) = v
    rw [ih' acc (by omega)]
    by_cases h4 : v.f4 = w
    · rw [if_pos h4]
      by_cases h0 : v.f0 = a
      · rw [if_pos h0]
        by_cases h1 : v.f1 = b
        · rw [if_pos h1]
          by_cases h2 : v.f2 = c
          · rw [if_pos h2]
            by_cases h3 : v.f3.toList = op.toList
            · rw [if_pos h3, if_pos (by omega), ih' (acc ++ [w]) (by simp; omega)]
              simp [castB, h0, h1, h2, h3, h4]
            · rw [if_neg h3]; simp [castB, h3]
          · rw [if_neg h2]; simp [castB, h2]
        · rw [if_neg h1]; simp [castB, h1]
      · rw [if_neg h0]; simp [castB, h0]
    · rw [if_neg h4]
      by_cases hp : castB a b c op v = true
      · simp [hp, h4]
      · simp [hp]
theorem spec_voters_l0 (l : List VT) (a b c w : Int) (op : ByteArray) (hl : l.length ≤ 9223372036854775807) {k : Nat} {acc : List Int} (hw : 0 ≤ w ∧ w < 4) (ha : acc.length + l.length ≤ 1000000) :
    spec_l11Voters.l0 (k + l.length + 2) l a b c op acc w = spec_l11Voters.l0 k l a b c op (acc ++ (castF a b c op l).filter (· == w)) (w + 1) := by
  have := spec_voters_l1 l a b c w op hl l.length k 0 acc (by omega) ha
  rw [w_id (by omega) (by omega)] at this
  rw [show k + l.length + 2 = (k + l.length + 1) + 1 from rfl]
  generalize k + l.length + 1 = q at this ⊢
  rw [spec_l11Voters.l0]
  rw [if_pos hw.2]
  simpa using this
theorem spec_l11_eq {l : List VT} {a b c : Int} {op : ByteArray} (hl : l.length ≤ 1000) {k : Nat} (hk : 4 * l.length + 10 ≤ k) : spec_l11Voters.f k l a b c op = some (cntSort (castF a b c op l)) := by
  obtain ⟨m, rfl⟩ : ∃ m, k = ((((m + 1) + l.length + 2) + l.length + 2) + l.length + 2) + l.length + 2 := ⟨k - (4 * l.length + 9), by omega⟩
  have h := castF_len a b c op l
  have f : ∀ w : Int, ((castF a b c op l).filter (· == w)).length ≤ l.length := fun w => Nat.le_trans (List.length_filter_le _ _) h
  have f0 := f 0
  have f1 := f 1
  have f2 := f 2
  unfold spec_l11Voters.f
  rw [spec_voters_l0 l a b c 0 op (by omega) (by omega) (by simp; omega), spec_voters_l0 l a b c (0 + 1) op (by omega) (by omega) (by simp at f0 ⊢; omega),
    spec_voters_l0 l a b c (0 + 1 + 1) op (by omega) (by omega) (by simp at f0 f1 ⊢; omega), spec_voters_l0 l a b c (0 + 1 + 1 + 1) op (by omega) (by omega) (by simp at f0 f1 f2 ⊢; omega)]
  simp only [spec_l11Voters.l0]
  rw [if_neg (by omega)]
  simp [cntSort]

theorem impl_voters_l0 (l : List VT) (a b c : Int) (op : ByteArray) (hl : l.length ≤ 9223372036854775807) (d : Nat) : ∀ (k i : Nat) (acc : List Int), i + d = l.length → acc.length + d ≤ 1000000 →
    impl_voters.l0 (k + d + 1) a b c op acc l (l.length : Int) (i : Int) = (slices_Sort_int64_int64.f k (acc ++ castF a b c op (l.drop i))).bind fun t => some t := by
  induction d with
  | zero =>
    intro k i acc hi _
    simp only [impl_voters.l0]
    rw [if_neg (by omega), List.drop_of_length_le (by omega)]
    simp [castF]
  | succ d ih =>
    intro k i acc hi ha
    have hlt : i < l.length := by omega
    have ih' := fun acc ha => ih k (i + 1) acc (by omega) ha
    clear ih
    rw [show k + (d + 1) + 1 = (k + d + 1) + 1 from rfl, castF_drop a b c op l i hlt]
    generalize k + d + 1 = q at ih' ⊢
    simp only [impl_voters.l0]
    rw [if_pos (by omega), if_pos (by omega), if_pos (by omega), w_nat hlt hl]
    generalize rd_T67 l (i : Int) = v
    rw [ih' acc (by omega)]
    by_cases h0 : v.f0 = a
    · rw [if_pos h0]
      by_cases h1 : v.f1 = b
      · rw [if_pos h1]
        by_cases h2 : v.f2 = c
        · rw [if_pos h2]
          by_cases h3 : v.f3.toList = op.toList
          · rw [if_pos h3, if_pos (by omega), ih' (acc ++ [v.f4]) (by simp; omega)]
            simp [castB, h0, h1, h2, h3]
          · rw [if_neg h3]; simp [castB, h3]
        · rw [if_neg h2]; simp [castB, h2]
      · rw [if_neg h1]; simp [castB, h1]
    · rw [if_neg h0]; simp [castB, h0]

theorem scan_true {step : Nat → Option Bool} : ∀ d i : Nat, scanFrom step true d i = true → ∀ j, i ≤ j → j < i + d → (∀ j' , step j' ≠ some true) → step j = none := by
  intro d
  induction d with
  | zero => intro i _ j h1 h2; omega
  | succ d ih =>
    intro i h j h1 h2 hs
    unfold scanFrom at h
    cases e : step i with
    | some r =>
      rw [e] at h
      have : r = true := h
      exact absurd (by rw [e, this]) (hs i)
    | none =>
      rw [e] at h
      by_cases hij : j = i
      · rw [hij, e]
      · exact ih (i + 1) h j (by omega) (by omega) hs
theorem votesB_step {l : List VT} (h : votesB l = true) : l.length ≤ 400 ∧ ∀ i (hi : i < l.length), voteB l[i].f0 l[i].f1 l[i].f2 l[i].f3 l[i].f4 = true ∧ ((l.take i).any fun x => sameB x l[i]) = false := by
  unfold votesB at h
  split at h
  · exact absurd h (by decide)
  · refine ⟨by omega, fun i hi => ?_⟩
    have := scan_true l.length 0 h i (by omega) (by omega) (fun j => by
      simp only [votesStep]
      split
      · split <;> simp
      · simp)
    have e : rd_T67 l (i : Int) = l[i] := by simp [rd_T67, List.getD, hi]
    simp only [votesStep] at this
    rw [e] at this
    split at this
    · rename_i h1
      split at this
      · exact absurd this (by simp)
      · rename_i h2
        exact ⟨h1, by simpa using h2⟩
    · exact absurd this (by simp)
theorem votesB_pair {l : List VT} (h : votesB l = true) : l.Pairwise (fun x y => sameB x y = false) := by
  rw [List.pairwise_iff_getElem]
  intro i j hi hj hij
  have := (votesB_step h).2 j hj
  have h2 := List.any_eq_false.1 this.2 l[i] (List.mem_take_iff_getElem.2 ⟨i, by omega, rfl⟩)
  simpa using h2
theorem castF_ok {l : List VT} (h : votesB l = true) (a b c : Int) (op : ByteArray) : (∀ x ∈ castF a b c op l, 0 ≤ x ∧ x ≤ 3) ∧ (castF a b c op l).Pairwise (· ≠ ·) := by
  constructor
  · intro x hx
    unfold castF at hx
    obtain ⟨v, hv, rfl⟩ := List.mem_map.1 hx
    obtain ⟨i, hi, rfl⟩ := List.getElem_of_mem (List.mem_filter.1 hv).1
    have := ((votesB_step h).2 i hi).1
    simp only [voteB, whoB, Bool.and_eq_true, decide_eq_true_eq] at this
    exact this.2.2.2.2
  · unfold castF
    rw [List.pairwise_map]
    refine ((votesB_pair h).filter _).imp_of_mem ?_
    intro x y hx hy hs e
    have h1 := (List.mem_filter.1 hx).2
    have h2 := (List.mem_filter.1 hy).2
    simp only [castB, Bool.and_eq_true, decide_eq_true_eq] at h1 h2
    have : sameB x y = true := by simp [sameB, h1, h2, e]
    rw [this] at hs
    exact absurd hs (by decide)
end Go.Proofs.Ytmfbkkjlijaabaa.Q
