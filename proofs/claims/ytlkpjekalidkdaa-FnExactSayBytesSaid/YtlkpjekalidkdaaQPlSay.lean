/- Copies, sizes and comparisons of messages, and what SayRight and isSay answer: one and the same function. -/
import Derived.Test.YtlkpjekalidkdaaQx1
import Derived.Test.YtlkpjekalidkdaaQx4
import Derived.Test.YtlkpjekalidkdaaQx5
import Derived.Test.YtlkpjekalidkdaaQx9
import Derived.Test.YtlkpjekalidkdaaQx12
import Derived.Test.YtlkpjekalidkdaaQPlChange
namespace Go.Proofs.Ytlkpjekalidkdaa.Q
open Go.RowKit Go.Proofs.YtlkpjekalidkdaaW.PrintWords Go.Proofs.YtlkpjekalidkdaaW.PrintLast
set_option linter.unusedVariables false
set_option linter.unusedSimpArgs false

abbrev CL := S48
abbrev CI := S41
def changeOf (x : CL) : CI := ⟨x.f0, x.f1, x.f2.map proofOf⟩
def mI (l : List CI) : Nat := sup (fun c => c.f2.length + byMax c.f2 + 4) l
def mL (l : List CL) : Nat := sup (fun c => c.f2.length + byMaxL c.f2 + 4) l
theorem mI_map (l : List CL) : mI (l.map changeOf) = mL l := by
  unfold mI mL
  rw [sup_map]
  congr 1
  funext x
  simp [changeOf, byMax_map]
theorem rdCI {l : List CI} {i : Nat} (h : i < l.length) : rd_T41 l (i : Int) ∈ l := mem_getD _ (by simpa using h)
theorem rdCL {l : List CL} {i : Nat} (h : i < l.length) : rd_T48 l (i : Int) ∈ l := mem_getD _ (by simpa using h)
theorem mIi {l : List CI} {i : Nat} (h : i < l.length) : (rd_T41 l (i : Int)).f2.length + byMax (rd_T41 l (i : Int)).f2 + 4 ≤ mI l := le_sup (fun c : CI => c.f2.length + byMax c.f2 + 4) (rdCI h)
theorem mLi {l : List CL} {i : Nat} (h : i < l.length) : (rd_T48 l (i : Int)).f2.length + byMaxL (rd_T48 l (i : Int)).f2 + 4 ≤ mL l := le_sup (fun c : CL => c.f2.length + byMaxL c.f2 + 4) (rdCL h)

abbrev chB (c : CI) : Bool := changeB c.f0 c.f1 c.f2
/-- One round of the check of the changes. -/
def sayStep (v : Int) (l : List CI) (i : Nat) : Option Bool :=
  let c := rd_T41 l i
  if chB c = true then (if c.f1 = v then (if i = 0 then none else if (rd_T41 l ((i : Int) - 1)).f0 ≥ c.f0 then some false else none) else some false) else some false
theorem sayStep_ne (v : Int) (l : List CI) (j : Nat) : sayStep v l j ≠ some true := by
  simp only [sayStep]
  split
  · split
    · split
      · simp
      · split <;> simp
    · simp
  · simp
theorem scan_fin {step : Nat → Option Bool} (hs : ∀ j, step j ≠ some true) (b : Bool) : ∀ d i, scanFrom step b d i = (scanFrom step true d i && b) := by
  intro d
  induction d with
  | zero => intro i; simp [scanFrom]
  | succ d ih =>
    intro i
    simp only [scanFrom]
    cases e : step i with
    | none => exact ih (i + 1)
    | some r =>
      cases r with
      | true => exact absurd e (hs i)
      | false => rfl
theorem scan_none {step : Nat → Option Bool} (hs : ∀ j, step j ≠ some true) : ∀ d i, scanFrom step true d i = true → ∀ j, i ≤ j → j < i + d → step j = none := by
  intro d
  induction d with
  | zero => intro i _ j h1 h2; omega
  | succ d ih =>
    intro i h j h1 h2
    unfold scanFrom at h
    cases e : step i with
    | some r =>
      rw [e] at h
      have : r = true := h
      exact absurd (by rw [e, this]) (hs i)
    | none =>
      rw [e] at h
      by_cases hij : j = i
      · rw [hij, e]
      · exact ih (i + 1) h j (by omega) (by omega)
def chsB (v : Int) (l : List CI) : Bool := scanFrom (sayStep v l) true l.length 0
theorem chsB_step {v : Int} {l : List CI} (h : chsB v l = true) {j : Nat} (hj : j < l.length) :
    chB (rd_T41 l (j : Int)) = true ∧ (rd_T41 l (j : Int)).f1 = v ∧ (j = 0 ∨ (rd_T41 l ((j : Int) - 1)).f0 < (rd_T41 l (j : Int)).f0) := by
  have := scan_none (sayStep_ne v l) _ _ h j (by omega) (by omega)
  simp only [sayStep] at this
  split at this
  · rename_i h1
    split at this
    · rename_i h2
      refine ⟨h1, h2, ?_⟩
      split at this
      · rename_i h3
        exact .inl h3
      · split at this
        · exact absurd this (by simp)
        · rename_i h4
          exact .inr (by omega)
    · exact absurd this (by simp)
  · exact absurd this (by simp)
theorem chsB_le {v : Int} {l : List CI} (h : chsB v l = true) : l.length ≤ 4 := by
  have key : ∀ j : Nat, j < l.length → (j : Int) ≤ (rd_T41 l (j : Int)).f0 := by
    intro j
    induction j with
    | zero =>
      intro hj
      have := (chsB_step h hj).1
      simp only [chB, changeB, whoB, Bool.and_eq_true, decide_eq_true_eq] at this
      exact this.1.1
    | succ j ih =>
      intro hj
      have h1 := ih (by omega)
      rcases (chsB_step h hj).2.2 with h2 | h2
      · omega
      · rw [show ((j + 1 : Nat) : Int) - 1 = (j : Int) by omega] at h2
        omega
  apply Nat.le_of_not_lt
  intro h5
  have h1 := key 4 h5
  have := (chsB_step h h5).1
  simp only [chB, changeB, whoB, Bool.and_eq_true, decide_eq_true_eq] at this
  omega

theorem spec_chs_eq {v : Int} {l : List CI} (hl : l.length ≤ 9223372036854775807) (hM : mI l ≤ 9223372036854775807) {k : Nat} (hk : l.length + (mI l + 4) < k) : spec_l10Changes.f k l v = some (chsB v l && decide (3 ≤ l.length)) := by
  unfold spec_l10Changes.f chsB
  rw [← scan_fin (sayStep_ne v l)]
  refine scanLoop (n := l.length) (m := mI l + 4) (F := fun k i => spec_l10Changes.l0 k l v i) (fun k => ?_) (fun k i hm hi => ?_) l.length k 0 (by omega) (by omega)
  · simp only [spec_l10Changes.l0]
    rw [if_neg (by omega)]
    congr 1
    exact decide_eq_decide.2 (by omega)
  · have hb := mIi hi
    simp only [spec_l10Changes.l0]
    rw [if_pos (by omega), if_pos (by omega), spec_change_eq (by omega) (by omega) (by omega), w_nat hi hl]
    simp only [Option.bind_some, sayStep]
    by_cases hp : changeB (rd_T41 l i).f0 (rd_T41 l i).f1 (rd_T41 l i).f2 = true
    · rw [if_pos hp, if_pos hp]
      by_cases hv : (rd_T41 l i).f1 = v
      · rw [if_pos hv, if_pos hv]
        by_cases h0 : i = 0
        · subst h0
          rw [if_neg (by omega), if_pos rfl]
        · rw [if_pos (by omega), if_neg h0, w_id (by omega) (by omega), if_pos (by omega), if_pos (by omega)]
          split <;> rfl
      · rw [if_neg hv, if_neg hv]
    · rw [if_neg hp, if_neg hp]
def leadB (v : Int) : Int := if v < 0 then 0 else Int.tmod v 4
theorem spec_lead (v : Int) : spec_Leader.f v = some (leadB v) := by unfold spec_Leader.f leadB; split <;> rfl
theorem impl_lead (v : Int) : impl_leader.f v = some (leadB v) := by unfold impl_leader.f leadB; split <;> rfl
/-- What is asked of a message beside its changes' rightness. -/
def tailB (kd fr v sq : Int) (op : ByteArray) (l : List CI) : Bool :=
  if kd = 1 ∨ kd = 2 ∨ kd = 3 then decide (0 ≤ v ∧ v ≤ 7) && (decide (1 ≤ sq ∧ sq ≤ 6) && (decide (op.size ≤ 120) && (decide (l.length = 0) && (decide (kd ≠ 1) || fr == leadB v))))
  else if kd = 4 then decide (1 ≤ v ∧ v ≤ 7) && (decide (sq = 0) && (decide (op.toList = []) && (decide (l.length = 1) && ((rd_T41 l 0).f0 == fr))))
  else if kd = 5 then decide (1 ≤ v ∧ v ≤ 7) && (decide (fr = leadB v) && (decide (sq = 0) && (decide (op.toList = []) && decide (3 ≤ l.length ∧ l.length ≤ 4))))
  else false
def sayB (kd fr v sq : Int) (op : ByteArray) (l : List CI) : Bool := whoB fr && (chsB v l && tailB kd fr v sq op l)

theorem impl_tail {kd fr v sq : Int} {op : ByteArray} {l : List CI} {k : Nat} :
    impl_isSay.j1 (k + 1) kd (decide (kd = 1 ∨ kd = 2 ∨ kd = 3)) kd fr v sq op l = some (tailB kd fr v sq op l) := by
  simp only [impl_isSay.j1, tailB, isView_eq, isSeq_eq, isOp_eq, impl_lead, impl_Change.f, within_eq, Option.bind_some]
  by_cases h : kd = 1 ∨ kd = 2 ∨ kd = 3
  · rw [if_pos (by simpa using h), if_pos h]
    by_cases h1 : 0 ≤ v ∧ v ≤ 7
    · by_cases h2 : 1 ≤ sq ∧ sq ≤ 6
      · by_cases h3 : op.size ≤ 120
        · by_cases h4 : (l.length : Int) = 0
          · have h4' : l.length = 0 := by omega
            by_cases h5 : kd = 1
            · simp [h1, h2, h3, h4', h5]
            · simp [h1, h2, h3, h4', h5]
          · have h4' : ¬ l.length = 0 := by omega
            simp [h1, h2, h3, h4, h4']
        · simp [h1, h2, h3]
      · simp [h1, h2]
    · simp [h1]
  · rw [if_neg (by simpa using h), if_neg h]
    by_cases h4 : kd = 4
    · rw [if_pos h4, if_pos h4]
      by_cases h1 : 1 ≤ v ∧ v ≤ 7
      · by_cases h2 : sq = 0
        · by_cases h3 : op.toList = []
          · by_cases h5 : (l.length : Int) = 1
            · have h5' : l.length = 1 := by omega
              simp [h1, h2, h3, h5']
            · have h5' : ¬ l.length = 1 := by omega
              simp [h1, h2, h3, h5, h5']
          · simp [h1, h2, h3]
        · simp [h1, h2]
      · simp [h1]
    · rw [if_neg h4, if_neg h4]
      by_cases h5 : kd = 5
      · rw [if_pos h5, if_pos h5]
        by_cases h1 : 1 ≤ v ∧ v ≤ 7
        · by_cases h2 : fr = leadB v
          · by_cases h3 : sq = 0
            · by_cases h6 : op.toList = []
              · have : decide (3 ≤ (l.length : Int) ∧ (l.length : Int) ≤ 4) = decide (3 ≤ l.length ∧ l.length ≤ 4) := decide_eq_decide.2 (by omega)
                rw [this]
                simp [h1, h2, h3, h6]
              · simp [h1, h2, h3, h6]
            · simp [h1, h2, h3]
          · simp [h1, h2]
        · simp [h1]
      · rw [if_neg h5, if_neg h5]
theorem impl_say_eq {kd fr v sq : Int} {op : ByteArray} {l : List CI} (hl : l.length ≤ 9223372036854775807) (hM : mI l ≤ 9223372036854775807) {k : Nat} (hk : l.length + (mI l + 4) + 1 < k) :
    impl_isSay.f k kd fr v sq op l = some (sayB kd fr v sq op l) := by
  obtain ⟨k, rfl⟩ := k_succ hk
  unfold impl_isSay.f sayB
  rw [isReplica_eq]
  simp only [Option.bind_some]
  by_cases hw : whoB fr = true
  · rw [if_pos hw, hw, Bool.true_and]
    unfold chsB
    rw [← scan_fin (sayStep_ne v l)]
    refine scanLoop (n := l.length) (m := mI l + 4) (F := fun k i => impl_isSay.l0 (k + 1) l (l.length : Int) i kd fr v sq op l) (fun k => ?_) (fun k i hm hi => ?_) l.length k 0 (by omega) (by omega)
    · rw [impl_isSay.l0]
      rw [if_neg (by omega)]
      have e := impl_tail (kd := kd) (fr := fr) (v := v) (sq := sq) (op := op) (l := l) (k := k)
      by_cases h1 : kd = 1
      · rw [if_pos h1, ← e]
        congr 1
        simp [h1]
      · rw [if_neg h1]
        by_cases h2 : kd = 2
        · rw [if_pos h2, ← e]
          congr 1
          simp [h2]
        · rw [if_neg h2, ← e]
          congr 1
          rw [Bool.eq_iff_iff]
          simp [h1, h2]
    · have hb := mIi hi
      rw [impl_isSay.l0]
      rw [if_pos (by omega), if_pos (by omega), if_pos (by omega), impl_change_eq (by omega) (by omega) (by omega), w_nat hi hl]
      simp only [Option.bind_some, sayStep]
      by_cases hp : changeB (rd_T41 l i).f0 (rd_T41 l i).f1 (rd_T41 l i).f2 = true
      · rw [if_pos hp, if_pos hp]
        by_cases hv : (rd_T41 l i).f1 = v
        · rw [if_pos hv, if_pos hv]
          by_cases h0 : i = 0
          · subst h0
            rw [if_neg (by omega), if_pos rfl]
          · rw [if_pos (by omega), if_neg h0, w_id (by omega) (by omega), if_pos (by omega), if_pos (by omega)]
            split <;> rfl
        · rw [if_neg hv, if_neg hv]
      · rw [if_neg hp, if_neg hp]
  · rw [if_neg hw]
    simp [hw]

theorem spec_tail {kd fr v sq : Int} {op : ByteArray} {l : List CI} (hl : l.length ≤ 9223372036854775807) (hM : mI l ≤ 9223372036854775807) {k : Nat} (hk : l.length + (mI l + 4) < k) (hv : 0 ≤ v ∧ v ≤ 7) :
    spec_SayRight.j1 (k + 1) kd (decide (kd = 1 ∨ kd = 2 ∨ kd = 3)) kd fr v sq op l = some (chsB v l && tailB kd fr v sq op l) := by
  have h7 : ∀ b : Bool, (decide (1 ≤ v ∧ v ≤ 7)) = decide (v ≥ 1) := fun _ => decide_eq_decide.2 (by omega)
  have h7 := h7 true
  simp only [spec_SayRight.j1, tailB, l10Seq_eq, opRight_eq, spec_lead, Option.bind_some]
  rw [spec_chs_eq hl hM hk]
  simp only [Option.bind_some, h7]
  by_cases h : kd = 1 ∨ kd = 2 ∨ kd = 3
  · rw [if_pos (by simpa using h), if_pos h]
    by_cases h4 : (l.length : Int) = 0
    · have h4' : l.length = 0 := by omega
      have hc : chsB v l = true := by unfold chsB; rw [h4']; rfl
      rw [hc]
      by_cases h2 : 1 ≤ sq ∧ sq ≤ 6
      · by_cases h3 : op.size ≤ 120
        · by_cases h5 : kd = 1
          · simp [hv, h2, h3, h4', h5]
          · simp [hv, h2, h3, h4', h5]
        · simp [hv, h2, h3]
      · simp [hv, h2]
    · have h4' : ¬ l.length = 0 := by omega
      by_cases h2 : 1 ≤ sq ∧ sq ≤ 6
      · by_cases h3 : op.size ≤ 120
        · simp [h2, h3, h4, h4']
        · simp [h2, h3]
      · simp [h2]
  · rw [if_neg (by simpa using h), if_neg h]
    by_cases h4 : kd = 4
    · rw [if_pos h4, if_pos h4]
      by_cases h1 : v ≥ 1
      · rw [if_pos h1]
        by_cases h2 : sq = 0
        · rw [if_pos h2]
          by_cases h3 : op.toList = []
          · rw [if_pos h3]
            by_cases h5 : (l.length : Int) = 1
            · have h5' : l.length = 1 := by omega
              have hb : (rd_T41 l 0).f2.length + byMax (rd_T41 l 0).f2 + 4 ≤ mI l := mIi (l := l) (i := 0) (by omega)
              rw [if_pos h5, if_pos (by omega), spec_change_eq (by omega) (by omega) (by omega)]
              have hc : chsB v l = (chB (rd_T41 l 0) && decide ((rd_T41 l 0).f1 = v)) := by
                unfold chsB
                rw [h5']
                simp only [scanFrom, sayStep]
                cases hcb : chB (rd_T41 l 0)
                · simp [hcb]
                · by_cases hv1 : (rd_T41 l 0).f1 = v <;> simp [hcb, hv1]
              have hcb : changeB (rd_T41 l 0).f0 (rd_T41 l 0).f1 (rd_T41 l 0).f2 = chB (rd_T41 l 0) := rfl
              rw [hc, hcb]
              simp only [Option.bind_some]
              cases chB (rd_T41 l 0)
              · simp
              · by_cases hf : (rd_T41 l 0).f0 = fr
                · simp [h1, h2, h3, h5', hf]
                  by_cases hv1 : (rd_T41 l 0).f1 = v <;> simp [hv1]
                · simp [hf]
            · have h5' : ¬ l.length = 1 := by omega
              rw [if_neg h5]
              simp [h5']
          · rw [if_neg h3]
            simp [h3]
        · rw [if_neg h2]
          simp [h2]
      · rw [if_neg h1]
        simp [h1]
    · rw [if_neg h4, if_neg h4]
      by_cases h5 : kd = 5
      · rw [if_pos h5, if_pos h5]
        by_cases h1 : v ≥ 1
        · rw [if_pos h1]
          by_cases h2 : fr = leadB v
          · rw [if_pos h2]
            by_cases h3 : sq = 0
            · rw [if_pos h3]
              by_cases h6 : op.toList = []
              · rw [if_pos h6]
                by_cases hc : chsB v l = true
                · have hle := chsB_le hc
                  have : decide (3 ≤ l.length ∧ l.length ≤ 4) = decide (3 ≤ l.length) := decide_eq_decide.2 (by omega)
                  rw [this, hc]
                  simp [h1, h2, h3, h6]
                · simp [hc]
              · rw [if_neg h6]
                simp [h6]
            · rw [if_neg h3]
              simp [h3]
          · rw [if_neg h2]
            simp [h2]
        · rw [if_neg h1]
          simp [h1]
      · rw [if_neg h5, if_neg h5]
        simp
theorem tail_view {kd fr v sq : Int} {op : ByteArray} {l : List CI} (h : ¬ (0 ≤ v ∧ v ≤ 7)) : tailB kd fr v sq op l = false := by
  have h1 : decide (0 ≤ v ∧ v ≤ 7) = false := decide_eq_false h
  have h2 : decide (1 ≤ v ∧ v ≤ 7) = false := decide_eq_false (by omega)
  unfold tailB
  rw [h1, h2]
  split
  · rfl
  · split
    · rfl
    · split <;> rfl
theorem spec_say_eq {kd fr v sq : Int} {op : ByteArray} {l : List CI} (hl : l.length ≤ 9223372036854775807) (hM : mI l ≤ 9223372036854775807) {k : Nat} (hk : l.length + (mI l + 4) + 2 < k) :
    spec_SayRight.f k kd fr v sq op l = some (sayB kd fr v sq op l) := by
  obtain ⟨k, rfl⟩ := k_succ hk
  obtain ⟨k, rfl⟩ : ∃ m, k = m + 1 := ⟨k - 1, by omega⟩
  unfold spec_SayRight.f sayB
  rw [l09Who_eq, l10View_eq]
  simp only [Option.bind_some]
  by_cases hw : whoB fr = true
  · rw [if_pos hw, hw, Bool.true_and, spec_SayRight.j0]
    by_cases hv : 0 ≤ v ∧ v ≤ 7
    · have h1 : decide (0 ≤ v ∧ v ≤ 7) = true := decide_eq_true hv
      rw [h1, if_neg (by simp)]
      have e := spec_tail (kd := kd) (fr := fr) (v := v) (sq := sq) (op := op) (l := l) hl hM (k := k) (by omega) hv
      by_cases h1 : kd = 1
      · rw [if_pos h1, ← e]
        congr 1
        simp [h1]
      · rw [if_neg h1]
        by_cases h2 : kd = 2
        · rw [if_pos h2, ← e]
          congr 1
          simp [h2]
        · rw [if_neg h2, ← e]
          congr 1
          rw [Bool.eq_iff_iff]
          simp [h1, h2]
    · have h1 : decide (0 ≤ v ∧ v ≤ 7) = false := decide_eq_false hv
      rw [h1, if_pos (by simp), tail_view hv, Bool.and_false]
  · rw [if_neg hw, spec_SayRight.j0, if_pos rfl]
    simp [hw]

/-- What a reading gives of a change. -/
def okC (x : CL) : Prop := x.f2.length ≤ 9223372036854775807 ∧ ∀ p ∈ x.f2, okP p
theorem szChangeS_l0 (l : List CL) (hl : l.length ≤ 9223372036854775807) (hw : ∀ x ∈ l, okC x) (d : Nat) : ∀ (k i : Nat) (n : Int), i + d = l.length → d + mL l < k → 0 ≤ n → n ≤ 1048576 →
    ∃ r, laws_szChangeS.l0 k l n (i : Int) = some r ∧ r ≤ n ∧ -1 ≤ r ∧ (0 ≤ r → ∀ x ∈ l.drop i, x.f2.length ≤ 1048576 ∧ byMaxL x.f2 ≤ 1048576) := by
  induction d with
  | zero =>
    intro k i n hi hk h0 hn
    obtain ⟨k, rfl⟩ := k_succ hk
    simp only [laws_szChangeS.l0]
    rw [if_neg (by omega)]
    exact ⟨n, rfl, by omega, by omega, fun _ x hx => by rw [List.drop_of_length_le (by omega)] at hx; simp at hx⟩
  | succ d ih =>
    intro k i n hi hk h0 hn
    obtain ⟨k, rfl⟩ := k_succ hk
    have hlt : i < l.length := by omega
    have hb := mLi hlt
    simp only [laws_szChangeS.l0]
    have ho := hw _ (rdCL hlt)
    obtain ⟨r, hr, h1, h2, h3⟩ := szChange_eq (f := (rd_T48 l i).f0) (v := (rd_T48 l i).f1) (l := (rd_T48 l i).f2) (n := n) ho.1 ho.2 h0 hn (k := k) (by omega)
    rw [if_pos (by omega), if_pos (by omega), hr, w_nat hlt hl]
    simp only [Option.bind_some]
    split
    · exact ⟨-1, rfl, by omega, by omega, fun h => by omega⟩
    · have h4 := h3 (by omega)
      obtain ⟨r', hr', h5, h6, h7⟩ := ih k (i + 1) r (by omega) (by omega) (by omega) (by omega)
      refine ⟨r', hr', by omega, h6, fun h x hx => ?_⟩
      rw [List.drop_eq_getElem_cons hlt] at hx
      rcases List.mem_cons.1 hx with rfl | hx
      · have e : rd_T48 l (i : Int) = l[i] := by simp [rd_T48, List.getD, hlt]
        rw [e] at h4
        exact h4
      · exact h7 h x hx
theorem szSay_eq {kd fr v sq : Int} {op : ByteArray} {l : List CL} (hop : op.size ≤ 9223372036854775807) (hl : l.length ≤ 9223372036854775807) (hw : ∀ x ∈ l, okC x) {k : Nat} (hk : l.length + mL l < k) :
    ∃ r, laws_szSay.f k kd fr v sq op l 1048576 = some r ∧ (0 ≤ r → l.length ≤ 1048576 ∧ mL l ≤ 3000000) := by
  unfold laws_szSay.f
  rw [w_id (by omega) (by omega)]
  split
  · exact ⟨-1, rfl, fun h => by omega⟩
  · unfold laws_szChangeS.f
    rw [w_id (by omega) (by omega)]
    split
    · exact ⟨-1, rfl, fun h => by omega⟩
    · obtain ⟨r, hr, h1, h2, h3⟩ := szChangeS_l0 l hl hw l.length k 0 (1048576 - op.size - l.length) (by omega) hk (by omega) (by omega)
      rw [show ((0 : Int)) = ((0 : Nat) : Int) from rfl, hr]
      simp only [Option.bind_some]
      split
      · exact ⟨-1, rfl, fun h => by omega⟩
      · refine ⟨r, rfl, fun h => ⟨by omega, sup_le fun x hx => ?_⟩⟩
        have := h3 h x (by simpa using hx)
        show x.f2.length + byMaxL x.f2 + 4 ≤ 3000000
        omega
theorem toChangeS_eq {l : List CL} (hl : l.length ≤ 1048576) (hM : mL l ≤ 3000000) {k : Nat} (hk : l.length + (mL l + 1) < k) : laws_toChangeS.f k l = some (l.map changeOf) := by
  unfold laws_toChangeS.f
  rw [if_pos (by omega), if_pos (by omega)]
  refine copyLoop (l := l) (c := changeOf) z48 (m := mL l + 1) (F := fun k o i => laws_toChangeS.l0 k l o i) (fun k o => ?_) (fun k o i hm hi ho => ?_) l.length k 0 _ (by omega) (by omega) (by simp) (by simp)
  · simp only [laws_toChangeS.l0]
    rw [if_neg (by omega)]
  · have hb := mLi hi
    simp only [laws_toChangeS.l0]
    rw [if_pos (by omega), if_pos (by omega), toChange_eq (by omega) (by omega) (by omega), w_nat hi (by omega)]
    simp only [Option.bind_some]
    rw [if_pos (by omega)]
    rfl
theorem toSay_eq {kd fr v sq : Int} {op : ByteArray} {l : List CL} (hl : l.length ≤ 1048576) (hM : mL l ≤ 3000000) {k : Nat} (hk : l.length + (mL l + 1) < k) : laws_toSay.f k kd fr v sq op l = some (kd, fr, v, sq, op, l.map changeOf) := by
  unfold laws_toSay.f
  rw [toChangeS_eq hl hM hk]
  rfl
theorem eqChangeS_eq {l : List CI} (hl : l.length ≤ 9223372036854775807) (hM : mI l ≤ 9223372036854775807) {k : Nat} (hk : l.length + (mI l + 1) < k) : laws_eqChangeS.f k l l = some true := by
  unfold laws_eqChangeS.f
  rw [if_pos rfl]
  refine upLoop (n := l.length) (m := mI l + 1) (F := fun k i => laws_eqChangeS.l0 k l l i) (fun k => ?_) (fun k i hm hi => ?_) l.length k 0 (by omega) (by omega)
  · simp only [laws_eqChangeS.l0]
    rw [if_neg (by omega)]
  · have hb := mIi hi
    simp only [laws_eqChangeS.l0]
    rw [if_pos (by omega), if_pos (by omega), if_pos (by omega), eqChange_eq (by omega) (by omega) (by omega), w_nat hi hl]
    simp
theorem eqSay_eq {kd fr v sq : Int} {op : ByteArray} {l : List CI} (hl : l.length ≤ 9223372036854775807) (hM : mI l ≤ 9223372036854775807) {k : Nat} (hk : l.length + (mI l + 1) < k) : laws_eqSay.f k kd fr v sq op l kd fr v sq op l = some true := by
  unfold laws_eqSay.f
  rw [if_pos rfl, if_pos rfl, if_pos rfl, if_pos rfl, if_pos rfl, eqChangeS_eq hl hM hk]
  rfl

end Go.Proofs.Ytlkpjekalidkdaa.Q
