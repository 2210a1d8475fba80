/- What BrokerRight and isBroker answer: one and the same function. -/
import Derived.Test.YtcaildjhnkedfaaQx2
import Derived.Test.YtcaildjhnkedfaaQx8
import Derived.Test.YtcaildjhnkedfaaQPlTopicR
namespace Go.Proofs.Ytcaildjhnkedfaa.Q
open Go.RowKit Go.Proofs.YtcaildjhnkedfaaW.PrintWords Go.Proofs.YtcaildjhnkedfaaW.PrintLast Go.Proofs.Ytcaildjhnkedfaa.HB
set_option linter.unusedVariables false
set_option linter.unusedSimpArgs false

abbrev TI := S44
abbrev RI := S48
/-- How many rounds a topic wants. -/
def tmI (l : List TI) : Nat := sup (fun t => t.f0.size + (t.f2.length + (t.f3.length + (nmI t.f3 + 10)))) l
theorem rdTI {l : List TI} {i : Nat} (h : i < l.length) : rd_T44 l (i : Int) ∈ l := mem_getD _ (by simpa using h)
theorem tmIi {l : List TI} {i : Nat} (h : i < l.length) : (rd_T44 l (i : Int)).f0.size + ((rd_T44 l (i : Int)).f2.length + ((rd_T44 l (i : Int)).f3.length + (nmI (rd_T44 l (i : Int)).f3 + 10))) ≤ tmI l :=
  le_sup (fun t : TI => t.f0.size + (t.f2.length + (t.f3.length + (nmI t.f3 + 10)))) (rdTI h)
def brStep (l : List TI) (i : Nat) : Option Bool :=
  let t := rd_T44 l i
  if topicB t.f0 t.f1 t.f2 t.f3 = true then (if i = 0 then none else if Op.bytesLess (rd_T44 l ((i : Int) - 1)).f0.toList t.f0.toList = true then none else some false) else some false
theorem brStep_ne (l : List TI) (j : Nat) : brStep l j ≠ some true := by
  simp only [brStep]
  split
  · split
    · simp
    · split <;> simp
  · simp
def rpStep (l : List RI) (i : Nat) : Option Bool :=
  let r := rd_T48 l i
  if decide (1 ≤ r.f0 ∧ r.f0 ≤ 9) = true then (if decide (1 ≤ r.f1 ∧ r.f1 ≤ 1000000000) = true then (if (r.f2.size : Int) > 900 then some false else if i = 0 then none else if (rd_T48 l ((i : Int) - 1)).f0 ≥ r.f0 then some false else none) else some false) else some false
theorem rpStep_ne (l : List RI) (j : Nat) : rpStep l j ≠ some true := by
  simp only [rpStep]
  split
  · split
    · split
      · simp
      · split
        · simp
        · split <;> simp
    · simp
  · simp
def repB (r : List RI) : Bool := scanFrom (rpStep r) true r.length 0
def topB (l : List TI) : Bool := scanFrom (brStep l) true l.length 0
def brokerB (l : List TI) (r : List RI) : Bool := decide (l.length ≤ 4) && (decide (r.length ≤ 9) && (topB l && repB r))

theorem spec_rep {l : List TI} {r : List RI} (hr : r.length ≤ 9223372036854775807) {k : Nat} (hk : r.length < k) : spec_BrokerRight.l1 k 0 l r = some (repB r) := by
  unfold repB
  refine scanLoop (n := r.length) (m := 0) (F := fun k i => spec_BrokerRight.l1 k i l r) (fun k => ?_) (fun k i hm hi => ?_) r.length k 0 (by omega) (by omega)
  · simp only [spec_BrokerRight.l1]
    rw [if_neg (by omega)]
  · simp only [spec_BrokerRight.l1, tIs_eq, rpStep]
    rw [if_pos (by omega), if_pos (by omega), w_nat hi hr]
    simp only [Option.bind_some]
    split
    · split
      · split
        · rfl
        · by_cases h0 : i = 0
          · subst h0
            rw [if_neg (by omega), if_pos rfl]
          · rw [if_pos (by omega), if_neg h0, w_id (by omega) (by omega), if_pos (by omega), if_pos (by omega)]
            split <;> rfl
      · rfl
    · rfl
theorem spec_br {l : List TI} {r : List RI} (hl : l.length ≤ 9223372036854775807) (hr : r.length ≤ 9223372036854775807) (hM : tmI l ≤ 9223372036854775807) {k : Nat} (hk : l.length + (r.length + (tmI l + 1)) < k) :
    spec_BrokerRight.l0 k 0 l r = some (topB l && repB r) := by
  obtain ⟨k, rfl⟩ : ∃ m, k = m + (r.length + (tmI l + 1)) := ⟨k - (r.length + (tmI l + 1)), by omega⟩
  have hf := scanLoop (n := l.length) (m := 0) (F := fun k i => spec_BrokerRight.l0 (k + (r.length + (tmI l + 1))) i l r) (step := brStep l) (fin := repB r) (fun k => by
    rw [show k + 1 + (r.length + (tmI l + 1)) = (k + (r.length + (tmI l + 1))) + 1 by omega, spec_BrokerRight.l0]
    rw [if_neg (by omega)]
    exact spec_rep hr (by omega)) (fun k i hm hi => by
    have hb := tmIi hi
    rw [show k + 1 + (r.length + (tmI l + 1)) = (k + (r.length + (tmI l + 1))) + 1 by omega, spec_BrokerRight.l0]
    rw [if_pos (by omega), if_pos (by omega), spec_topic_eq (by omega) (by omega) (by omega) (by omega) (by omega), w_nat hi hl]
    simp only [Option.bind_some, brStep]
    split
    · by_cases h0 : i = 0
      · subst h0
        rw [if_neg (by omega), if_pos rfl]
      · rw [if_pos (by omega), if_neg h0, w_id (by omega) (by omega), if_pos (by omega), if_pos (by omega)]
        split <;> rfl
    · rfl) l.length k 0 (by omega) (by omega)
  refine Eq.trans hf ?_
  rw [scan_fin _ (brStep_ne l)]
  rfl
theorem spec_broker_eq {l : List TI} {r : List RI} (hl : l.length ≤ 9223372036854775807) (hr : r.length ≤ 9223372036854775807) (hM : tmI l ≤ 9223372036854775807) {k : Nat} (hk : l.length + (r.length + (tmI l + 1)) + 1 < k) :
    spec_BrokerRight.f k l r = some (brokerB l r) := by
  obtain ⟨k, rfl⟩ : ∃ m, k = m + 1 := ⟨k - 1, by omega⟩
  unfold spec_BrokerRight.f brokerB
  simp only [spec_BrokerRight.j0]
  rw [spec_br hl hr hM (by omega)]
  by_cases h1 : l.length ≤ 4
  · rw [if_neg (by omega)]
    by_cases h2 : r.length ≤ 9
    · rw [if_neg (by simpa using (by omega : ¬ (r.length : Int) > 9))]
      simp [h1, h2]
    · rw [if_pos (by simpa using (by omega : (r.length : Int) > 9))]
      simp [h2]
  · rw [if_pos (by omega), if_pos trivial]
    simp [h1]
theorem impl_rep {l : List TI} {r : List RI} (hr : r.length ≤ 9223372036854775807) {k : Nat} (hk : r.length < k) : impl_isBroker.l1 k r (r.length : Int) 0 l r = some (repB r && (decide (l.length ≤ 4) && decide (r.length ≤ 9))) := by
  have hf := scanLoop (n := r.length) (m := 0) (F := fun k i => impl_isBroker.l1 k r (r.length : Int) i l r) (step := rpStep r) (fin := decide (l.length ≤ 4) && decide (r.length ≤ 9)) (fun k => by
    simp only [impl_isBroker.l1]
    rw [if_neg (by omega)]
    by_cases h1 : l.length ≤ 4
    · rw [if_pos (by omega)]
      simp only [h1, decide_true, Bool.true_and]
      congr 1
      exact decide_eq_decide.2 (by omega)
    · rw [if_neg (by omega)]
      simp [h1]) (fun k i hm hi => by
    simp only [impl_isBroker.l1, tWithin_eq, rpStep]
    rw [if_pos (by omega), if_pos (by omega), if_pos (by omega), w_nat hi hr]
    simp only [Option.bind_some]
    split
    · by_cases h0 : i = 0
      · subst h0
        rw [if_neg (by omega)]
        split
        · split
          · rfl
          · rw [if_pos rfl]
        · rfl
      · rw [if_pos (by omega), w_id (by omega) (by omega), if_pos (by omega), if_pos (by omega), if_neg h0]
        by_cases hp : (rd_T48 r ((i : Int) - 1)).f0 ≥ (rd_T48 r (i : Int)).f0
        · rw [if_pos hp, if_pos hp]
          have e : (if decide (1 ≤ (rd_T48 r (i : Int)).f1 ∧ (rd_T48 r (i : Int)).f1 ≤ 1000000000) = true then (if ((rd_T48 r (i : Int)).f2.size : Int) > 900 then some false else some false) else some false) = some false := by
            split
            · split <;> rfl
            · rfl
          rw [e]
        · rw [if_neg hp, if_neg hp]
          split
          · split <;> rfl
          · rfl
    · rfl) r.length k 0 (by omega) (by omega)
  refine Eq.trans hf ?_
  rw [scan_fin _ (rpStep_ne r)]
  rfl
theorem impl_broker_eq {l : List TI} {r : List RI} (hl : l.length ≤ 9223372036854775807) (hr : r.length ≤ 9223372036854775807) (hM : tmI l ≤ 9223372036854775807) {k : Nat} (hk : l.length + (r.length + (tmI l + 1)) < k) :
    impl_isBroker.f k l r = some (brokerB l r) := by
  obtain ⟨k, rfl⟩ : ∃ m, k = m + (r.length + (tmI l + 1)) := ⟨k - (r.length + (tmI l + 1)), by omega⟩
  unfold impl_isBroker.f
  have hf := scanLoop (n := l.length) (m := 0) (F := fun k i => impl_isBroker.l0 (k + (r.length + (tmI l + 1))) l (l.length : Int) i l r) (step := brStep l) (fin := repB r && (decide (l.length ≤ 4) && decide (r.length ≤ 9))) (fun k => by
    rw [show k + 1 + (r.length + (tmI l + 1)) = (k + (r.length + (tmI l + 1))) + 1 by omega, impl_isBroker.l0]
    rw [if_neg (by omega)]
    exact impl_rep hr (by omega)) (fun k i hm hi => by
    have hb := tmIi hi
    rw [show k + 1 + (r.length + (tmI l + 1)) = (k + (r.length + (tmI l + 1))) + 1 by omega, impl_isBroker.l0]
    rw [if_pos (by omega), if_pos (by omega), if_pos (by omega), impl_topic_eq (by omega) (by omega) (by omega) (by omega) (by omega), w_nat hi hl]
    simp only [Option.bind_some, brStep]
    split
    · by_cases h0 : i = 0
      · subst h0
        rw [if_neg (by omega), if_pos rfl]
      · rw [if_pos (by omega), if_neg h0, w_id (by omega) (by omega), if_pos (by omega), if_pos (by omega)]
        split <;> rfl
    · rfl) l.length k 0 (by omega) (by omega)
  refine Eq.trans hf ?_
  rw [scan_fin _ (brStep_ne l)]
  unfold brokerB topB
  congr 1
  generalize scanFrom (brStep l) true l.length 0 = x
  cases x <;> cases repB r <;> cases decide (l.length ≤ 4) <;> cases decide (r.length ≤ 9) <;> rfl
end Go.Proofs.Ytcaildjhnkedfaa.Q
