/- Copies, sizes and comparisons of brokers, and what BrokerRight and isBroker answer: one and the same function. -/
import Derived.Test.YtokgloeondfkiaaQx1
import Derived.Test.YtokgloeondfkiaaQx3
import Derived.Test.YtokgloeondfkiaaQx5
import Derived.Test.YtokgloeondfkiaaQx7
import Derived.Test.YtokgloeondfkiaaQx9
import Derived.Test.YtokgloeondfkiaaQPlTopic
namespace Go.Proofs.Ytokgloeondfkiaa.Q
open Go.RowKit Go.Proofs.YtokgloeondfkiaaW.PrintWords Go.Proofs.YtokgloeondfkiaaW.PrintLast Go.Proofs.Ytokgloeondfkiaa.HB
set_option linter.unusedVariables false
set_option linter.unusedSimpArgs false

abbrev TI := S30
abbrev TL := S62
abbrev RI := S67
abbrev RL := S65
def topicOf (x : TL) : TI := ⟨x.f0, x.f1, x.f2, x.f3.map groupOf⟩
def replyOf (x : RL) : RI := ⟨x.f0, x.f1, x.f2⟩
/-- How many rounds a topic wants. -/
def tmI (l : List TI) : Nat := sup (fun t => t.f0.size + (t.f2.length + (t.f3.length + (nmI t.f3 + 10)))) l
def tmL (l : List TL) : Nat := sup (fun t => t.f0.size + (t.f2.length + (t.f3.length + (nmL t.f3 + 10)))) l
theorem tmI_map (l : List TL) : tmI (l.map topicOf) = tmL l := by
  unfold tmI tmL
  rw [sup_map]
  congr 1
  funext t
  show t.f0.size + (t.f2.length + ((t.f3.map groupOf).length + (nmI (t.f3.map groupOf) + 10))) = _
  rw [nmI_map, List.length_map]
theorem rdTI {l : List TI} {i : Nat} (h : i < l.length) : rd_T30 l (i : Int) ∈ l := mem_getD _ (by simpa using h)
theorem rdTL {l : List TL} {i : Nat} (h : i < l.length) : rd_T62 l (i : Int) ∈ l := mem_getD _ (by simpa using h)
theorem rdRL {l : List RL} {i : Nat} (h : i < l.length) : rd_T65 l (i : Int) ∈ l := mem_getD _ (by simpa using h)
theorem tmIi {l : List TI} {i : Nat} (h : i < l.length) : (rd_T30 l (i : Int)).f0.size + ((rd_T30 l (i : Int)).f2.length + ((rd_T30 l (i : Int)).f3.length + (nmI (rd_T30 l (i : Int)).f3 + 10))) ≤ tmI l :=
  le_sup (fun t : TI => t.f0.size + (t.f2.length + (t.f3.length + (nmI t.f3 + 10)))) (rdTI h)
theorem tmLi {l : List TL} {i : Nat} (h : i < l.length) : (rd_T62 l (i : Int)).f0.size + ((rd_T62 l (i : Int)).f2.length + ((rd_T62 l (i : Int)).f3.length + (nmL (rd_T62 l (i : Int)).f3 + 10))) ≤ tmL l :=
  le_sup (fun t : TL => t.f0.size + (t.f2.length + (t.f3.length + (nmL t.f3 + 10)))) (rdTL h)

def brStep (l : List TI) (i : Nat) : Option Bool :=
  let t := rd_T30 l i
  if topicB t.f0 t.f1 t.f2 t.f3 = true then (if i = 0 then none else if Op.bytesLess (rd_T30 l ((i : Int) - 1)).f0.toList t.f0.toList = true then none else some false) else some false
theorem brStep_ne (l : List TI) (j : Nat) : brStep l j ≠ some true := by
  simp only [brStep]
  split
  · split
    · simp
    · split <;> simp
  · simp
def rpStep (l : List RI) (i : Nat) : Option Bool :=
  let r := rd_T67 l i
  if decide (1 ≤ r.f0 ∧ r.f0 ≤ 9) = true then (if decide (1 ≤ r.f1 ∧ r.f1 ≤ 1000000000) = true then (if (r.f2.size : Int) > 900 then some false else if i = 0 then none else if (rd_T67 l ((i : Int) - 1)).f0 ≥ r.f0 then some false else none) else some false) else some false
theorem rpStep_ne (l : List RI) (j : Nat) : rpStep l j ≠ some true := by
  simp only [rpStep]
  split
  · split
    · split
      · simp
      · split
        · simp
        · split <;> simp
    · simp
  · simp
def repB (r : List RI) : Bool := scanFrom (rpStep r) true r.length 0
def topB (l : List TI) : Bool := scanFrom (brStep l) true l.length 0
def brokerB (l : List TI) (r : List RI) : Bool := decide (l.length ≤ 4) && (decide (r.length ≤ 9) && (topB l && repB r))

theorem spec_rep {l : List TI} {r : List RI} (hr : r.length ≤ 9223372036854775807) {k : Nat} (hk : r.length < k) : spec_BrokerRight.l1 k 0 l r = some (repB r) := by
  unfold repB
  refine scanLoop (n := r.length) (m := 0) (F := fun k i => spec_BrokerRight.l1 k i l r) (fun k => ?_) (fun k i hm hi => ?_) r.length k 0 (by omega) (by omega)
  · simp only [spec_BrokerRight.l1]
    rw [if_neg (by omega)]
  · simp only [spec_BrokerRight.l1, tIs_eq, rpStep]
    rw [if_pos (by omega), if_pos (by omega), w_nat hi hr]
    simp only [Option.bind_some]
    split
    · split
      · split
        · rfl
        · by_cases h0 : i = 0
          · subst h0
            rw [if_neg (by omega), if_pos rfl]
          · rw [if_pos (by omega), if_neg h0, w_id (by omega) (by omega), if_pos (by omega), if_pos (by omega)]
            split <;> rfl
      · rfl
    · rfl
theorem spec_br {l : List TI} {r : List RI} (hl : l.length ≤ 9223372036854775807) (hr : r.length ≤ 9223372036854775807) (hM : tmI l ≤ 9223372036854775807) {k : Nat} (hk : l.length + (r.length + (tmI l + 1)) < k) :
    spec_BrokerRight.l0 k 0 l r = some (topB l && repB r) := by
  obtain ⟨k, rfl⟩ : ∃ m, k = m + (r.length + (tmI l + 1)) := ⟨k - (r.length + (tmI l + 1)), by omega⟩
  have hf := scanLoop (n := l.length) (m := 0) (F := fun k i => spec_BrokerRight.l0 (k + (r.length + (tmI l + 1))) i l r) (step := brStep l) (fin := repB r) (fun k => by
    rw [show k + 1 + (r.length + (tmI l + 1)) = (k + (r.length + (tmI l + 1))) + 1 by omega, spec_BrokerRight.l0]
    rw [if_neg (by omega)]
    exact spec_rep hr (by omega)) (fun k i hm hi => by
    have hb := tmIi hi
    rw [show k + 1 + (r.length + (tmI l + 1)) = (k + (r.length + (tmI l + 1))) + 1 by omega, spec_BrokerRight.l0]
    rw [if_pos (by omega), if_pos (by omega), spec_topic_eq (by omega) (by omega) (by omega) (by omega) (by omega), w_nat hi hl]
    simp only [Option.bind_some, brStep]
    split
    · by_cases h0 : i = 0
      · subst h0
        rw [if_neg (by omega), if_pos rfl]
      · rw [if_pos (by omega), if_neg h0, w_id (by omega) (by omega), if_pos (by omega), if_pos (by omega)]
        split <;> rfl
    · rfl) l.length k 0 (by omega) (by omega)
  refine Eq.trans hf ?_
  rw [scan_fin _ (brStep_ne l)]
  rfl
theorem spec_broker_eq {l : List TI} {r : List RI} (hl : l.length ≤ 9223372036854775807) (hr : r.length ≤ 9223372036854775807) (hM : tmI l ≤ 9223372036854775807) {k : Nat} (hk : l.length + (r.length + (tmI l + 1)) + 1 < k) :
    spec_BrokerRight.f k l r = some (brokerB l r) := by
  obtain ⟨k, rfl⟩ : ∃ m, k = m + 1 := ⟨k - 1, by omega⟩
  unfold spec_BrokerRight.f brokerB
  simp only [spec_BrokerRight.j0]
  rw [spec_br hl hr hM (by omega)]
  by_cases h1 : l.length ≤ 4
  · rw [if_neg (by omega)]
    by_cases h2 : r.length ≤ 9
    · rw [if_neg (by simpa using (by omega : ¬ (r.length : Int) > 9))]
      simp [h1, h2]
    · rw [if_pos (by simpa using (by omega : (r.length : Int) > 9))]
      simp [h2]
  · rw [if_pos (by omega), if_pos trivial]
    simp [h1]
theorem impl_rep {l : List TI} {r : List RI} (hr : r.length ≤ 9223372036854775807) {k : Nat} (hk : r.length < k) : impl_isBroker.l1 k r (r.length : Int) 0 l r = some (repB r && (decide (l.length ≤ 4) && decide (r.length ≤ 9))) := by
  have hf := scanLoop (n := r.length) (m := 0) (F := fun k i => impl_isBroker.l1 k r (r.length : Int) i l r) (step := rpStep r) (fin := decide (l.length ≤ 4) && decide (r.length ≤ 9)) (fun k => by
    simp only [impl_isBroker.l1]
    rw [if_neg (by omega)]
    by_cases h1 : l.length ≤ 4
    · rw [if_pos (by omega)]
      simp only [h1, decide_true, Bool.true_and]
      congr 1
      exact decide_eq_decide.2 (by omega)
    · rw [if_neg (by omega)]
      simp [h1]) (fun k i hm hi => by
    simp only [impl_isBroker.l1, tWithin_eq, rpStep]
    rw [if_pos (by omega), if_pos (by omega), if_pos (by omega), w_nat hi hr]
    simp only [Option.bind_some]
    split
    · by_cases h0 : i = 0
      · subst h0
        rw [if_neg (by omega)]
        split
        · split
          · rfl
          · rw [if_pos rfl]
        · rfl
      · rw [if_pos (by omega), w_id (by omega) (by omega), if_pos (by omega), if_pos (by omega), if_neg h0]
        by_cases hp : (rd_T67 r ((i : Int) - 1)).f0 ≥ (rd_T67 r (i : Int)).f0
        · rw [if_pos hp, if_pos hp]
          have e : (if decide (1 ≤ (rd_T67 r (i : Int)).f1 ∧ (rd_T67 r (i : Int)).f1 ≤ 1000000000) = true then (if ((rd_T67 r (i : Int)).f2.size : Int) > 900 then some false else some false) else some false) = some false := by
            split
            · split <;> rfl
            · rfl
          rw [e]
        · rw [if_neg hp, if_neg hp]
          split
          · split <;> rfl
          · rfl
    · rfl) r.length k 0 (by omega) (by omega)
  refine Eq.trans hf ?_
  rw [scan_fin _ (rpStep_ne r)]
  rfl
theorem impl_broker_eq {l : List TI} {r : List RI} (hl : l.length ≤ 9223372036854775807) (hr : r.length ≤ 9223372036854775807) (hM : tmI l ≤ 9223372036854775807) {k : Nat} (hk : l.length + (r.length + (tmI l + 1)) < k) :
    impl_isBroker.f k l r = some (brokerB l r) := by
  obtain ⟨k, rfl⟩ : ∃ m, k = m + (r.length + (tmI l + 1)) := ⟨k - (r.length + (tmI l + 1)), by omega⟩
  unfold impl_isBroker.f
  have hf := scanLoop (n := l.length) (m := 0) (F := fun k i => impl_isBroker.l0 (k + (r.length + (tmI l + 1))) l (l.length : Int) i l r) (step := brStep l) (fin := repB r && (decide (l.length ≤ 4) && decide (r.length ≤ 9))) (fun k => by
    rw [show k + 1 + (r.length + (tmI l + 1)) = (k + (r.length + (tmI l + 1))) + 1 by omega, impl_isBroker.l0]
    rw [if_neg (by omega)]
    exact impl_rep hr (by omega)) (fun k i hm hi => by
    have hb := tmIi hi
    rw [show k + 1 + (r.length + (tmI l + 1)) = (k + (r.length + (tmI l + 1))) + 1 by omega, impl_isBroker.l0]
    rw [if_pos (by omega), if_pos (by omega), if_pos (by omega), impl_topic_eq (by omega) (by omega) (by omega) (by omega) (by omega), w_nat hi hl]
    simp only [Option.bind_some, brStep]
    split
    · by_cases h0 : i = 0
      · subst h0
        rw [if_neg (by omega), if_pos rfl]
      · rw [if_pos (by omega), if_neg h0, w_id (by omega) (by omega), if_pos (by omega), if_pos (by omega)]
        split <;> rfl
    · rfl) l.length k 0 (by omega) (by omega)
  refine Eq.trans hf ?_
  rw [scan_fin _ (brStep_ne l)]
  unfold brokerB topB
  congr 1
  generalize scanFrom (brStep l) true l.length 0 = x
  cases x <;> cases repB r <;> cases decide (l.length ≤ 4) <;> cases decide (r.length ≤ 9) <;> rfl

theorem toTopicS_eq {l : List TL} (hl : l.length ≤ 1048576) (hM : ∀ x ∈ l, x.f2.length ≤ 1048576 ∧ x.f3.length ≤ 1048576) {k : Nat} (hk : l.length + (tmL l + 1) < k) : laws_toTopicS.f k l = some (l.map topicOf) := by
  unfold laws_toTopicS.f
  rw [if_pos (by omega), if_pos (by omega)]
  refine copyLoop (l := l) (c := topicOf) z62 (m := tmL l + 1) (F := fun k o i => laws_toTopicS.l0 k l o i) (fun k o => ?_) (fun k o i hm hi ho => ?_) l.length k 0 _ (by omega) (by omega) (by simp) (by simp)
  · simp only [laws_toTopicS.l0]
    rw [if_neg (by omega)]
  · have hb := tmLi hi
    have hc := hM _ (rdTL hi)
    simp only [laws_toTopicS.l0]
    rw [if_pos (by omega), if_pos (by omega), toTopic_eq (by omega) (by omega) (by omega), w_nat hi (by omega)]
    simp only [Option.bind_some]
    rw [if_pos (by omega)]
    rfl
theorem toReplyS_eq {l : List RL} (hl : l.length ≤ 1048576) {k : Nat} (hk : l.length < k) : laws_toReplyS.f k l = some (l.map replyOf) := by
  unfold laws_toReplyS.f
  rw [if_pos (by omega), if_pos (by omega)]
  refine copyLoop (l := l) (c := replyOf) z65 (m := 0) (F := fun k o i => laws_toReplyS.l0 k l o i) (fun k o => ?_) (fun k o i hm hi ho => ?_) l.length k 0 _ (by omega) (by omega) (by simp) (by simp)
  · simp only [laws_toReplyS.l0]
    rw [if_neg (by omega)]
  · simp only [laws_toReplyS.l0, laws_toReply.f]
    rw [if_pos (by omega), if_pos (by omega), w_nat hi (by omega)]
    simp only [Option.bind_some]
    rw [if_pos (by omega)]
    rfl
theorem toBroker_eq {l : List TL} {r : List RL} (hl : l.length ≤ 1048576) (hM : ∀ x ∈ l, x.f2.length ≤ 1048576 ∧ x.f3.length ≤ 1048576) (hr : r.length ≤ 1048576) {k : Nat} (hk : l.length + (r.length + (tmL l + 1)) < k) : laws_toBroker.f k l r = some (l.map topicOf, r.map replyOf) := by
  unfold laws_toBroker.f
  rw [toTopicS_eq hl hM (by omega), toReplyS_eq hr (by omega)]
  rfl
theorem eqTopicS_eq {l : List TI} (hl : l.length ≤ 9223372036854775807) (hM : tmI l ≤ 9223372036854775807) {k : Nat} (hk : l.length + (tmI l + 1) < k) : laws_eqTopicS.f k l l = some true := by
  unfold laws_eqTopicS.f
  rw [if_pos rfl]
  refine upLoop (n := l.length) (m := tmI l + 1) (F := fun k i => laws_eqTopicS.l0 k l l i) (fun k => ?_) (fun k i hm hi => ?_) l.length k 0 (by omega) (by omega)
  · simp only [laws_eqTopicS.l0]
    rw [if_neg (by omega)]
  · have hb := tmIi hi
    simp only [laws_eqTopicS.l0]
    rw [if_pos (by omega), if_pos (by omega), if_pos (by omega), eqTopic_eq (by omega) (by omega) (by omega), w_nat hi hl]
    simp
theorem eqReplyS_eq {l : List RI} (hl : l.length ≤ 9223372036854775807) {k : Nat} (hk : l.length < k) : laws_eqReplyS.f k l l = some true := by
  unfold laws_eqReplyS.f
  rw [if_pos rfl]
  refine upLoop (n := l.length) (m := 0) (F := fun k i => laws_eqReplyS.l0 k l l i) (fun k => ?_) (fun k i hm hi => ?_) l.length k 0 (by omega) (by omega)
  · simp only [laws_eqReplyS.l0]
    rw [if_neg (by omega)]
  · simp only [laws_eqReplyS.l0, laws_eqReply.f]
    rw [if_pos (by omega), if_pos (by omega), if_pos (by omega), if_pos trivial, if_pos trivial, if_pos trivial, w_nat hi hl]
    simp
theorem eqBroker_eq {l : List TI} {r : List RI} (hl : l.length ≤ 9223372036854775807) (hr : r.length ≤ 9223372036854775807) (hM : tmI l ≤ 9223372036854775807) {k : Nat} (hk : l.length + (r.length + (tmI l + 1)) < k) : laws_eqBroker.f k l r l r = some true := by
  unfold laws_eqBroker.f
  rw [eqTopicS_eq hl hM (by omega), eqReplyS_eq hr (by omega)]
  rfl

/-- What a reading gives of a topic and of a reply. -/
def okT (x : TL) : Prop := x.f0.size ≤ 9223372036854775807 ∧ x.f2.length ≤ 9223372036854775807 ∧ x.f3.length ≤ 9223372036854775807 ∧ (∀ y ∈ x.f2, y.size ≤ 9223372036854775807) ∧ (∀ y ∈ x.f3, y.f0.size ≤ 9223372036854775807)
def smT (x : TL) : Prop := x.f0.size ≤ 1048576 ∧ x.f2.length ≤ 1048576 ∧ x.f3.length ≤ 1048576 ∧ nmL x.f3 ≤ 1048576
theorem szTopic_n {nm : ByteArray} {b n : Int} {h : List ByteArray} {l : List GL} (hn : nm.size ≤ 9223372036854775807) (hh : h.length ≤ 9223372036854775807) (hl : l.length ≤ 9223372036854775807)
    (hw : ∀ x ∈ h, x.size ≤ 9223372036854775807) (hg : ∀ x ∈ l, x.f0.size ≤ 9223372036854775807) (h0 : 0 ≤ n) (h1 : n ≤ 1048576) {k : Nat} (hk : h.length + l.length < k) :
    ∃ r, laws_szTopic.f k nm b h l n = some r ∧ r ≤ n ∧ -1 ≤ r ∧ (0 ≤ r → nm.size ≤ 1048576 ∧ h.length ≤ 1048576 ∧ l.length ≤ 1048576 ∧ nmL l ≤ 1048576) := by
  unfold laws_szTopic.f laws_szStringS.f
  rw [w_id (by omega) (by omega)]
  split
  · exact ⟨-1, rfl, by omega, by omega, fun h => by omega⟩
  · rw [w_id (by omega) (by omega)]
    split
    · exact ⟨-1, rfl, by omega, by omega, fun h => by omega⟩
    · obtain ⟨r, hr, h1, h2⟩ := szStringS_l0 h hh hw h.length k 0 (n - nm.size - h.length) (by omega) (by omega) (by omega) (by omega)
      rw [show ((0 : Int)) = ((0 : Nat) : Int) from rfl, hr]
      simp only [Option.bind_some]
      split
      · exact ⟨-1, rfl, by omega, by omega, fun h => by omega⟩
      · unfold laws_szGroupS.f
        rw [w_id (by omega) (by omega)]
        split
        · exact ⟨-1, rfl, by omega, by omega, fun h => by omega⟩
        · obtain ⟨r2, hr2, g1, g2, g3⟩ := szGroupS_l0 l hl hg l.length k 0 (r - l.length) (by omega) (by omega) (by omega) (by omega)
          rw [show ((0 : Int)) = ((0 : Nat) : Int) from rfl, hr2]
          simp only [Option.bind_some]
          split
          · exact ⟨-1, rfl, by omega, by omega, fun h => by omega⟩
          · exact ⟨r2, rfl, by omega, by omega, fun h => ⟨by omega, by omega, by omega, sup_le' fun x hx => g3 h x (by simpa using hx)⟩⟩
theorem szTopicS_l0 (l : List TL) (hl : l.length ≤ 9223372036854775807) (hw : ∀ x ∈ l, okT x) (d : Nat) : ∀ (k i : Nat) (n : Int), i + d = l.length → d + tmL l < k → 0 ≤ n → n ≤ 1048576 →
    ∃ r, laws_szTopicS.l0 k l n (i : Int) = some r ∧ r ≤ n ∧ -1 ≤ r ∧ (0 ≤ r → ∀ x ∈ l.drop i, smT x) := by
  induction d with
  | zero =>
    intro k i n hi hk h0 hn
    obtain ⟨k, rfl⟩ : ∃ m, k = m + 1 := ⟨k - 1, by omega⟩
    simp only [laws_szTopicS.l0]
    rw [if_neg (by omega)]
    exact ⟨n, rfl, by omega, by omega, fun _ x hx => by rw [List.drop_of_length_le (by omega)] at hx; simp at hx⟩
  | succ d ih =>
    intro k i n hi hk h0 hn
    obtain ⟨k, rfl⟩ : ∃ m, k = m + 1 := ⟨k - 1, by omega⟩
    have hlt : i < l.length := by omega
    simp only [laws_szTopicS.l0]
    have hb := tmLi hlt
    obtain ⟨o1, o2, o3, o4, o5⟩ := hw _ (rdTL hlt)
    obtain ⟨r, hr, h1, h2, h3⟩ := szTopic_n (b := (rd_T62 l (i : Int)).f1) o1 o2 o3 o4 o5 h0 hn (k := k) (by omega)
    rw [if_pos (by omega), if_pos (by omega), hr, w_nat hlt hl]
    simp only [Option.bind_some]
    split
    · exact ⟨-1, rfl, by omega, by omega, fun h => by omega⟩
    · have h4 := h3 (by omega)
      obtain ⟨r', hr', h5, h6, h7⟩ := ih k (i + 1) r (by omega) (by omega) (by omega) (by omega)
      refine ⟨r', hr', by omega, h6, fun h x hx => ?_⟩
      rw [List.drop_eq_getElem_cons hlt] at hx
      rcases List.mem_cons.1 hx with rfl | hx
      · have e : rd_T62 l (i : Int) = l[i] := by simp [rd_T62, List.getD, hlt]
        rw [e] at h4
        exact h4
      · exact h7 h x hx
theorem szReplyS_l0 (l : List RL) (hl : l.length ≤ 9223372036854775807) (hw : ∀ x ∈ l, x.f2.size ≤ 9223372036854775807) (d : Nat) : ∀ (k i : Nat) (n : Int), i + d = l.length → d < k → 0 ≤ n → n ≤ 1048576 →
    ∃ r, laws_szReplyS.l0 k l n (i : Int) = some r ∧ r ≤ n ∧ -1 ≤ r := by
  induction d with
  | zero =>
    intro k i n hi hk h0 hn
    obtain ⟨k, rfl⟩ := k_succ hk
    simp only [laws_szReplyS.l0]
    rw [if_neg (by omega)]
    exact ⟨n, rfl, by omega, by omega⟩
  | succ d ih =>
    intro k i n hi hk h0 hn
    obtain ⟨k, rfl⟩ := k_succ hk
    have hlt : i < l.length := by omega
    simp only [laws_szReplyS.l0, laws_szReply.f]
    have ho := hw _ (rdRL hlt)
    rw [if_pos (by omega), if_pos (by omega), w_id (by omega) (by omega), w_nat hlt hl]
    by_cases hneg : n - ((rd_T65 l (i : Int)).f2.size : Int) < 0
    · rw [if_pos hneg]
      simp only [Option.bind_some]
      rw [if_pos (by omega)]
      exact ⟨-1, rfl, by omega, by omega⟩
    · rw [if_neg hneg]
      simp only [Option.bind_some]
      rw [if_neg hneg]
      obtain ⟨r', hr', h5, h6⟩ := ih k (i + 1) (n - (rd_T65 l (i : Int)).f2.size) (by omega) (by omega) (by omega) (by omega)
      exact ⟨r', hr', by omega, h6⟩
theorem szBroker_eq {l : List TL} {r : List RL} (hl : l.length ≤ 9223372036854775807) (hw : ∀ x ∈ l, okT x) (hr : r.length ≤ 9223372036854775807) (hv : ∀ x ∈ r, x.f2.size ≤ 9223372036854775807) {k : Nat} (hk : l.length + (r.length + (tmL l + 1)) < k) :
    ∃ s, laws_szBroker.f k l r 1048576 = some s ∧ s ≤ 1048576 ∧ -1 ≤ s ∧ (0 ≤ s → l.length ≤ 1048576 ∧ r.length ≤ 1048576 ∧ ∀ x ∈ l, smT x) := by
  unfold laws_szBroker.f laws_szTopicS.f
  rw [w_id (by omega) (by omega)]
  by_cases h : (1048576 : Int) - (l.length : Int) < 0
  · rw [if_pos h]
    simp only [Option.bind_some]
    rw [if_pos (by omega)]
    exact ⟨-1, rfl, by omega, by omega, fun h => by omega⟩
  · rw [if_neg h]
    obtain ⟨s, hs, h1, h2, h3⟩ := szTopicS_l0 l hl hw l.length k 0 (1048576 - l.length) (by omega) (by omega) (by omega) (by omega)
    rw [show ((0 : Int)) = ((0 : Nat) : Int) from rfl, hs]
    simp only [Option.bind_some]
    split
    · exact ⟨-1, rfl, by omega, by omega, fun h => by omega⟩
    · unfold laws_szReplyS.f
      rw [w_id (by omega) (by omega)]
      by_cases g : s - (r.length : Int) < 0
      · rw [if_pos g]
        simp only [Option.bind_some]
        rw [if_pos (by omega)]
        exact ⟨-1, rfl, by omega, by omega, fun h => by omega⟩
      · rw [if_neg g]
        obtain ⟨s2, hs2, g1, g2⟩ := szReplyS_l0 r hr hv r.length k 0 (s - r.length) (by omega) (by omega) (by omega) (by omega)
        rw [show ((0 : Int)) = ((0 : Nat) : Int) from rfl, hs2]
        simp only [Option.bind_some]
        split
        · exact ⟨-1, rfl, by omega, by omega, fun h => by omega⟩
        · exact ⟨s2, rfl, by omega, by omega, fun _ => ⟨by omega, by omega, fun x hx => h3 (by omega) x (by simpa using hx)⟩⟩
theorem tmL_le {l : List TL} (h : ∀ x ∈ l, smT x) : tmL l ≤ 5000000 := sup_le' fun x hx => by
  obtain ⟨a, b, c, d⟩ := h x hx
  show x.f0.size + (x.f2.length + (x.f3.length + (nmL x.f3 + 10))) ≤ 5000000
  omega

end Go.Proofs.Ytokgloeondfkiaa.Q
