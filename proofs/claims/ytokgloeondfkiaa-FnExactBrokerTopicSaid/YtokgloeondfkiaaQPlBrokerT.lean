/- The search for a topic by its name: the program's halving search answers what the reference's search from the front answers. -/
import Derived.Test.YtokgloeondfkiaaQx4
import Derived.Test.YtokgloeondfkiaaQx11
import Derived.Test.YtokgloeondfkiaaQPlBroker
namespace Go.Proofs.Ytokgloeondfkiaa.Q
open Go.RowKit Go.Proofs.YtokgloeondfkiaaW.PrintWords Go.Proofs.YtokgloeondfkiaaW.PrintLast Go.Proofs.Ytokgloeondfkiaa.HB
set_option linter.unusedVariables false
set_option linter.unusedSimpArgs false

theorem scan_allU {step : Nat → Option Bool} : ∀ d i : Nat, scanFrom step true d i = true → (∀ j, step j ≠ some true) → ∀ j, i ≤ j → j < i + d → step j = none := by
  intro d
  induction d with
  | zero => intro i _ _ j h1 h2; omega
  | succ d ih =>
    intro i h hn j h1 h2
    simp only [scanFrom] at h
    cases e : step i with
    | none =>
      rw [e] at h
      by_cases hj : j = i
      · rw [hj, e]
      · exact ih (i + 1) h hn j (by omega) (by omega)
    | some r =>
      rw [e] at h
      exact absurd (by rw [e]; exact congrArg some h) (hn i)
theorem cbU_less : ∀ a b : List UInt8, (Lib.compareBytes a b < 0 ↔ Op.bytesLess a b = true) ∧ (Lib.compareBytes a b = 0 ↔ a = b)
  | [], [] => by simp [Lib.compareBytes, Op.bytesLess]
  | [], b :: bs => by simp [Lib.compareBytes, Op.bytesLess]
  | a :: al, [] => by simp [Lib.compareBytes, Op.bytesLess]
  | a :: al, b :: bs => by
    have ih := cbU_less al bs
    simp only [Lib.compareBytes, Op.bytesLess]
    by_cases h1 : a < b
    · have h3 : ¬ a = b := by intro e; rw [e, UInt8.lt_iff_toNat_lt] at h1; omega
      simp [h1, h3]
    · by_cases h2 : b < a
      · have h3 : ¬ a = b := by intro e; rw [e, UInt8.lt_iff_toNat_lt] at h2; omega
        simp [h1, h2, h3]
      · have h3 : a = b := by
          rw [UInt8.lt_iff_toNat_lt] at h1 h2
          exact UInt8.toNat_inj.1 (by omega)
        subst h3
        simp only [h1, if_false, decide_false, Bool.false_or, beq_self_eq_true, Bool.true_and, List.cons.injEq, true_and]
        exact ih
theorem cmpU_less (a b : ByteArray) : cmpB a b < 0 ↔ Op.bytesLess a.toList b.toList = true := by
  unfold cmpB
  rw [Lib.toList_data, Lib.toList_data]
  exact (cbU_less _ _).1
theorem cmpU_eq (a b : ByteArray) : (cmpB a b == 0) = (a.toList == b.toList) := by
  unfold cmpB
  rw [Lib.toList_data, Lib.toList_data]
  by_cases h : a.data.toList = b.data.toList
  · rw [(cbU_less _ _).2.2 h, h]; simp
  · have h2 : (Lib.compareBytes a.data.toList b.data.toList == 0) = false := beq_eq_false_iff_ne.2 fun e => h ((cbU_less _ _).2.1 e)
    rw [h2, beq_eq_false_iff_ne.2 h]
theorem blU_trans : ∀ a b c : List UInt8, Op.bytesLess a b = true → Op.bytesLess b c = true → Op.bytesLess a c = true
  | a, [], c, h, _ => by cases a <;> simp [Op.bytesLess] at h
  | a, b :: bs, [], _, h => by simp [Op.bytesLess] at h
  | [], b :: bs, c :: cs, _, _ => by simp [Op.bytesLess]
  | a :: al, b :: bs, c :: cs, h1, h2 => by
    simp only [Op.bytesLess, Bool.or_eq_true, decide_eq_true_eq, Bool.and_eq_true, beq_iff_eq] at h1 h2 ⊢
    rcases h1 with h1 | ⟨rfl, h1⟩
    · rcases h2 with h2 | ⟨rfl, h2⟩
      · left; rw [UInt8.lt_iff_toNat_lt] at h1 h2 ⊢; omega
      · exact .inl h1
    · rcases h2 with h2 | ⟨rfl, h2⟩
      · exact .inl h2
      · exact .inr ⟨rfl, blU_trans al bs cs h1 h2⟩
theorem blU_irr : ∀ a : List UInt8, ¬ Op.bytesLess a a = true
  | [] => by simp [Op.bytesLess]
  | a :: al => by
    have := blU_irr al
    simp only [Op.bytesLess, Bool.or_eq_true, decide_eq_true_eq, Bool.and_eq_true, beq_iff_eq, true_and, not_or]
    exact ⟨by rw [UInt8.lt_iff_toNat_lt]; omega, this⟩
/-- A topic's name is less than the text. -/
def lessU (l : List TI) (x : List UInt8) (j : Nat) : Prop := Op.bytesLess (rd_T30 l (j : Int)).f0.toList x = true
theorem br_step {l : List TI} (h : topB l = true) {j : Nat} (hj : j < l.length) : topicB (rd_T30 l (j : Int)).f0 (rd_T30 l (j : Int)).f1 (rd_T30 l (j : Int)).f2 (rd_T30 l (j : Int)).f3 = true ∧ (j ≠ 0 → lessU l (rd_T30 l (j : Int)).f0.toList (j - 1)) := by
  have hs := scan_allU _ _ h (brStep_ne l) j (Nat.zero_le _) (by omega)
  simp only [brStep] at hs
  by_cases h1 : topicB (rd_T30 l (j : Int)).f0 (rd_T30 l (j : Int)).f1 (rd_T30 l (j : Int)).f2 (rd_T30 l (j : Int)).f3 = true
  · rw [if_pos h1] at hs
    refine ⟨h1, fun h0 => ?_⟩
    rw [if_neg h0] at hs
    by_cases h3 : Op.bytesLess (rd_T30 l ((j : Int) - 1)).f0.toList (rd_T30 l (j : Int)).f0.toList = true
    · rw [show (j : Int) - 1 = ((j - 1 : Nat) : Int) by omega] at h3
      exact h3
    · rw [if_neg h3] at hs; cases hs
  · rw [if_neg h1] at hs; cases hs
theorem lessU_mono {l : List TI} (h : topB l = true) (x : List UInt8) {j : Nat} (hj : j < l.length) (hx : lessU l x j) : ∀ d i : Nat, i + d = j → lessU l x i := by
  intro d
  induction d generalizing j with
  | zero => intro i hi; rw [show i = j by omega]; exact hx
  | succ d ih =>
    intro i hi
    exact ih (j := j - 1) (by omega) (blU_trans _ _ _ ((br_step h hj).2 (by omega)) hx) i (by omega)
theorem bsU_spec {l : List TI} {x : ByteArray} (hm : ∀ i j, i ≤ j → j < l.length → lessU l x.toList j → lessU l x.toList i) : ∀ k lo hi : Nat, lo ≤ hi → hi ≤ l.length → hi - lo ≤ k → (∀ t, t < lo → lessU l x.toList t) → (∀ t, hi ≤ t → t < l.length → ¬ lessU l x.toList t) →
    (∀ t, t < bsU l x k lo hi → lessU l x.toList t) ∧ (∀ t, bsU l x k lo hi ≤ t → t < l.length → ¬ lessU l x.toList t)
  | 0, lo, hi, h1, h2, h3, h4, h5 => by
    rw [bsU]
    exact ⟨h4, fun t ht => h5 t (by omega)⟩
  | k + 1, lo, hi, h1, h2, h3, h4, h5 => by
    rw [bsU]
    by_cases hlt : lo < hi
    · rw [if_pos hlt]
      by_cases hc : cmpB (rd_T30 l (((lo + hi) / 2 : Nat) : Int)).f0 x < 0
      · rw [if_pos hc]
        have hl : lessU l x.toList ((lo + hi) / 2) := (cmpU_less _ _).1 hc
        exact bsU_spec hm k _ hi (by omega) h2 (by omega) (fun t ht => hm t ((lo + hi) / 2) (by omega) (by omega) hl) h5
      · rw [if_neg hc]
        have hl : ¬ lessU l x.toList ((lo + hi) / 2) := fun e => hc ((cmpU_less _ _).2 e)
        exact bsU_spec hm k lo _ (by omega) (by omega) (by omega) h4 (fun t h6 h7 h8 => hl (hm _ t h6 h7 h8))
    · rw [if_neg hlt]
      exact ⟨h4, fun t ht => h5 t (by omega)⟩
theorem bsT_spec {l : List TI} (h : topB l = true) (x : ByteArray) : (∀ t, t < bsT l x → lessU l x.toList t) ∧ (∀ t, bsT l x ≤ t → t < l.length → ¬ lessU l x.toList t) :=
  bsU_spec (fun i j hij hj hx => lessU_mono h _ hj hx (j - i) i (by omega)) l.length 0 l.length (Nat.zero_le _) (Nat.le_refl _) (by omega) (fun t ht => absurd ht (Nat.not_lt_zero _)) (fun t h1 h2 => absurd h2 (by omega))
def atT (l : List TI) (x : ByteArray) (i : Nat) : Option Int := if (rd_T30 l (i : Int)).f0.toList = x.toList then some (i : Int) else none
theorem atT_cases (l : List TI) (x : ByteArray) : ∀ d i : Nat, i + d = l.length → (scanFrom (atT l x) (-1) d i = -1 ∧ ∀ j, i ≤ j → j < l.length → ¬ (rd_T30 l (j : Int)).f0.toList = x.toList) ∨ ∃ j : Nat, j < l.length ∧ scanFrom (atT l x) (-1) d i = (j : Int) ∧ (rd_T30 l (j : Int)).f0.toList = x.toList := by
  intro d
  induction d with
  | zero => intro i hi; exact .inl ⟨rfl, fun j h1 h2 => by omega⟩
  | succ d ih =>
    intro i hi
    by_cases h : (rd_T30 l (i : Int)).f0.toList = x.toList
    · exact .inr ⟨i, by omega, by simp only [scanFrom, atT, if_pos h], h⟩
    · have e1 : scanFrom (atT l x) (-1) (d + 1) i = scanFrom (atT l x) (-1) d (i + 1) := by simp only [scanFrom, atT, if_neg h]
      rw [e1]
      rcases ih (i + 1) (by omega) with ⟨a, b⟩ | h2
      · refine .inl ⟨a, fun j h1 h2 => ?_⟩
        by_cases e : j = i
        · rw [e]; exact h
        · exact b j (by omega) h2
      · exact .inr h2
theorem spec_atT {l : List TI} {r : List RI} {x : ByteArray} (hl : l.length ≤ 9223372036854775807) {k : Nat} (hk : l.length < k) : spec_l08Topic.f k l r x = some (scanFrom (atT l x) (-1) l.length 0) := by
  unfold spec_l08Topic.f
  refine scanLoop (n := l.length) (m := 0) (F := fun k i => spec_l08Topic.l0 k x i l r) (fun k => ?_) (fun k i hm hi => ?_) l.length k 0 (by omega) (by omega)
  · simp only [spec_l08Topic.l0]
    rw [if_neg (by omega)]
  · simp only [spec_l08Topic.l0, atT]
    rw [if_pos (by omega), if_pos (by omega), w_nat hi hl]
    split <;> rfl
theorem bsTF_of {l : List TI} {x : ByteArray} (h : bsTF l x = true) : bsT l x < l.length ∧ (rd_T30 l (bsT l x : Int)).f0.toList = x.toList := by
  unfold bsTF at h
  rw [Bool.and_eq_true, cmpU_eq] at h
  exact ⟨of_decide_eq_true h.1, eq_of_beq h.2⟩
theorem bs_at {l : List TI} (h : topB l = true) (x : ByteArray) : (scanFrom (atT l x) (-1) l.length 0 = -1 ∧ bsTF l x = false) ∨ (scanFrom (atT l x) (-1) l.length 0 = (bsT l x : Int) ∧ bsTF l x = true ∧ bsT l x < l.length) := by
  rcases atT_cases l x l.length 0 (by omega) with ⟨a, b⟩ | ⟨j, hj, a, b⟩
  · refine .inl ⟨a, ?_⟩
    by_cases hf : bsTF l x = true
    · obtain ⟨h1, h2⟩ := bsTF_of hf
      exact absurd h2 (b _ (Nat.zero_le _) h1)
    · exact Bool.eq_false_iff.2 hf
  · obtain ⟨s1, s2⟩ := bsT_spec h x
    have e : j = bsT l x := by
      rcases Nat.lt_trichotomy j (bsT l x) with h1 | h1 | h1
      · have := s1 j h1
        unfold lessU at this
        rw [b] at this
        exact absurd this (blU_irr _)
      · exact h1
      · have h3 := lessU_mono h _ (j := j - 1) (by omega) ((br_step h hj).2 (by omega)) (j - 1 - bsT l x) (bsT l x) (by omega)
        rw [b] at h3
        exact absurd h3 (s2 _ (Nat.le_refl _) (by omega))
    refine .inr ⟨by rw [a, e], ?_, by omega⟩
    unfold bsTF
    rw [decide_eq_true (by omega : bsT l x < l.length), Bool.true_and, cmpU_eq, ← e, b]
    exact beq_self_eq_true _
def noT : ByteArray × Int × List ByteArray × List GT := (⟨#[]⟩, 0, [], [])
def fldT (t : TI) : ByteArray × Int × List ByteArray × List GT := (t.f0, t.f1, t.f2, t.f3)
/-- What BrokerTopic answers. -/
def ansT (l : List TI) (r : List RI) (x : ByteArray) : ByteArray × Int × List ByteArray × List GT :=
  if x.size ≤ 20000 then (if brokerB l r = true then (if bsTF l x = true then fldT (rd_T30 l (bsT l x : Int)) else noT) else noT) else noT
theorem broker_top {l : List TI} {r : List RI} (h : brokerB l r = true) : l.length ≤ 4 ∧ topB l = true := by
  unfold brokerB at h
  simp only [Bool.and_eq_true, decide_eq_true_eq] at h
  exact ⟨h.1, h.2.2.1⟩
theorem topic_small {nm : ByteArray} {b : Int} {h : List ByteArray} {l : List GT} (ht : topicB nm b h l = true) : h.length ≤ 20 ∧ l.length ≤ 4 := by
  unfold topicB at ht
  simp only [Bool.and_eq_true, decide_eq_true_eq] at ht
  exact ⟨ht.2.2.1, ht.2.2.2.1⟩
theorem ansT_small (l : List TI) (r : List RI) (x : ByteArray) : (ansT l r x).2.2.1.length ≤ 20 ∧ (ansT l r x).2.2.2.length ≤ 4 := by
  unfold ansT
  split
  · split
    · rename_i hb
      split
      · rename_i hf
        exact topic_small (br_step (broker_top hb).2 (bsTF_of hf).1).1
      · exact ⟨by simp [noT], by simp [noT]⟩
    · exact ⟨by simp [noT], by simp [noT]⟩
  · exact ⟨by simp [noT], by simp [noT]⟩
theorem copyU {nm : ByteArray} {b : Int} {h : List ByteArray} {l : List GT} (h2 : h.length ≤ 20) (h3 : l.length ≤ 4) : spec_l07Copy.f nm b h l = some (nm, b, h, l) := by
  unfold spec_l07Copy.f
  rw [tbind, if_pos (by simp; omega), tbind, if_pos (by simp; omega)]
  simp
theorem cloneU {nm : ByteArray} {b : Int} {h : List ByteArray} {l : List GT} (h2 : h.length ≤ 20) (h3 : l.length ≤ 4) : impl_cloneTopic.f nm b h l = some (nm, b, h, l) := by
  unfold impl_cloneTopic.f slices_Clone_string_string.f impl_Group.f
  rw [tbind, if_pos (by simp; omega), tbind, tbind, if_pos (by simp; omega), tbind]
  simp
theorem spec_topicT {l : List TI} {r : List RI} {x : ByteArray} (hl : l.length ≤ 9223372036854775807) (hr : r.length ≤ 9223372036854775807) (hM : tmI l ≤ 9223372036854775807) {k : Nat} (hk : l.length + (r.length + (tmI l + 1)) + 1 < k) :
    spec_BrokerTopic.f k l r x = some (ansT l r x) := by
  unfold spec_BrokerTopic.f ansT
  rw [spec_atT hl (by omega), tbind]
  by_cases hx : x.size ≤ 20000
  · rw [if_neg (by omega), if_pos hx]
    by_cases hb : brokerB l r = true
    · obtain ⟨h4, ht⟩ := broker_top hb
      rw [if_pos hb]
      rcases bs_at ht x with ⟨a, b⟩ | ⟨a, b, c⟩
      · rw [a, b, if_pos (by omega), if_neg (by decide)]
        rfl
      · obtain ⟨c1, c2⟩ := topic_small (br_step ht c).1
        rw [a, b, if_neg (by omega), spec_broker_eq hl hr hM hk, tbind, hb, if_pos rfl, if_pos (by omega), if_pos (by omega), copyU c1 c2, tbind, if_pos rfl]
        rfl
    · rw [if_neg hb, spec_broker_eq hl hr hM hk, tbind, if_neg hb]
      split <;> rfl
  · rw [if_pos (by omega), if_neg hx]
    rfl
theorem impl_topicT {l : List TI} {r : List RI} {x : ByteArray} (hl : l.length ≤ 9223372036854775807) (hr : r.length ≤ 9223372036854775807) (hM : tmI l ≤ 9223372036854775807) {k : Nat} (hk : l.length + (r.length + (tmI l + 1)) + 1 < k) :
    impl_BrokerTopic.f k l r x = some (ansT l r x) := by
  unfold impl_BrokerTopic.f ansT
  by_cases hx : x.size ≤ 20000
  · rw [if_pos hx, if_pos hx, impl_broker_eq hl hr hM (by omega), tbind]
    by_cases hb : brokerB l r = true
    · obtain ⟨h4, ht⟩ := broker_top hb
      rw [if_pos hb, if_pos hb, if_pos (by omega)]
      by_cases hf : bsTF l x = true
      · obtain ⟨c1, c2⟩ := topic_small (br_step ht (bsTF_of hf).1).1
        rw [if_pos hf, if_pos hf, cloneU c1 c2]
        rfl
      · rw [if_neg hf, if_neg hf]
        rfl
    · rw [if_neg hb, if_neg hb]
      rfl
  · rw [if_neg hx, if_neg hx]
    rfl
end Go.Proofs.Ytokgloeondfkiaa.Q
