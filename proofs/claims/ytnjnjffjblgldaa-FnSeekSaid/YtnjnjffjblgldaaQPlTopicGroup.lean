/- The search for a topic's group, and its insertion: the program's answer is the reference's. -/
import Derived.Test.YtnjnjffjblgldaaQx3
import Derived.Test.YtnjnjffjblgldaaQx6
import Derived.Test.YtnjnjffjblgldaaQPlTopicR
namespace Go.Proofs.Ytnjnjffjblgldaa.Q
open Go.RowKit Go.Proofs.YtnjnjffjblgldaaW.PrintWords Go.Proofs.YtnjnjffjblgldaaW.PrintLast Go.Proofs.Ytnjnjffjblgldaa.HB
set_option linter.unusedVariables false
set_option linter.unusedSimpArgs false

theorem scan_allG {step : Nat → Option Bool} : ∀ d i : Nat, scanFrom step true d i = true → (∀ j, step j ≠ some true) → ∀ j, i ≤ j → j < i + d → step j = none := by
  intro d
  induction d with
  | zero => intro i _ _ j h1 h2; omega
  | succ d ih =>
    intro i h hn j h1 h2
    simp only [scanFrom] at h
    cases e : step i with
    | none =>
      rw [e] at h
      by_cases hj : j = i
      · rw [hj, e]
      · exact ih (i + 1) h hn j (by omega) (by omega)
    | some r =>
      rw [e] at h
      exact absurd (by rw [e]; exact congrArg some h) (hn i)
theorem cb_less : ∀ a b : List UInt8, (Lib.compareBytes a b < 0 ↔ Op.bytesLess a b = true) ∧ (Lib.compareBytes a b = 0 ↔ a = b)
  | [], [] => by simp [Lib.compareBytes, Op.bytesLess]
  | [], b :: bs => by simp [Lib.compareBytes, Op.bytesLess]
  | a :: al, [] => by simp [Lib.compareBytes, Op.bytesLess]
  | a :: al, b :: bs => by
    have ih := cb_less al bs
    simp only [Lib.compareBytes, Op.bytesLess]
    by_cases h1 : a < b
    · have h3 : ¬ a = b := by intro e; rw [e, UInt8.lt_iff_toNat_lt] at h1; omega
      simp [h1, h3]
    · by_cases h2 : b < a
      · have h3 : ¬ a = b := by intro e; rw [e, UInt8.lt_iff_toNat_lt] at h2; omega
        simp [h1, h2, h3]
      · have h3 : a = b := by
          rw [UInt8.lt_iff_toNat_lt] at h1 h2
          exact UInt8.toNat_inj.1 (by omega)
        subst h3
        simp only [h1, if_false, decide_false, Bool.false_or, beq_self_eq_true, Bool.true_and, List.cons.injEq, true_and]
        exact ih
theorem cmpB_less (a b : ByteArray) : cmpB a b < 0 ↔ Op.bytesLess a.toList b.toList = true := by
  unfold cmpB
  rw [Lib.toList_data, Lib.toList_data]
  exact (cb_less _ _).1
theorem cmpB_eq (a b : ByteArray) : (cmpB a b == 0) = (a.toList == b.toList) := by
  unfold cmpB
  rw [Lib.toList_data, Lib.toList_data]
  by_cases h : a.data.toList = b.data.toList
  · rw [(cb_less _ _).2.2 h, h]; simp
  · have h2 : (Lib.compareBytes a.data.toList b.data.toList == 0) = false := beq_eq_false_iff_ne.2 fun e => h ((cb_less _ _).2.1 e)
    rw [h2, beq_eq_false_iff_ne.2 h]
theorem bl_trans : ∀ a b c : List UInt8, Op.bytesLess a b = true → Op.bytesLess b c = true → Op.bytesLess a c = true
  | a, [], c, h, _ => by cases a <;> simp [Op.bytesLess] at h
  | a, b :: bs, [], _, h => by simp [Op.bytesLess] at h
  | [], b :: bs, c :: cs, _, _ => by simp [Op.bytesLess]
  | a :: al, b :: bs, c :: cs, h1, h2 => by
    simp only [Op.bytesLess, Bool.or_eq_true, decide_eq_true_eq, Bool.and_eq_true, beq_iff_eq] at h1 h2 ⊢
    rcases h1 with h1 | ⟨rfl, h1⟩
    · rcases h2 with h2 | ⟨rfl, h2⟩
      · left; rw [UInt8.lt_iff_toNat_lt] at h1 h2 ⊢; omega
      · exact .inl h1
    · rcases h2 with h2 | ⟨rfl, h2⟩
      · exact .inl h2
      · exact .inr ⟨rfl, bl_trans al bs cs h1 h2⟩
/-- A group's name is less than the text. -/
def lessG (l : List GT) (x : ByteArray) (j : Nat) : Prop := Op.bytesLess (rd_T55 l (j : Int)).f0.toList x.toList = true
theorem gr_step {b e : Int} {l : List GT} (h : grB b e l = true) {j : Nat} (hj : j < l.length) : nameB (rd_T55 l (j : Int)).f0 = true ∧ (b ≤ (rd_T55 l (j : Int)).f1 ∧ (rd_T55 l (j : Int)).f1 ≤ e) ∧ (j ≠ 0 → Op.bytesLess (rd_T55 l ((j : Int) - 1)).f0.toList (rd_T55 l (j : Int)).f0.toList = true) := by
  have hs := scan_allG _ _ h (grStep_ne b e l) j (Nat.zero_le _) (by omega)
  simp only [grStep] at hs
  by_cases h1 : nameB (rd_T55 l (j : Int)).f0 = true
  · rw [if_pos h1] at hs
    by_cases h0 : j = 0
    · rw [if_pos h0] at hs
      by_cases h2 : decide (b ≤ (rd_T55 l (j : Int)).f1 ∧ (rd_T55 l (j : Int)).f1 ≤ e) = true
      · exact ⟨h1, of_decide_eq_true h2, fun h => absurd h0 h⟩
      · rw [if_neg h2] at hs; cases hs
    · rw [if_neg h0] at hs
      by_cases h3 : Op.bytesLess (rd_T55 l ((j : Int) - 1)).f0.toList (rd_T55 l (j : Int)).f0.toList = true
      · rw [if_pos h3] at hs
        by_cases h2 : decide (b ≤ (rd_T55 l (j : Int)).f1 ∧ (rd_T55 l (j : Int)).f1 ≤ e) = true
        · exact ⟨h1, of_decide_eq_true h2, fun _ => h3⟩
        · rw [if_neg h2] at hs; cases hs
      · rw [if_neg h3] at hs; cases hs
  · rw [if_neg h1] at hs; cases hs
theorem less_mono {b e : Int} {l : List GT} (h : grB b e l = true) (x : ByteArray) {j : Nat} (hj : j < l.length) (hx : lessG l x j) : ∀ d i : Nat, i + d = j → lessG l x i := by
  intro d
  induction d generalizing j with
  | zero => intro i hi; rw [show i = j by omega]; exact hx
  | succ d ih =>
    intro i hi
    have h3 := (gr_step h hj).2.2 (by omega)
    rw [show (j : Int) - 1 = ((j - 1 : Nat) : Int) by omega] at h3
    exact ih (j := j - 1) (by omega) (bl_trans _ _ _ h3 hx) i (by omega)
theorem bsG_spec {l : List GT} {x : ByteArray} (hm : ∀ i j, i ≤ j → j < l.length → lessG l x j → lessG l x i) : ∀ k lo hi : Nat, lo ≤ hi → hi ≤ l.length → hi - lo ≤ k → (∀ t, t < lo → lessG l x t) → (∀ t, hi ≤ t → t < l.length → ¬ lessG l x t) →
    (∀ t, t < bsG l x k lo hi → lessG l x t) ∧ (∀ t, bsG l x k lo hi ≤ t → t < l.length → ¬ lessG l x t)
  | 0, lo, hi, h1, h2, h3, h4, h5 => by
    rw [bsG]
    exact ⟨h4, fun t ht => h5 t (by omega)⟩
  | k + 1, lo, hi, h1, h2, h3, h4, h5 => by
    rw [bsG]
    by_cases hlt : lo < hi
    · rw [if_pos hlt]
      by_cases hc : cmpB (rd_T55 l (((lo + hi) / 2 : Nat) : Int)).f0 x < 0
      · rw [if_pos hc]
        have hl : lessG l x ((lo + hi) / 2) := (cmpB_less _ _).1 hc
        exact bsG_spec hm k _ hi (by omega) h2 (by omega) (fun t ht => hm t ((lo + hi) / 2) (by omega) (by omega) hl) h5
      · rw [if_neg hc]
        have hl : ¬ lessG l x ((lo + hi) / 2) := fun e => hc ((cmpB_less _ _).2 e)
        exact bsG_spec hm k lo _ (by omega) (by omega) (by omega) h4 (fun t h6 h7 h8 => hl (hm _ t h6 h7 h8))
    · rw [if_neg hlt]
      exact ⟨h4, fun t ht => h5 t (by omega)⟩
theorem bsI_spec {b e : Int} {l : List GT} (h : grB b e l = true) (x : ByteArray) : (∀ t, t < bsI l x → lessG l x t) ∧ (∀ t, bsI l x ≤ t → t < l.length → ¬ lessG l x t) :=
  bsG_spec (fun i j hij hj hx => less_mono h x hj hx (j - i) i (by omega)) l.length 0 l.length (Nat.zero_le _) (Nat.le_refl _) (by omega) (fun t ht => absurd ht (Nat.not_lt_zero _)) (fun t h1 h2 => absurd h2 (by omega))
theorem copyG {nm : ByteArray} {b : Int} {h : List ByteArray} {l : List GT} (h2 : h.length ≤ 30) (h3 : l.length ≤ 10) : spec_l07Copy.f nm b h l = some (nm, b, h, l) := by
  unfold spec_l07Copy.f
  rw [tbind, if_pos (by simp; omega), tbind, if_pos (by simp; omega)]
  simp
theorem bsF_pos {l : List GT} {x : ByteArray} (hi : bsI l x < l.length) : bsF l x = ((rd_T55 l (bsI l x : Int)).f0.toList == x.toList) := by
  unfold bsF
  rw [decide_eq_true hi, Bool.true_and, cmpB_eq]
theorem bsF_neg {l : List GT} {x : ByteArray} (hi : ¬ bsI l x < l.length) : bsF l x = false := by
  unfold bsF
  rw [decide_eq_false hi, Bool.false_and]
/-- What the reference's group answers. -/
def placeS (nm : ByteArray) (b : Int) (h : List ByteArray) (l : List GT) (x : ByteArray) : ByteArray × Int × List ByteArray × List GT × Int :=
  if bsF l x = true then (nm, b, h, l, (bsI l x : Int)) else if l.length = 4 then (nm, b, h, l, -1) else (nm, b, h, grpL b l x, (bsI l x : Int))
theorem grp_j2 {nm x : ByteArray} {b : Int} {h : List ByteArray} {l : List GT} (h4 : l.length ≤ 4) {k : Nat} : spec_l07Group.j2 (k + 1) x (bsI l x : Int) (bsF l x) nm b h l nm b h l = some (placeS nm b h l x) := by
  have hle := bsI_le l x
  rw [spec_l07Group.j2]
  unfold placeS
  by_cases hf : bsF l x = true
  · rw [if_pos hf, if_pos hf]
  · rw [if_neg hf, if_neg hf]
    by_cases e4 : l.length = 4
    · rw [if_pos (by omega), if_pos e4]
    · rw [if_neg (by omega), if_neg e4, tbind, if_pos (by omega), if_pos (by omega), tbind, if_pos (by simp; omega), tbind, if_pos (by simp; omega), tbind, tbind, if_pos (by simp; omega)]
      rw [show grpL b l x = l.take (bsI l x) ++ ⟨x, b⟩ :: l.drop (bsI l x) from if_neg hf, tNat]
      simp
theorem spec_place {nm x : ByteArray} {b e : Int} {h : List ByteArray} {l : List GT} (hg : grB b e l = true) (h30 : h.length ≤ 30) (h4 : l.length ≤ 4) {k : Nat} (hk : 10 < k) : spec_l07Group.f k nm b h l x = some (placeS nm b h l x) := by
  have hle := bsI_le l x
  have hsp := bsI_spec hg x
  have go : ∀ d i k : Nat, i + d = bsI l x → d + 3 < k → spec_l07Group.l0 k x (i : Int) nm b h l = some (placeS nm b h l x) := by
    intro d
    induction d with
    | zero =>
      intro i k hi hk
      obtain ⟨k, rfl⟩ : ∃ m, k = m + 1 + 1 + 1 := ⟨k - 3, by omega⟩
      obtain rfl : i = bsI l x := by omega
      have hj : spec_l07Group.j1 (k + 1 + 1) x (bsI l x : Int) nm b h l = some (placeS nm b h l x) := by
        rw [spec_l07Group.j1, copyG h30 (by omega), tbind]
        by_cases hlt : (bsI l x : Int) < (l.length : Int)
        · rw [if_pos hlt, if_pos (by omega), ← bsF_pos (by omega)]
          exact grp_j2 h4
        · have := grp_j2 (nm := nm) (x := x) (b := b) (h := h) (l := l) h4 (k := k)
          rw [bsF_neg (by omega)] at this
          rw [if_neg hlt]
          exact this
      rw [spec_l07Group.l0]
      by_cases hlt : (bsI l x : Int) < (l.length : Int)
      · rw [if_pos hlt, if_pos (by omega), if_neg (show ¬ Op.bytesLess (rd_T55 l (bsI l x : Int)).f0.toList x.toList = true from hsp.2 _ (Nat.le_refl _) (by omega))]
        exact hj
      · rw [if_neg hlt]
        exact hj
    | succ d ih =>
      intro i k hi hk
      obtain ⟨k, rfl⟩ : ∃ m, k = m + 1 := ⟨k - 1, by omega⟩
      rw [spec_l07Group.l0, if_pos (by omega), if_pos (by omega), if_pos (show Op.bytesLess (rd_T55 l (i : Int)).f0.toList x.toList = true from hsp.1 i (by omega)), w_nat (n := l.length) (by omega) (by omega)]
      exact ih (i + 1) k (by omega) (by omega)
  unfold spec_l07Group.f
  exact go (bsI l x) 0 k (by omega) (by omega)
/-- The group that is found or made. -/
theorem rd_grp {b e : Int} {l : List GT} (hg : grB b e l = true) (hbe : b ≤ e) (x : ByteArray) : b ≤ (rd_T55 (grpL b l x) (bsI l x : Int)).f1 ∧ (rd_T55 (grpL b l x) (bsI l x : Int)).f1 ≤ e := by
  have hle := bsI_le l x
  by_cases hf : bsF l x = true
  · rw [show grpL b l x = l from if_pos hf]
    exact (gr_step hg (bsF_lt hf)).2.1
  · rw [show grpL b l x = l.take (bsI l x) ++ ⟨x, b⟩ :: l.drop (bsI l x) from if_neg hf]
    have : rd_T55 (l.take (bsI l x) ++ (⟨x, b⟩ : GT) :: l.drop (bsI l x)) (bsI l x : Int) = ⟨x, b⟩ := by
      unfold rd_T55
      rw [List.getD_eq_getElem?_getD, tNat, List.getElem?_append_right (by rw [List.length_take]; omega)]
      simp
      rw [show bsI l x - min (bsI l x) l.length = 0 by omega]
      rfl
    rw [this]
    exact ⟨Int.le_refl _, hbe⟩
theorem grpL_len4 (b : Int) {l : List GT} {x : ByteArray} (h4 : l.length ≤ 4) (h : bsF l x = true ∨ l.length ≠ 4) : (grpL b l x).length ≤ 4 := by
  have hle := bsI_le l x
  by_cases hf : bsF l x = true
  · rw [show grpL b l x = l from if_pos hf]; exact h4
  · rw [show grpL b l x = l.take (bsI l x) ++ ⟨x, b⟩ :: l.drop (bsI l x) from if_neg hf]
    rcases h with h | h
    · exact absurd h hf
    · simp; omega
theorem nmI_le {l : List GT} (h : ∀ g ∈ l, g.f0.size ≤ 20) : nmI l ≤ 20 := sup_le' h

end Go.Proofs.Ytnjnjffjblgldaa.Q
