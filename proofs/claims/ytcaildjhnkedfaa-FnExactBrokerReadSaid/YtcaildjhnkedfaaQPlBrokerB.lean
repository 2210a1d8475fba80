/- What BrokerBytes answers, by the reference. -/
import Derived.Test.YtcaildjhnkedfaaQx3
import Derived.Test.YtcaildjhnkedfaaQPlBrokerR
import Derived.Test.YtcaildjhnkedfaaQPlTextS
namespace Go.Proofs.Ytcaildjhnkedfaa.Q.BB
open Go.RowKit Go.Proofs.YtcaildjhnkedfaaW.PrintWords Go.Proofs.YtcaildjhnkedfaaW.PrintLast Go.Proofs.Ytcaildjhnkedfaa.Q Go.Proofs.Ytcaildjhnkedfaa.HB
set_option linter.unusedVariables false
set_option linter.unusedSimpArgs false

theorem ob {α β : Type} (a : α) (f : α → Option β) : (some a).bind f = f a := of_eq_true (eq_self _)
def heldT (l : List ByteArray) (s : ByteArray) : ByteArray := l.foldl (fun s x => s ++ textT x) s
def grT (l : List GT) (s : ByteArray) : ByteArray := l.foldl (fun s g => s ++ (textT g.f0 ++ numT g.f1)) s
def headT (t : TI) : ByteArray := textT t.f0 ++ (numT t.f1 ++ numT (t.f2.length : Int))
def topT (t : TI) (s : ByteArray) : ByteArray := grT t.f3 (heldT t.f2 (s ++ headT t) ++ numT (t.f3.length : Int))
def topsT (l : List TI) (s : ByteArray) : ByteArray := l.foldl (fun s t => topT t s) s
def repsT (l : List RI) (s : ByteArray) : ByteArray := l.foldl (fun s r => s ++ ((numT r.f0 ++ numT r.f1) ++ textT r.f2)) s
def goodG (g : GT) : Prop := g.f0.size ≤ 20 ∧ 0 ≤ g.f1 ∧ g.f1 ≤ 1000000000
def goodT (t : TI) : Prop := t.f0.size ≤ 20 ∧ 0 ≤ t.f1 ∧ t.f1 ≤ 1000000000 ∧ t.f2.length ≤ 20 ∧ (∀ x ∈ t.f2, x.size ≤ 40) ∧ t.f3.length ≤ 4 ∧ ∀ g ∈ t.f3, goodG g
def goodR (r : RI) : Prop := 0 ≤ r.f0 ∧ r.f0 ≤ 9 ∧ 0 ≤ r.f1 ∧ r.f1 ≤ 1000000000 ∧ r.f2.size ≤ 900
theorem tsz {s : ByteArray} {n : Nat} (h : s.size ≤ n) (hn : n ≤ 1000) : (textT s).size ≤ n + 10 := Nat.le_trans (textT_size (by omega)) (by omega)
theorem nsz {n : Int} (h0 : 0 ≤ n) (h1 : n ≤ 1000000000) : (numT n).size ≤ 10 := numT_size (by omega) (by omega)
theorem heldT_size : ∀ (l : List ByteArray) (s : ByteArray), (∀ x ∈ l, x.size ≤ 40) → (heldT l s).size ≤ s.size + 50 * l.length
  | [], s, _ => by simp [heldT]
  | x :: l, s, h => by
    have h1 := tsz (h x (by simp)) (by omega)
    have h2 := heldT_size l (s ++ textT x) (fun y hy => h y (by simp [hy]))
    rw [ByteArray.size_append] at h2
    show (heldT l (s ++ textT x)).size ≤ _
    rw [List.length_cons]
    omega
theorem grT_size : ∀ (l : List GT) (s : ByteArray), (∀ x ∈ l, goodG x) → (grT l s).size ≤ s.size + 40 * l.length
  | [], s, _ => by simp [grT]
  | g :: l, s, h => by
    obtain ⟨h1, h3, h4⟩ := h g (by simp)
    have h1 := tsz h1 (by omega)
    have h3 := nsz h3 h4
    have h2 := grT_size l (s ++ (textT g.f0 ++ numT g.f1)) (fun y hy => h y (by simp [hy]))
    rw [ByteArray.size_append, ByteArray.size_append] at h2
    show (grT l (s ++ (textT g.f0 ++ numT g.f1))).size ≤ _
    rw [List.length_cons]
    omega
theorem headT_size {t : TI} (h : goodT t) : (headT t).size ≤ 50 := by
  obtain ⟨h1, h2, h3, h4, h5, h6, h7⟩ := h
  have a := tsz h1 (by omega)
  have b := nsz h2 h3
  have c := nsz (n := (t.f2.length : Int)) (by omega) (by omega)
  unfold headT
  rw [ByteArray.size_append, ByteArray.size_append]
  omega
theorem topT_size {t : TI} (h : goodT t) (s : ByteArray) : (topT t s).size ≤ s.size + 1300 := by
  have h0 := headT_size h
  obtain ⟨h1, h2, h3, h4, h5, h6, h7⟩ := h
  have c := nsz (n := (t.f3.length : Int)) (by omega) (by omega)
  have d := heldT_size t.f2 (s ++ headT t) h5
  have e := grT_size t.f3 (heldT t.f2 (s ++ headT t) ++ numT (t.f3.length : Int)) h7
  rw [ByteArray.size_append] at d e
  unfold topT
  omega
theorem topsT_size : ∀ (l : List TI) (s : ByteArray), (∀ x ∈ l, goodT x) → (topsT l s).size ≤ s.size + 1300 * l.length
  | [], s, _ => by simp [topsT]
  | t :: l, s, h => by
    have h1 := topT_size (h t (by simp)) s
    have h2 := topsT_size l (topT t s) (fun y hy => h y (by simp [hy]))
    show (topsT l (topT t s)).size ≤ _
    rw [List.length_cons]
    omega
/-- How many rounds the topics want. -/
def fu (l : List TI) : Nat := (l.map fun t => t.f2.length + t.f3.length + 3).sum
theorem fu_cons (t : TI) (l : List TI) : fu (t :: l) = t.f2.length + t.f3.length + 3 + fu l := by simp [fu]
theorem rdS_get {l : List ByteArray} {i : Nat} (h : i < l.length) : rdOf ByteArray.empty l (i : Int) = l[i] := by simp [rdOf, List.getD, h]
theorem rdG_get {l : List GT} {i : Nat} (h : i < l.length) : rd_T61 l (i : Int) = l[i] := by simp [rd_T61, List.getD, h]
theorem rdT_get {l : List TI} {i : Nat} (h : i < l.length) : rd_T44 l (i : Int) = l[i] := by simp [rd_T44, List.getD, h]
theorem rdR_get {l : List RI} {i : Nat} (h : i < l.length) : rd_T48 l (i : Int) = l[i] := by simp [rd_T48, List.getD, h]
section
variable {L : List TI} {R : List RI}
theorem spec_l2 {nm : ByteArray} {b i : Int} {h : List ByteArray} {g : List GT} (hg : ∀ x ∈ g, goodG x) (hl : g.length ≤ 4) : ∀ (d k j : Nat) (s : ByteArray), j + d = g.length → 31 ≤ k → s.size ≤ 1000000 - 40 * d →
    spec_l08Bytes.l2 (k + d + 1) s i (j : Int) L R nm b h g = spec_l08Bytes.l0 k (grT (g.drop j) s) (wrap64 (i + 1)) L R := by
  intro d
  induction d with
  | zero =>
    intro k j s hj hk hs
    rw [spec_l08Bytes.l2, if_neg (by omega), List.drop_of_length_le (by omega)]
    rfl
  | succ d ih =>
    intro k j s hj hk hs
    have hlt : j < g.length := by omega
    obtain ⟨h1, h2, h3⟩ := hg g[j] (List.getElem_mem hlt)
    have a := tsz h1 (by omega)
    have c := nsz h2 h3
    rw [show k + (d + 1) + 1 = (k + d + 1) + 1 by omega, spec_l08Bytes.l2, if_pos (by omega), if_pos (by omega), rdG_get hlt, spec_text_eq (by omega) (by omega), ob, if_pos (by omega), spec_num_eq (by omega) (by omega) (by omega), ob,
      if_pos (by rw [ByteArray.size_append]; omega), w_nat hlt (by omega), ih k (j + 1) _ (by omega) hk (by rw [ByteArray.size_append, ByteArray.size_append]; omega), List.drop_eq_getElem_cons hlt, ByteArray.append_assoc]
    rfl
theorem spec_l1 {nm : ByteArray} {b i : Int} {h : List ByteArray} {g : List GT} (hh : ∀ x ∈ h, x.size ≤ 40) (hl : h.length ≤ 20) (hg : g.length ≤ 4) : ∀ (d k j : Nat) (s : ByteArray), j + d = h.length → 31 ≤ k → s.size ≤ 1000000 - 50 * d →
    spec_l08Bytes.l1 (k + d + 1) s i (j : Int) L R nm b h g = spec_l08Bytes.l2 k (heldT (h.drop j) s ++ numT (g.length : Int)) i 0 L R nm b h g := by
  intro d
  induction d with
  | zero =>
    intro k j s hj hk hs
    have c := nsz (n := (g.length : Int)) (by omega) (by omega)
    rw [spec_l08Bytes.l1, if_neg (by omega), spec_num_eq (by omega) (by omega) (by omega), ob, if_pos (by omega), List.drop_of_length_le (by omega)]
    rfl
  | succ d ih =>
    intro k j s hj hk hs
    have hlt : j < h.length := by omega
    have a := tsz (hh h[j] (List.getElem_mem hlt)) (by omega)
    have a0 := hh h[j] (List.getElem_mem hlt)
    rw [show k + (d + 1) + 1 = (k + d + 1) + 1 by omega, spec_l08Bytes.l1, if_pos (by omega), if_pos (by omega), rdS_get hlt, spec_text_eq (by omega) (by omega), ob, if_pos (by omega), w_nat hlt (by omega), ih k (j + 1) _ (by omega) hk (by rw [ByteArray.size_append]; omega), List.drop_eq_getElem_cons hlt]
    rfl
theorem spec_l0 (hL : ∀ t ∈ L, goodT t) (h4 : L.length ≤ 4) (h9 : R.length ≤ 9) : ∀ (d k i : Nat) (s : ByteArray), i + d = L.length → 31 ≤ k → s.size ≤ 10000 - 1300 * d →
    spec_l08Bytes.l0 (k + fu (L.drop i) + 1) s (i : Int) L R = spec_l08Bytes.l3 k (topsT (L.drop i) s ++ numT (R.length : Int)) 0 L R := by
  intro d
  induction d with
  | zero =>
    intro k i s hi hk hs
    have c := nsz (n := (R.length : Int)) (by omega) (by omega)
    rw [spec_l08Bytes.l0, if_neg (by omega), spec_num_eq (by omega) (by omega) (by omega), ob, if_pos (by omega), List.drop_of_length_le (by omega)]
    rfl
  | succ d ih =>
    intro k i s hi hk hs
    have hlt : i < L.length := by omega
    have hgt := hL L[i] (List.getElem_mem hlt)
    have hsz := topT_size hgt s
    have hhd := headT_size hgt
    obtain ⟨h1, h2, h3, h5, h6, h7, h8⟩ := hgt
    have a := tsz h1 (by omega)
    have b := nsz h2 h3
    have c := nsz (n := (L[i].f2.length : Int)) (by omega) (by omega)
    rw [List.drop_eq_getElem_cons hlt, fu_cons, show k + (L[i].f2.length + L[i].f3.length + 3 + fu (L.drop (i + 1))) + 1 = (((k + fu (L.drop (i + 1)) + 1) + L[i].f3.length + 1) + L[i].f2.length + 1) + 1 by omega,
      spec_l08Bytes.l0, if_pos (by omega), if_pos (by omega), rdT_get hlt, spec_text_eq (by omega) (by omega), ob, if_pos (by omega), spec_num_eq (by omega) (by omega) (by omega), ob, if_pos (by rw [ByteArray.size_append]; omega),
      spec_num_eq (by omega) (by omega) (by omega), ob, if_pos (by rw [ByteArray.size_append, ByteArray.size_append]; omega)]
    have e : s ++ textT L[i].f0 ++ numT L[i].f1 ++ numT (L[i].f2.length : Int) = s ++ headT L[i] := by
      unfold headT
      rw [ByteArray.append_assoc, ByteArray.append_assoc]
    have g1 := spec_l1 (L := L) (R := R) (nm := L[i].f0) (b := L[i].f1) (i := (i : Int)) h6 h5 h7 L[i].f2.length ((k + fu (L.drop (i + 1)) + 1) + L[i].f3.length + 1) 0 (s ++ headT L[i]) (by omega) (by omega) (by rw [ByteArray.size_append]; omega)
    have hd := heldT_size L[i].f2 (s ++ headT L[i]) h6
    rw [ByteArray.size_append] at hd
    have c2 := nsz (n := (L[i].f3.length : Int)) (by omega) (by omega)
    have g2 := spec_l2 (L := L) (R := R) (nm := L[i].f0) (b := L[i].f1) (i := (i : Int)) (h := L[i].f2) h8 h7 L[i].f3.length (k + fu (L.drop (i + 1)) + 1) 0 (heldT L[i].f2 (s ++ headT L[i]) ++ numT (L[i].f3.length : Int)) (by omega) (by omega) (by rw [ByteArray.size_append]; omega)
    simp only [Int.natCast_zero, List.drop_zero] at g1 g2
    rw [e, g1, g2, w_nat hlt (by omega)]
    exact ih k (i + 1) _ (by omega) hk (by show (topT L[i] s).size ≤ _; omega)
theorem spec_l3 (hR : ∀ r ∈ R, goodR r) (h9 : R.length ≤ 9) : ∀ (d k j : Nat) (s : ByteArray), j + d = R.length → 31 ≤ k → s.size ≤ 1000000 - 1000 * d →
    spec_l08Bytes.l3 (k + d + 1) s (j : Int) L R = some (repsT (R.drop j) s) := by
  intro d
  induction d with
  | zero =>
    intro k j s hj hk hs
    rw [spec_l08Bytes.l3, if_neg (by omega), List.drop_of_length_le (by omega)]
    rfl
  | succ d ih =>
    intro k j s hj hk hs
    have hlt : j < R.length := by omega
    obtain ⟨h1, h2, h3, h4, h5⟩ := hR R[j] (List.getElem_mem hlt)
    have a := tsz h5 (by omega)
    have b := nsz h1 (by omega)
    have c := nsz h3 h4
    rw [show k + (d + 1) + 1 = (k + d + 1) + 1 by omega, spec_l08Bytes.l3, if_pos (by omega), if_pos (by omega), rdR_get hlt, spec_num_eq (by omega) (by omega) (by omega), ob, if_pos (by omega), spec_num_eq (by omega) (by omega) (by omega), ob,
      if_pos (by rw [ByteArray.size_append]; omega), spec_text_eq (by omega) (by omega), ob, if_pos (by rw [ByteArray.size_append, ByteArray.size_append]; omega), w_nat hlt (by omega),
      ih k (j + 1) _ (by omega) hk (by rw [ByteArray.size_append, ByteArray.size_append, ByteArray.size_append]; omega), List.drop_eq_getElem_cons hlt, ByteArray.append_assoc, ByteArray.append_assoc, ← ByteArray.append_assoc (a := numT R[j].f0)]
    rfl
end
theorem scan_all {step : Nat → Option Bool} : ∀ d i : Nat, scanFrom step true d i = true → (∀ j, step j ≠ some true) → ∀ j, i ≤ j → j < i + d → step j = none := by
  intro d
  induction d with
  | zero => intro i _ _ j h1 h2; omega
  | succ d ih =>
    intro i h hn j h1 h2
    simp only [scanFrom] at h
    cases e : step i with
    | none =>
      rw [e] at h
      by_cases hj : j = i
      · rw [hj, e]
      · exact ih (i + 1) h hn j (by omega) (by omega)
    | some r =>
      rw [e] at h
      exact absurd (by rw [e]; exact congrArg some h) (hn i)
theorem good_topic {t : TI} (h : topicB t.f0 t.f1 t.f2 t.f3 = true) : goodT t := by
  unfold topicB at h
  simp only [Bool.and_eq_true, decide_eq_true_eq] at h
  obtain ⟨h1, h2, h3, h4, h5, h6, h7⟩ := h
  refine ⟨nameB_size h1, h2.1, h2.2, h3, fun x hx => ?_, h4, fun g hg => ?_⟩
  · have := List.all_eq_true.1 h6 x hx
    unfold msgB at this
    exact (of_decide_eq_true this).2
  · obtain ⟨j, hj, rfl⟩ := List.getElem_of_mem hg
    have := scan_all t.f3.length 0 h7 (grStep_ne _ _ _) j (by omega) (by omega)
    simp only [grStep] at this
    rw [rdG_get hj] at this
    by_cases hn : nameB t.f3[j].f0 = true
    · rw [if_pos hn] at this
      have hk : decide (t.f1 ≤ t.f3[j].f1 ∧ t.f3[j].f1 ≤ endB t.f1 t.f2) = true := by
        by_cases hd : decide (t.f1 ≤ t.f3[j].f1 ∧ t.f3[j].f1 ≤ endB t.f1 t.f2) = true
        · exact hd
        · rw [if_neg hd] at this
          split at this
          · cases this
          · split at this <;> cases this
      have hk := of_decide_eq_true hk
      exact ⟨nameB_size hn, by omega, by omega⟩
    · rw [if_neg hn] at this
      cases this
theorem good_broker {L : List TI} {R : List RI} (h : brokerB L R = true) : L.length ≤ 4 ∧ R.length ≤ 9 ∧ (∀ t ∈ L, goodT t) ∧ ∀ r ∈ R, goodR r := by
  unfold brokerB topB repB at h
  simp only [Bool.and_eq_true, decide_eq_true_eq] at h
  obtain ⟨h1, h2, h3, h4⟩ := h
  refine ⟨h1, h2, fun t ht => ?_, fun r hr => ?_⟩
  · obtain ⟨j, hj, rfl⟩ := List.getElem_of_mem ht
    have := scan_all L.length 0 h3 (brStep_ne _) j (by omega) (by omega)
    simp only [brStep] at this
    rw [rdT_get hj] at this
    by_cases hn : topicB L[j].f0 L[j].f1 L[j].f2 L[j].f3 = true
    · exact good_topic hn
    · rw [if_neg hn] at this
      cases this
  · obtain ⟨j, hj, rfl⟩ := List.getElem_of_mem hr
    have := scan_all R.length 0 h4 (rpStep_ne _) j (by omega) (by omega)
    simp only [rpStep] at this
    rw [rdR_get hj] at this
    by_cases a : decide (1 ≤ R[j].f0 ∧ R[j].f0 ≤ 9) = true
    · rw [if_pos a] at this
      by_cases b : decide (1 ≤ R[j].f1 ∧ R[j].f1 ≤ 1000000000) = true
      · rw [if_pos b] at this
        by_cases c : (R[j].f2.size : Int) > 900
        · rw [if_pos c] at this
          cases this
        · have a := of_decide_eq_true a
          have b := of_decide_eq_true b
          exact ⟨by omega, by omega, by omega, by omega, by omega⟩
      · rw [if_neg b] at this
        cases this
    · rw [if_neg a] at this
      cases this
/-- What BrokerBytes answers. -/
def bytesT (L : List TI) (R : List RI) : ByteArray := if brokerB L R = true then repsT R (topsT L (numT (L.length : Int)) ++ numT (R.length : Int)) else ⟨#[]⟩
theorem fu_le {L : List TI} (h : ∀ t ∈ L, goodT t) : fu L ≤ 27 * L.length := by
  induction L with
  | nil => simp [fu]
  | cons t l ih =>
    obtain ⟨_, _, _, h4, _, h6, _⟩ := h t (by simp)
    have := ih fun x hx => h x (by simp [hx])
    rw [fu_cons, List.length_cons]
    omega
theorem spec_bytes {l : List TI} {r : List RI} (hl : l.length ≤ 9223372036854775807) (hr : r.length ≤ 9223372036854775807) (hM : tmI l ≤ 9223372036854775807) {k : Nat} (hk : l.length + (r.length + (tmI l + 1)) + 200 < k) :
    spec_BrokerBytes.f k l r = some (bytesT l r) := by
  unfold spec_BrokerBytes.f bytesT
  rw [spec_broker_eq hl hr hM (by omega), ob]
  by_cases h : brokerB l r = true
  · obtain ⟨h4, h9, hL, hR⟩ := good_broker h
    have hf := fu_le hL
    have c := nsz (n := (l.length : Int)) (by omega) (by omega)
    have c2 := nsz (n := (r.length : Int)) (by omega) (by omega)
    have ht := topsT_size l (numT (l.length : Int)) hL
    rw [if_pos h, if_pos h, spec_l08Bytes.f, spec_num_eq (by omega) (by omega) (by omega), ob]
    obtain ⟨k', rfl⟩ : ∃ m, k = (m + r.length + 1) + fu l + 1 := ⟨k - (r.length + 1 + fu l + 1), by omega⟩
    have g0 := spec_l0 (L := l) (R := r) hL h4 h9 l.length (k' + r.length + 1) 0 (numT (l.length : Int)) (by omega) (by omega) (by omega)
    have g3 := spec_l3 (L := l) (R := r) hR h9 r.length k' 0 (topsT l (numT (l.length : Int)) ++ numT (r.length : Int)) (by omega) (by omega) (by rw [ByteArray.size_append]; omega)
    simp only [Int.natCast_zero, List.drop_zero] at g0 g3
    rw [g0, g3, ob]
  · rw [if_neg h, if_neg h]
end Go.Proofs.Ytcaildjhnkedfaa.Q.BB
