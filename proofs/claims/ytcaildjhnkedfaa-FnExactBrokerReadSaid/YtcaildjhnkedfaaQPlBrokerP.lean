/- Brokers that are read: what the readers read, part by part, as plain functions; and what the read parts' encodings are. Texts of at most 20000 bytes. -/
import Derived.Test.YtcaildjhnkedfaaQPlReader
import Derived.Test.YtcaildjhnkedfaaQPlBrokerB
namespace Go.Proofs.Ytcaildjhnkedfaa.Q
open Go.RowKit Go.Proofs.YtcaildjhnkedfaaW.PrintWords Go.Proofs.YtcaildjhnkedfaaW.PrintLast Go.Proofs.Ytcaildjhnkedfaa.Q Go.Proofs.Ytcaildjhnkedfaa.Q.BB Go.Proofs.Ytcaildjhnkedfaa.HB
set_option linter.unusedVariables false
set_option linter.unusedSimpArgs false

def heldP (t : ByteArray) : Nat → Int → List ByteArray → Option (List ByteArray × Int)
  | 0, a, H => some (H, a)
  | n + 1, a, H => if wB t a = true then none else heldP t n (wA t a) (H ++ [wV t a])
def grpP (t : ByteArray) : Nat → Int → List GT → Option (List GT × Int)
  | 0, a, G => some (G, a)
  | n + 1, a, G => if wB t a = true then none else if nB t (wA t a) = true then none else grpP t n (nA t (wA t a)) (G ++ [⟨wV t a, nV t (wA t a)⟩])
/-- How many: a number from 0 to a limit. -/
def manyP (t : ByteArray) (a most : Int) : Option (Nat × Int) := if nB t a = true then none else if 0 ≤ nV t a ∧ nV t a ≤ most then some ((nV t a).toNat, nA t a) else none
def topicP (t : ByteArray) (a : Int) : Option (TI × Int) :=
  if wB t a = true then none else if nB t (wA t a) = true then none else
    (manyP t (nA t (wA t a)) 20).bind fun p => (heldP t p.1 p.2 []).bind fun h => (manyP t h.2 4).bind fun q => (grpP t q.1 q.2 []).bind fun g => some (⟨wV t a, nV t (wA t a), h.1, g.1⟩, g.2)
def topsP (t : ByteArray) : Nat → Int → List TI → Option (List TI × Int)
  | 0, a, L => some (L, a)
  | n + 1, a, L => (topicP t a).bind fun p => topsP t n p.2 (L ++ [p.1])
def repsP (t : ByteArray) : Nat → Int → List RI → Option (List RI × Int)
  | 0, a, R => some (R, a)
  | n + 1, a, R => if nB t a = true then none else if nB t (nA t a) = true then none else if wB t (nA t (nA t a)) = true then none else repsP t n (wA t (nA t (nA t a))) (R ++ [⟨nV t a, nV t (nA t a), wV t (nA t (nA t a))⟩])
def brokP (t : ByteArray) : Option (List TI × List RI × Int) :=
  (manyP t 0 4).bind fun p => (topsP t p.1 p.2 []).bind fun l => (manyP t l.2 9).bind fun q => (repsP t q.1 q.2 []).bind fun r => some (l.1, r.1, r.2)
/-- A place in the text. -/
def At (a : Int) : Prop := 0 ≤ a ∧ a ≤ 20000
theorem many_ok {t : ByteArray} {a m a' : Int} {n : Nat} (ha : 0 ≤ a) (h : manyP t a m = some (n, a')) : a < a' ∧ a' ≤ t.size ∧ (n : Int) ≤ m ∧ numT (n : Int) = t.extract a.toNat a'.toNat := by
  unfold manyP at h
  split at h
  · cases h
  · rename_i hb
    split at h
    · rename_i hr
      injection h with h
      injection h with h1 h2
      obtain ⟨q1, q2, _, q3⟩ := nB_ok ha (Bool.eq_false_iff.2 hb)
      have e : (n : Int) = nV t a := by rw [← h1, Int.toNat_of_nonneg hr.1]
      rw [e, ← h2]
      exact ⟨q1, q2, hr.2, q3⟩
    · cases h
theorem heldT_snoc (l : List ByteArray) (x s : ByteArray) : heldT (l ++ [x]) s = heldT l s ++ textT x := by simp [heldT, List.foldl_append]
theorem grT_snoc (l : List GT) (x : GT) (s : ByteArray) : grT (l ++ [x]) s = grT l s ++ (textT x.f0 ++ numT x.f1) := by simp [grT, List.foldl_append]
theorem topsT_snoc (l : List TI) (x : TI) (s : ByteArray) : topsT (l ++ [x]) s = topT x (topsT l s) := by simp [topsT, List.foldl_append]
theorem repsT_snoc (l : List RI) (x : RI) (s : ByteArray) : repsT (l ++ [x]) s = repsT l s ++ ((numT x.f0 ++ numT x.f1) ++ textT x.f2) := by simp [repsT, List.foldl_append]
theorem held_ok {t : ByteArray} {s : ByteArray} : ∀ (n : Nat) (a : Int) (H H' : List ByteArray) (a' : Int), 0 ≤ a → a ≤ t.size → heldP t n a H = some (H', a') → heldT H s = t.extract 0 a.toNat →
    a ≤ a' ∧ a' ≤ t.size ∧ heldT H' s = t.extract 0 a'.toNat ∧ H'.length = H.length + n
  | 0, a, H, H', a', h0, h1, h, hs => by
    injection h with h
    injection h with e1 e2
    subst e1; subst e2
    exact ⟨Int.le_refl _, h1, hs, rfl⟩
  | n + 1, a, H, H', a', h0, h1, h, hs => by
    simp only [heldP] at h
    by_cases hb : wB t a = true
    · rw [if_pos hb] at h; cases h
    · rw [if_neg hb] at h
      obtain ⟨q1, q2, _, q3⟩ := wB_ok h0 (Bool.eq_false_iff.2 hb)
      obtain ⟨r1, r2, r3, r4⟩ := held_ok n _ _ H' a' (by omega) q2 h (by rw [heldT_snoc, hs, q3, ext_app (by omega) (by omega)])
      exact ⟨by omega, r2, r3, by rw [r4, List.length_append, List.length_singleton]; omega⟩
theorem grp_ok {t : ByteArray} {s : ByteArray} : ∀ (n : Nat) (a : Int) (G G' : List GT) (a' : Int), 0 ≤ a → a ≤ t.size → grpP t n a G = some (G', a') → grT G s = t.extract 0 a.toNat → (∀ x ∈ G, x.f0.size ≤ 20000) →
    a ≤ a' ∧ a' ≤ t.size ∧ grT G' s = t.extract 0 a'.toNat ∧ G'.length = G.length + n ∧ (∀ x ∈ G', x.f0.size ≤ 20000)
  | 0, a, G, G', a', h0, h1, h, hs, hz => by
    injection h with h
    injection h with e1 e2
    subst e1; subst e2
    exact ⟨Int.le_refl _, h1, hs, rfl, hz⟩
  | n + 1, a, G, G', a', h0, h1, h, hs, hz => by
    simp only [grpP] at h
    by_cases hb : wB t a = true
    · rw [if_pos hb] at h; cases h
    · rw [if_neg hb] at h
      obtain ⟨q1, q2, qz, q3⟩ := wB_ok h0 (Bool.eq_false_iff.2 hb)
      by_cases hc : nB t (wA t a) = true
      · rw [if_pos hc] at h; cases h
      · rw [if_neg hc] at h
        obtain ⟨p1, p2, _, p3⟩ := nB_ok (t := t) (a := wA t a) (by omega) (Bool.eq_false_iff.2 hc)
        obtain ⟨r1, r2, r3, r4, r5⟩ := grp_ok n _ _ G' a' (by omega) p2 h (by rw [grT_snoc, hs, q3, p3, ext_app (by omega) (by omega), ext_app (by omega) (by omega)]) (fun x hx => by
          rcases List.mem_append.1 hx with hx | hx
          · exact hz x hx
          · rw [List.mem_singleton.1 hx]; exact qz)
        exact ⟨by omega, r2, r3, by rw [r4, List.length_append, List.length_singleton]; omega, r5⟩
/-- A topic's sizes, as the reader may give them. -/
def szT (x : TI) : Prop := x.f0.size ≤ 20000 ∧ x.f2.length ≤ 20 ∧ x.f3.length ≤ 4 ∧ ∀ y ∈ x.f3, y.f0.size ≤ 20000
theorem topic_ok {t s : ByteArray} {a a' : Int} {x : TI} (h0 : 0 ≤ a) (h : topicP t a = some (x, a')) (hs : s = t.extract 0 a.toNat) : a ≤ a' ∧ a' ≤ t.size ∧ topT x s = t.extract 0 a'.toNat ∧ szT x := by
  unfold topicP at h
  by_cases hb : wB t a = true
  · rw [if_pos hb] at h; cases h
  rw [if_neg hb] at h
  obtain ⟨q1, q2, qz, q3⟩ := wB_ok h0 (Bool.eq_false_iff.2 hb)
  by_cases hc : nB t (wA t a) = true
  · rw [if_pos hc] at h; cases h
  rw [if_neg hc] at h
  obtain ⟨p1, p2, _, p3⟩ := nB_ok (t := t) (a := wA t a) (by omega) (Bool.eq_false_iff.2 hc)
  obtain ⟨⟨m, b⟩, hm, h⟩ := Option.bind_eq_some_iff.mp h
  obtain ⟨⟨H, c⟩, hh, h⟩ := Option.bind_eq_some_iff.mp h
  obtain ⟨⟨n, d⟩, hn, h⟩ := Option.bind_eq_some_iff.mp h
  obtain ⟨⟨G, e⟩, hg, h⟩ := Option.bind_eq_some_iff.mp h
  dsimp only at hm hh hn hg h
  injection h with h
  injection h with e1 e2
  subst e1; subst e2
  obtain ⟨m1, m2, m3, m4⟩ := many_ok (by omega) hm
  have e3 : (s ++ (textT (wV t a) ++ (numT (nV t (wA t a)) ++ numT ((m : Nat) : Int)))) = t.extract 0 b.toNat := by
    rw [hs, q3, p3, m4, ext_app (by omega) (by omega), ext_app (by omega) (by omega), ext_app (by omega) (by omega)]
  obtain ⟨r1, r2, r3, r4⟩ := held_ok (s := s ++ (textT (wV t a) ++ (numT (nV t (wA t a)) ++ numT ((m : Nat) : Int)))) m b [] H c (by omega) m2 hh e3
  simp only [List.length_nil, Nat.zero_add] at r4
  obtain ⟨n1, n2, n3, n4⟩ := many_ok (by omega) hn
  obtain ⟨g1, g2, g3, g4, g5⟩ := grp_ok (s := heldT H (s ++ (textT (wV t a) ++ (numT (nV t (wA t a)) ++ numT ((m : Nat) : Int)))) ++ numT ((n : Nat) : Int)) n d [] G _ (by omega) n2 hg (by
    show heldT H _ ++ numT ((n : Nat) : Int) = _
    rw [r3, n4, ext_app (by omega) (by omega)]) (fun x hx => absurd hx (by simp))
  simp only [List.length_nil, Nat.zero_add] at g4
  refine ⟨by omega, g2, ?_, qz, by show H.length ≤ 20; omega, by show G.length ≤ 4; omega, g5⟩
  unfold topT headT
  show grT G (heldT H (s ++ (textT (wV t a) ++ (numT (nV t (wA t a)) ++ numT ((H.length : Nat) : Int)))) ++ numT ((G.length : Nat) : Int)) = _
  rw [r4, g4]
  exact g3
theorem tops_ok {t : ByteArray} {s : ByteArray} : ∀ (n : Nat) (a : Int) (L L' : List TI) (a' : Int), 0 ≤ a → a ≤ t.size → topsP t n a L = some (L', a') → topsT L s = t.extract 0 a.toNat → (∀ x ∈ L, szT x) →
    a ≤ a' ∧ a' ≤ t.size ∧ topsT L' s = t.extract 0 a'.toNat ∧ L'.length = L.length + n ∧ (∀ x ∈ L', szT x)
  | 0, a, L, L', a', h0, h1, h, hs, hz => by
    injection h with h
    injection h with e1 e2
    subst e1; subst e2
    exact ⟨Int.le_refl _, h1, hs, rfl, hz⟩
  | n + 1, a, L, L', a', h0, h1, h, hs, hz => by
    simp only [topsP] at h
    obtain ⟨⟨x, b⟩, hx, h⟩ := Option.bind_eq_some_iff.mp h
    dsimp only at h
    obtain ⟨p1, p2, p3, p4⟩ := topic_ok h0 hx hs
    obtain ⟨r1, r2, r3, r4, r5⟩ := tops_ok n _ _ L' a' (by omega) p2 h (by rw [topsT_snoc, p3]) (fun y hy => by
      rcases List.mem_append.1 hy with hy | hy
      · exact hz y hy
      · rw [List.mem_singleton.1 hy]; exact p4)
    exact ⟨by omega, r2, r3, by rw [r4, List.length_append, List.length_singleton]; omega, r5⟩
theorem reps_ok {t : ByteArray} {s : ByteArray} : ∀ (n : Nat) (a : Int) (R R' : List RI) (a' : Int), 0 ≤ a → a ≤ t.size → repsP t n a R = some (R', a') → repsT R s = t.extract 0 a.toNat →
    a ≤ a' ∧ a' ≤ t.size ∧ repsT R' s = t.extract 0 a'.toNat ∧ R'.length = R.length + n
  | 0, a, R, R', a', h0, h1, h, hs => by
    injection h with h
    injection h with e1 e2
    subst e1; subst e2
    exact ⟨Int.le_refl _, h1, hs, rfl⟩
  | n + 1, a, R, R', a', h0, h1, h, hs => by
    simp only [repsP] at h
    by_cases hb : nB t a = true
    · rw [if_pos hb] at h; cases h
    rw [if_neg hb] at h
    obtain ⟨q1, q2, _, q3⟩ := nB_ok h0 (Bool.eq_false_iff.2 hb)
    by_cases hc : nB t (nA t a) = true
    · rw [if_pos hc] at h; cases h
    rw [if_neg hc] at h
    obtain ⟨p1, p2, _, p3⟩ := nB_ok (t := t) (a := nA t a) (by omega) (Bool.eq_false_iff.2 hc)
    by_cases hd : wB t (nA t (nA t a)) = true
    · rw [if_pos hd] at h; cases h
    rw [if_neg hd] at h
    obtain ⟨u1, u2, _, u3⟩ := wB_ok (t := t) (a := nA t (nA t a)) (by omega) (Bool.eq_false_iff.2 hd)
    obtain ⟨r1, r2, r3, r4⟩ := reps_ok n _ _ R' a' (by omega) u2 h (by rw [repsT_snoc, hs, q3, p3, u3, ext_app (by omega) (by omega), ext_app (by omega) (by omega), ext_app (by omega) (by omega)])
    exact ⟨by omega, r2, r3, by rw [r4, List.length_append, List.length_singleton]; omega⟩
theorem brok_ok {t : ByteArray} {L : List TI} {R : List RI} {e : Int} (h : brokP t = some (L, R, e)) :
    0 < e ∧ e ≤ t.size ∧ repsT R (topsT L (numT (L.length : Int)) ++ numT (R.length : Int)) = t.extract 0 e.toNat ∧ L.length ≤ 4 ∧ R.length ≤ 9 ∧ ∀ x ∈ L, szT x := by
  unfold brokP at h
  obtain ⟨⟨m, b⟩, hm, h⟩ := Option.bind_eq_some_iff.mp h
  obtain ⟨⟨L1, c⟩, hl, h⟩ := Option.bind_eq_some_iff.mp h
  obtain ⟨⟨n, d⟩, hn, h⟩ := Option.bind_eq_some_iff.mp h
  obtain ⟨⟨R1, e1⟩, hr, h⟩ := Option.bind_eq_some_iff.mp h
  dsimp only at hm hl hn hr h
  injection h with h
  injection h with x1 h
  injection h with x2 x3
  subst x1; subst x2; subst x3
  obtain ⟨m1, m2, m3, m4⟩ := many_ok (Int.le_refl _) hm
  obtain ⟨l1, l2, l3, l4, l5⟩ := tops_ok (s := numT ((m : Nat) : Int)) m b [] L1 c (by omega) m2 hl m4 (fun x hx => absurd hx (by simp))
  simp only [List.length_nil, Nat.zero_add] at l4
  obtain ⟨n1, n2, n3, n4⟩ := many_ok (by omega) hn
  obtain ⟨r1, r2, r3, r4⟩ := reps_ok (s := topsT L1 (numT ((m : Nat) : Int)) ++ numT ((n : Nat) : Int)) n d [] R1 _ (by omega) n2 hr (by
    show topsT L1 _ ++ numT ((n : Nat) : Int) = _
    rw [l3, n4, ext_app (by omega) (by omega)])
  simp only [List.length_nil, Nat.zero_add] at r4
  refine ⟨by omega, r2, ?_, by omega, by omega, l5⟩
  rw [l4, r4]
  exact r3
theorem tmI_small {L : List TI} (h : ∀ x ∈ L, szT x) : tmI L ≤ 50000 := sup_le' fun x hx => by
  obtain ⟨a, b, c, d⟩ := h x hx
  have : nmI x.f3 ≤ 20000 := sup_le' d
  omega
end Go.Proofs.Ytcaildjhnkedfaa.Q
