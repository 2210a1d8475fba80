/- Draws of changes always come to an end, with short lists. -/
import Derived.Test.YtmfbkkjlijaabaaQx3
import Derived.Test.YtmfbkkjlijaabaaQx11
import Derived.Test.YtmfbkkjlijaabaaQPlDrawA
import Derived.Test.YtmfbkkjlijaabaaQPlChangesR
namespace Go.Proofs.Ytmfbkkjlijaabaa.Q
open Go.RowKit Go.Proofs.YtmfbkkjlijaabaaW.PrintWords Go.Proofs.YtmfbkkjlijaabaaW.PrintLast Go.Proofs.Ytmfbkkjlijaabaa.HB
set_option linter.unusedVariables false
set_option linter.unusedSimpArgs false

theorem dbind {α β : Type} (a : α) (f : α → Option β) : (some a).bind f = f a := of_eq_true (eq_self _)
theorem n1_ok {s0 : List Int} {s1 s2 s3 a : Int} (h0 : 0 ≤ s1) (hl : s0.length ≤ 2000000) (ha : a ≤ 1000) : ∃ r t1 t2, spec_l01Src_n.f s0 s1 s2 s3 a = some (r, t1, t2, s3) ∧ 0 ≤ t1 := by
  by_cases h : a ≤ 1
  · unfold spec_l01Src_n.f
    rw [if_pos h]
    exact ⟨_, _, _, rfl, h0⟩
  · obtain ⟨r, t1, t2, e, g, _, _⟩ := n_ok (s2 := s2) (s3 := s3) (a := a) h0 hl (by omega)
    exact ⟨r, t1, t2, e, g⟩
theorem op_ok {s0 : List Int} {s1 s2 s3 : Int} (h0 : 0 ≤ s1) (hl : s0.length ≤ 2000000) : ∃ r t1 t2, spec_l01Src_l10Op.f s0 s1 s2 s3 = some (r, t1, t2, s3) ∧ 0 ≤ t1 := by
  obtain ⟨r, t1, t2, e, g⟩ := pick_ok (s2 := s2) (s3 := s3) (l := [(⟨#[]⟩ : ByteArray), (⟨#[97]⟩ : ByteArray), (⟨#[98]⟩ : ByteArray), (⟨#[99]⟩ : ByteArray)]) h0 hl (by simp)
  unfold spec_l01Src_l10Op.f
  rw [e, dbind]
  exact ⟨_, _, _, rfl, g⟩
theorem prf_j {s0 : List Int} {s1 s2 s3 v p0 p1 : Int} {p2 : ByteArray} {p3 : List Int} (h0 : 0 ≤ s1) (hl : s0.length ≤ 2000000) (h3 : p3.length ≤ 3) {k : Nat} : ∃ q0 q1 q2 q3 t1 t2, spec_l01Src_l10Proof.j0 (k + 1) v s0 s1 s2 s3 p0 p1 p2 p3 = some (q0, q1, q2, q3, t1, t2, s3) ∧ q3.length ≤ 3 ∧ 0 ≤ t1 := by
  obtain ⟨c, a1, a2, e, g⟩ := one_ok (s2 := s2) (s3 := s3) (a := 40) h0 hl (by omega)
  rw [spec_l01Src_l10Proof.j0, e, dbind]
  dsimp only
  split
  · obtain ⟨r, b1, b2, e2, g2, _, _⟩ := n_ok (s2 := a2) (s3 := s3) (a := 3) g hl (by omega)
    rw [e2, dbind]
    dsimp only
    split
    · exact ⟨_, _, _, _, _, _, rfl, h3, g2⟩
    · split
      · exact ⟨_, _, _, _, _, _, rfl, by simp, g2⟩
      · exact ⟨_, _, _, _, _, _, rfl, by simp, g2⟩
  · exact ⟨_, _, _, _, _, _, rfl, h3, g⟩
theorem prf_ok {s0 : List Int} {s1 s2 s3 v s : Int} (h0 : 0 ≤ s1) (hl : s0.length ≤ 2000000) (hv : v ≤ 1000) {k : Nat} (hk : 1 ≤ k) : ∃ q0 q1 q2 q3 t1 t2, spec_l01Src_l10Proof.f k s0 s1 s2 s3 v s = some (q0, q1, q2, q3, t1, t2, s3) ∧ q3.length ≤ 3 ∧ 0 ≤ t1 := by
  obtain ⟨k, rfl⟩ : ∃ m, k = m + 1 := ⟨k - 1, by omega⟩
  obtain ⟨r, a1, a2, e, g⟩ := n1_ok (s2 := s2) (s3 := s3) h0 hl hv
  obtain ⟨o, b1, b2, e2, g2⟩ := op_ok (s2 := a2) (s3 := s3) g hl
  obtain ⟨c, c1, c2, e3, g3⟩ := one_ok (s2 := b2) (s3 := s3) (a := 3) g2 hl (by omega)
  unfold spec_l01Src_l10Proof.f
  rw [e, dbind]
  dsimp only
  rw [e2, dbind]
  dsimp only
  rw [e3, dbind]
  dsimp only
  split
  · exact prf_j g3 hl (by simp)
  · exact prf_j g3 hl (by simp)
def smallC (P : List S32) (n : Nat) : Prop := P.length ≤ n ∧ ∀ p ∈ P, p.f3.length ≤ 3
theorem small_add {P : List S32} {n : Nat} (h : smallC P n) {q : S32} (hq : q.f3.length ≤ 3) : smallC (P ++ [q]) (n + 1) :=
  ⟨by have := h.1; simp; omega, fun p hp => by
    rcases List.mem_append.1 hp with hp | hp
    · exact h.2 p hp
    · rw [List.mem_singleton.1 hp]; exact hq⟩
theorem small_more {P : List S32} {n m : Nat} (h : smallC P n) (hm : n ≤ m) : smallC P m := ⟨Nat.le_trans h.1 hm, h.2⟩
theorem chg_l0 {s0 : List Int} {s3 v f w : Int} (hl : s0.length ≤ 2000000) (hv : v ≤ 1000) : ∀ (d k : Nat) (s1 s2 : Int) (P : List S32), d ≤ 3 → 0 ≤ s1 → smallC P (3 - d) → d + 10 ≤ k →
    ∃ c1 c2 Q t1 t2, spec_l01Src_l10Change.l0 k v (4 - (d : Int)) s0 s1 s2 s3 f w P = some (c1, c2, Q, t1, t2, s3) ∧ smallC Q 4 ∧ 0 ≤ t1
  | 0, k, s1, s2, P, hd, h0, hP, hk => by
    obtain ⟨k, rfl⟩ : ∃ m, k = m + 1 := ⟨k - 1, by omega⟩
    obtain ⟨c, a1, a2, e, g⟩ := one_ok (s2 := s2) (s3 := s3) (a := 40) h0 hl (by omega)
    have hPl := hP.1
    rw [spec_l01Src_l10Change.l0, if_neg (by simp), e, dbind]
    dsimp only
    split
    · obtain ⟨q0, q1, q2, q3, b1, b2, e2, hq, g2⟩ := prf_ok (s2 := a2) (s3 := s3) (s := 1) g hl hv (k := k) (by omega)
      rw [e2, dbind]
      dsimp only
      rw [if_pos (by omega)]
      exact ⟨_, _, _, _, _, rfl, small_add hP hq, g2⟩
    · exact ⟨_, _, _, _, _, rfl, small_more hP (by omega), g⟩
  | d + 1, k, s1, s2, P, hd, h0, hP, hk => by
    obtain ⟨k, rfl⟩ : ∃ m, k = m + 1 := ⟨k - 1, by omega⟩
    obtain ⟨c, a1, a2, e, g⟩ := one_ok (s2 := s2) (s3 := s3) (a := 2) h0 hl (by omega)
    have hPl := hP.1
    have hw : wrap64 (4 - ((d + 1 : Nat) : Int) + 1) = 4 - (d : Int) := by rw [w_id (by omega) (by omega)]; omega
    rw [spec_l01Src_l10Change.l0, if_pos (by omega), e, dbind]
    dsimp only
    rw [hw]
    split
    · obtain ⟨q0, q1, q2, q3, b1, b2, e2, hq, g2⟩ := prf_ok (s2 := a2) (s3 := s3) (s := 4 - ((d + 1 : Nat) : Int)) g hl hv (k := k) (by omega)
      rw [e2, dbind]
      dsimp only
      rw [if_pos (by omega)]
      exact chg_l0 hl hv d k b1 b2 _ (by omega) g2 (small_more (small_add hP hq) (by omega)) (by omega)
    · exact chg_l0 hl hv d k a1 a2 P (by omega) g (small_more hP (by omega)) (by omega)
theorem chg_ok {s0 : List Int} {s1 s2 s3 v f : Int} (h0 : 0 ≤ s1) (hl : s0.length ≤ 2000000) (hv : v ≤ 1000) {k : Nat} (hk : 20 ≤ k) : ∃ c1 c2 Q t1 t2, spec_l01Src_l10Change.f k s0 s1 s2 s3 f v = some (c1, c2, Q, t1, t2, s3) ∧ smallC Q 4 ∧ 0 ≤ t1 :=
  chg_l0 hl hv 3 k s1 s2 [] (by omega) h0 ⟨by simp, by simp⟩ (by omega)
def smallL (l : List CI) (n : Nat) : Prop := l.length ≤ n ∧ ∀ c ∈ l, smallC c.f2 4
theorem smallL_add {l : List CI} {n : Nat} (h : smallL l n) {c : CI} (hc : smallC c.f2 4) : smallL (l ++ [c]) (n + 1) :=
  ⟨by have := h.1; simp; omega, fun p hp => by
    rcases List.mem_append.1 hp with hp | hp
    · exact h.2 p hp
    · rw [List.mem_singleton.1 hp]; exact hc⟩
theorem smallL_more {l : List CI} {n m : Nat} (h : smallL l n) (hm : n ≤ m) : smallL l m := ⟨Nat.le_trans h.1 hm, h.2⟩
theorem drawW_l0 {s0 : List Int} {s3 v : Int} (hl : s0.length ≤ 2000000) (hv : v ≤ 1000) : ∀ (d k : Nat) (s1 s2 : Int) (l : List CI), d ≤ 4 → 0 ≤ s1 → smallL l (4 - d) → d + 50 ≤ k →
    ∃ L, spec_DrawWanted.l0 k l v (4 - (d : Int)) s0 s1 s2 s3 = some L ∧ smallL L 5
  | 0, k, s1, s2, l, hd, h0, hP, hk => by
    obtain ⟨k, rfl⟩ : ∃ m, k = m + 1 := ⟨k - 1, by omega⟩
    obtain ⟨c, a1, a2, e, g⟩ := one_ok (s2 := s2) (s3 := s3) (a := 15) h0 hl (by omega)
    have hPl := hP.1
    rw [spec_DrawWanted.l0, if_neg (by simp), e, dbind]
    dsimp only
    split
    · obtain ⟨r, b1, b2, e2, g2, _, _⟩ := n_ok (s2 := a2) (s3 := s3) (a := 4) g hl (by omega)
      rw [e2, dbind]
      dsimp only
      obtain ⟨c1, c2, Q, d1, d2, e3, hQ, g3⟩ := chg_ok (s2 := b2) (s3 := s3) (f := r) g2 hl hv (k := k) (by omega)
      rw [e3, dbind]
      dsimp only
      rw [if_pos (by omega)]
      exact ⟨_, rfl, smallL_add hP hQ⟩
    · exact ⟨_, rfl, smallL_more hP (by omega)⟩
  | d + 1, k, s1, s2, l, hd, h0, hP, hk => by
    obtain ⟨k, rfl⟩ : ∃ m, k = m + 1 := ⟨k - 1, by omega⟩
    obtain ⟨c, a1, a2, e, g⟩ := one_ok (s2 := s2) (s3 := s3) (a := 4) h0 hl (by omega)
    have hPl := hP.1
    have hw : wrap64 (4 - ((d + 1 : Nat) : Int) + 1) = 4 - (d : Int) := by rw [w_id (by omega) (by omega)]; omega
    rw [spec_DrawWanted.l0, if_pos (by omega), e, dbind]
    dsimp only
    rw [hw]
    split
    · exact drawW_l0 hl hv d k a1 a2 l (by omega) g (smallL_more hP (by omega)) (by omega)
    · obtain ⟨c1, c2, Q, d1, d2, e3, hQ, g3⟩ := chg_ok (s2 := a2) (s3 := s3) (f := 4 - ((d + 1 : Nat) : Int)) g hl hv (k := k) (by omega)
      rw [e3, dbind]
      dsimp only
      rw [if_pos (by omega)]
      exact drawW_l0 hl hv d k d1 d2 _ (by omega) g3 (smallL_more (smallL_add hP hQ) (by omega)) (by omega)
theorem drawW_ok {x0 : List Int} (hl : x0.length ≤ 2000000) {k : Nat} (hk : 100 ≤ k) : ∃ l, spec_DrawWanted.f k x0 = some l ∧ mI l ≤ 20 := by
  obtain ⟨m, z, e⟩ := source_ok hl (k := k) (by omega)
  obtain ⟨r, a1, a2, e2, g, r0, r1⟩ := n_ok (s0 := x0) (s1 := 0) (s2 := m) (s3 := z) (a := 3) (by omega) hl (by omega)
  unfold spec_DrawWanted.f
  rw [e, dbind]
  dsimp only
  rw [e2, dbind]
  dsimp only
  obtain ⟨L, e3, hL⟩ := drawW_l0 (s3 := z) (v := wrap64 (1 + r)) hl (by rw [w_id (by omega) (by omega)]; omega) 4 k a1 a2 [] (by omega) g ⟨by simp, by simp⟩ (by omega)
  refine ⟨L, e3, ?_⟩
  unfold mI
  have sup_le_ : ∀ (M : List CI) (F : CI → Nat), (∀ c ∈ M, F c ≤ 20) → sup F M ≤ 20 := fun M F hF => by
    induction M with
    | nil => simp [sup]
    | cons c M ih =>
      simp only [sup]
      have h1 := hF c (List.mem_cons_self ..)
      have h2 := ih (fun x hx => hF x (List.mem_cons_of_mem _ hx))
      omega
  refine sup_le_ L _ (fun c hc => ?_)
  obtain ⟨h1, h2⟩ := hL.2 c hc
  have h3 : byMax c.f2 ≤ 3 := by
    unfold byMax
    generalize c.f2 = M at h2
    clear h1 hc
    induction M with
    | nil => simp [sup]
    | cons p M ih =>
      simp only [sup]
      have h1 := h2 p (List.mem_cons_self ..)
      have h3 := ih (fun x hx => h2 x (List.mem_cons_of_mem _ hx))
      omega
  show c.f2.length + byMax c.f2 + 4 ≤ 20
  omega
theorem drawC_ok {x0 : List Int} (hl : x0.length ≤ 2000000) {k : Nat} (hk : 3000 ≤ k) : ∃ l f v, spec_DrawChangeOf.f k x0 = some (l, f, v) ∧ l.length ≤ 402 := by
  obtain ⟨m, z, e⟩ := source_ok hl (k := k) (by omega)
  obtain ⟨l, t1, t2, e2, hL, g⟩ := votes_ok (s0 := x0) (s1 := 0) (s2 := m) (s3 := z) (by omega) hl (k := k) (by omega)
  obtain ⟨r, a1, a2, e3, g3, _, _⟩ := n_ok (s2 := t2) (s3 := z) (a := 5) g hl (by omega)
  obtain ⟨r2, b1, b2, e4, g4, _, _⟩ := n_ok (s2 := a2) (s3 := z) (a := 4) g3 hl (by omega)
  unfold spec_DrawChangeOf.f
  rw [e, dbind]
  dsimp only
  rw [e2, dbind]
  dsimp only
  rw [e3, dbind]
  dsimp only
  rw [e4, dbind]
  exact ⟨l, _, _, rfl, hL⟩
end Go.Proofs.Ytmfbkkjlijaabaa.Q
