/- The operations with which a view starts: the best proof of each number, as a walk over the proofs (spec.l12Wanted) and as an array (impl.wanted). -/
import Derived.Test.YtmfbkkjlijaabaaQx4
import Derived.Test.YtmfbkkjlijaabaaQx7
import Derived.Test.YtmfbkkjlijaabaaQPlLoops
namespace Go.Proofs.Ytmfbkkjlijaabaa.Q
open Go.RowKit Go.Proofs.YtmfbkkjlijaabaaW.PrintWords Go.Proofs.YtmfbkkjlijaabaaW.PrintLast Go.Proofs.Ytmfbkkjlijaabaa.HB
set_option linter.unusedVariables false
set_option linter.unusedSimpArgs false

abbrev WP := S32
abbrev WC := S29
abbrev WF := S34
theorem wbind {α β : Type} (a : α) (f : α → Option β) : (some a).bind f = f a := of_eq_true (eq_self _)
/-- The best proof of a number. -/
def sb (s : Int) : List WP → WP → WP
  | [], b => b
  | p :: ps, b => sb s ps (if p.f1 = s then (if p.f0 > b.f0 then p else b) else b)
theorem sb_append (s : Int) : ∀ (a c : List WP) (b : WP), sb s (a ++ c) b = sb s c (sb s a b)
  | [], c, b => rfl
  | p :: a, c, b => sb_append s a c _
def mx : List WP → Int → Int
  | [], m => m
  | p :: ps, m => mx ps (max m p.f1)
theorem mx_append : ∀ (a c : List WP) (m : Int), mx (a ++ c) m = mx c (mx a m)
  | [], c, m => rfl
  | p :: a, c, m => mx_append a c _
def allP (l : List WC) : List WP := l.flatMap (·.f2)
def w_0 : WP := ⟨-1, 0, ⟨#[]⟩, []⟩
/-- What the new view starts with. -/
def wOut (l : List WC) : List WF := (List.range (mx (allP l) 0).toNat).map fun (i : Nat) => ⟨(i : Int) + 1, (sb ((i : Int) + 1) (allP l) w_0).f2⟩
def goodP (p : WP) : Prop := 0 ≤ p.f0 ∧ 1 ≤ p.f1 ∧ p.f1 ≤ 6
theorem mx_le : ∀ (ps : List WP) (m : Int), (∀ p ∈ ps, goodP p) → 0 ≤ m → m ≤ 6 → 0 ≤ mx ps m ∧ mx ps m ≤ 6
  | [], m, _, h0, h6 => ⟨h0, h6⟩
  | p :: ps, m, h, h0, h6 => by
    have := h p (List.mem_cons_self ..)
    unfold goodP at this
    exact mx_le ps _ (fun x hx => h x (List.mem_cons_of_mem _ hx)) (by omega) (by omega)
theorem allP_drop {l : List WC} {i : Nat} (hi : i < l.length) : allP (l.drop i) = (rd_T29 l (i : Int)).f2 ++ allP (l.drop (i + 1)) := by
  rw [List.drop_eq_getElem_cons hi]
  unfold allP rd_T29
  rw [Int.toNat_natCast, List.getD_eq_getElem?_getD, List.getElem?_eq_getElem hi]
  rfl
theorem allP_nil {l : List WC} {i : Nat} (hi : l.length ≤ i) : allP (l.drop i) = [] := by rw [List.drop_eq_nil_of_le hi]; rfl
theorem drop_rd {P : List WP} {j : Nat} (hj : j < P.length) : P.drop j = rd_T32 P (j : Int) :: P.drop (j + 1) := by
  rw [List.drop_eq_getElem_cons hj]
  unfold rd_T32
  rw [Int.toNat_natCast, List.getD_eq_getElem?_getD, List.getElem?_eq_getElem hj]
  rfl
theorem wmem {l : List WC} {i : Nat} (hi : i < l.length) : rd_T29 l (i : Int) ∈ l := mem_getD _ (by simpa using hi)
/-! The array. -/
def slotR (L : List WRow) (b : Int → WP) : Prop := L.length = 7 ∧ ∀ s : Nat, 1 ≤ s → s < 7 → ((b s).f0 = -1 ∧ (b s).f2 = ⟨#[]⟩ ∧ L.getD s w_z = w_z) ∨ (0 ≤ (b s).f0 ∧ L.getD s w_z = ((b s).f0, (s : Int), (b s).f2))
theorem getD_set_w (L : List WRow) (i j : Nat) (x : WRow) (h : i < L.length) : (L.set i x).getD j w_z = if i = j then x else L.getD j w_z := by
  simp only [List.getD_eq_getElem?_getD, List.getElem?_set]
  by_cases e : i = j
  · subst e
    simp [h]
  · simp [e]
theorem step_slot {L : List WRow} {b : Int → WP} (h : slotR L b) {p : WP} (hp : goodP p) : slotR (w_step L p) (fun s => if p.f1 = s then (if p.f0 > (b s).f0 then p else b s) else b s) := by
  obtain ⟨hl, hs⟩ := h
  obtain ⟨p0, p1, p2⟩ := hp
  obtain ⟨q, hq⟩ : ∃ q : Nat, p.f1 = (q : Int) := ⟨p.f1.toNat, by omega⟩
  have hq1 := hs q (by omega) (by omega)
  refine ⟨by rw [w_step_len]; exact hl, fun s h1 h7 => ?_⟩
  have hold := hs s h1 h7
  dsimp only
  have eq : p.f1.toNat = q := by omega
  by_cases e : q = s
  · subst e
    rw [if_pos hq]
    have hset : (L.set q (p.f0, (q : Int), p.f2)).getD q w_z = (p.f0, (q : Int), p.f2) := by rw [getD_set_w _ _ _ _ (by omega), if_pos rfl]
    have hpos : ((L.getD q w_z).2.1 = 0 ∨ (L.getD q w_z).1 < p.f0) → w_step L p = L.set q (p.f0, (q : Int), p.f2) := fun h => by
      rw [w_step_pos (by rw [eq]; exact h), eq, hq]
    rcases hq1 with ⟨a, a2, c⟩ | ⟨a, c⟩
    · rw [hpos (by rw [c]; exact .inl rfl), hset, if_pos (show p.f0 > (b (q : Int)).f0 by omega)]
      exact .inr ⟨p0, rfl⟩
    · by_cases hg : p.f0 > (b (q : Int)).f0
      · rw [hpos (by rw [c]; exact .inr hg), hset, if_pos hg]
        exact .inr ⟨p0, rfl⟩
      · rw [w_step_neg (by rw [eq, c]; intro h; rcases h with h | h; · exact absurd h (by show ¬ (q : Int) = 0; omega)
                           · exact hg h), if_neg hg]
        exact .inr ⟨a, c⟩
  · rw [if_neg (by omega)]
    have : (w_step L p).getD s w_z = L.getD s w_z := by
      unfold w_step
      split
      · rw [getD_set_w _ _ _ _ (by omega), if_neg (by omega)]
      · rfl
    rw [this]
    exact hold
theorem fold_slot : ∀ (ps : List WP) (L : List WRow) (b : Int → WP) (m : Int), slotR L b → (∀ p ∈ ps, goodP p) → ∃ L', w_fold ps L m = some (L', mx ps m) ∧ slotR L' (fun s => sb s ps (b s))
  | [], L, b, m, h, _ => ⟨L, rfl, h⟩
  | p :: ps, L, b, m, h, hg => by
    have hp := hg p (List.mem_cons_self ..)
    obtain ⟨L', h1, h2⟩ := fold_slot ps (w_step L p) _ (max m p.f1) (step_slot h hp) (fun x hx => hg x (List.mem_cons_of_mem _ hx))
    refine ⟨L', ?_, h2⟩
    unfold goodP at hp
    simp only [w_fold]
    rw [if_pos (by omega)]
    exact h1
theorem all_slot : ∀ (l : List WC) (L : List WRow) (b : Int → WP) (m : Int), slotR L b → (∀ c ∈ l, c.f2.length ≤ 1000 ∧ ∀ p ∈ c.f2, goodP p) → ∃ L', w_all l L m = some (L', mx (allP l) m) ∧ slotR L' (fun s => sb s (allP l) (b s))
  | [], L, b, m, h, _ => ⟨L, rfl, h⟩
  | c :: l, L, b, m, h, hg => by
    obtain ⟨hc, hp⟩ := hg c (List.mem_cons_self ..)
    obtain ⟨L1, h1, h2⟩ := fold_slot c.f2 L b m h hp
    obtain ⟨L', h3, h4⟩ := all_slot l L1 _ (mx c.f2 m) h2 (fun x hx => hg x (List.mem_cons_of_mem _ hx))
    have e : allP (c :: l) = c.f2 ++ allP l := rfl
    refine ⟨L', ?_, ?_⟩
    · simp only [w_all]
      rw [if_pos hc, h1, wbind, e, mx_append]
      exact h3
    · rw [e]
      simp only [sb_append]
      exact h4
theorem impl_w {l : List WC} (hl : l.length ≤ 1000) (hg : ∀ c ∈ l, c.f2.length ≤ 1000 ∧ ∀ p ∈ c.f2, goodP p) : impl_wanted.f l = some (wOut l) := by
  obtain ⟨L', h1, h2, h3⟩ := all_slot l (List.replicate 7 w_z) (fun _ => w_0) 0 ⟨rfl, fun s _ h7 => .inl ⟨rfl, rfl, by rw [List.getD_eq_getElem?_getD, List.getElem?_replicate, if_pos h7]; rfl⟩⟩ hg
  have hm := mx_le (allP l) 0 (fun p hp => by
    obtain ⟨c, hc, hp⟩ := List.mem_flatMap.1 hp
    exact (hg c hc).2 p hp) (by omega) (by omega)
  unfold impl_wanted.f
  rw [if_pos hl, h1, wbind]
  congr 1
  unfold w_out wOut
  refine List.map_congr_left fun i hi => ?_
  have hi := List.mem_range.1 hi
  rcases h3 (i + 1) (by omega) (by omega) with ⟨_, a, c⟩ | ⟨_, c⟩
  · have a' : (sb ((i : Int) + 1) (allP l) w_0).f2 = ⟨#[]⟩ := a
    rw [c, a']
    rfl
  · rw [c]
    rfl
/-! The walk. -/
theorem max_eq (a b : Int) : spec_l01Max.f a b = some (max a b) := by
  unfold spec_l01Max.f
  by_cases h : a > b
  · rw [if_pos h, Int.max_eq_left (by omega)]
  · rw [if_neg h, Int.max_eq_right (by omega)]
section
variable {l : List WC} (hl : l.length ≤ 4) (hg : ∀ c ∈ l, c.f2.length ≤ 6 ∧ ∀ p ∈ c.f2, goodP p)
include hl hg
theorem walk4 {x3 : List WF} {x4 x7 : Int} {i K : Nat} (hi : i < l.length) {r : List WF} (d : Nat) : ∀ (k j : Nat) (b : WP), j + d = (rd_T29 l (i : Int)).f2.length → K + d + 1 ≤ k →
    (∀ k', K ≤ k' → spec_l12Wanted.l3 k' l x3 x4 x7 ((i + 1 : Nat) : Int) (sb x7 ((rd_T29 l (i : Int)).f2.drop j) b).f0 (sb x7 ((rd_T29 l (i : Int)).f2.drop j) b).f1 (sb x7 ((rd_T29 l (i : Int)).f2.drop j) b).f2 (sb x7 ((rd_T29 l (i : Int)).f2.drop j) b).f3 = some r) →
    spec_l12Wanted.l4 k l x3 x4 x7 (i : Int) (j : Int) b.f0 b.f1 b.f2 b.f3 = some r := by
  obtain ⟨hP, hp⟩ := hg _ (wmem hi)
  have wi : wrap64 ((i : Int) + 1) = ((i + 1 : Nat) : Int) := by rw [w_id (by omega) (by omega)]; omega
  generalize hPd : (rd_T29 l (i : Int)).f2 = P at hP hp
  induction d with
  | zero =>
    intro k j b hj hk hr
    obtain ⟨k, rfl⟩ : ∃ q, k = q + 1 := ⟨k - 1, by omega⟩
    simp only [spec_l12Wanted.l4]
    rw [hPd, if_pos (by omega), if_pos (by omega), if_neg (by omega), wi]
    have := hr k (by omega)
    rw [List.drop_eq_nil_of_le (by omega)] at this
    exact this
  | succ d ih =>
    intro k j b hj hk hr
    obtain ⟨k, rfl⟩ : ∃ q, k = q + 1 := ⟨k - 1, by omega⟩
    have wj : wrap64 ((j : Int) + 1) = ((j + 1 : Nat) : Int) := by rw [w_id (by omega) (by omega)]; omega
    rw [drop_rd (by omega)] at hr
    simp only [spec_l12Wanted.l4]
    rw [hPd, if_pos (by omega), if_pos (by omega), if_pos (by omega), if_pos (by omega), wj]
    simp only [sb] at hr
    by_cases h1 : (rd_T32 P (j : Int)).f1 = x7
    · rw [if_pos h1]
      rw [if_pos h1] at hr
      by_cases h2 : (rd_T32 P (j : Int)).f0 > b.f0
      · rw [if_pos h2]
        rw [if_pos h2] at hr
        exact ih k (j + 1) (rd_T32 P (j : Int)) (by omega) (by omega) hr
      · rw [if_neg h2]
        rw [if_neg h2] at hr
        exact ih k (j + 1) b (by omega) (by omega) hr
    · rw [if_neg h1]
      rw [if_neg h1] at hr
      exact ih k (j + 1) b (by omega) (by omega) hr
theorem walk3 {x3 : List WF} {x4 x7 : Int} {K : Nat} (h3 : x3.length ≤ 1000) {r : List WF} (d : Nat) : ∀ (k i : Nat) (b : WP), i + d = l.length → K + 10 * d + 1 ≤ k →
    (∀ k', K ≤ k' → spec_l12Wanted.l2 k' l (x3 ++ [(⟨x7, (sb x7 (allP (l.drop i)) b).f2⟩ : WF)]) x4 (wrap64 (x7 + 1)) = some r) →
    spec_l12Wanted.l3 k l x3 x4 x7 (i : Int) b.f0 b.f1 b.f2 b.f3 = some r := by
  induction d with
  | zero =>
    intro k i b hi hk hr
    obtain ⟨k, rfl⟩ : ∃ q, k = q + 1 := ⟨k - 1, by omega⟩
    simp only [spec_l12Wanted.l3]
    rw [if_neg (by omega), if_pos (by omega)]
    have := hr k (by omega)
    rw [allP_nil (by omega)] at this
    exact this
  | succ d ih =>
    intro k i b hi hk hr
    obtain ⟨k, rfl⟩ : ∃ q, k = q + 1 := ⟨k - 1, by omega⟩
    have hlt : i < l.length := by omega
    have hP := (hg _ (wmem hlt)).1
    simp only [spec_l12Wanted.l3]
    rw [if_pos (by omega)]
    refine walk4 hl hg hlt (K := K + 10 * d + 1) _ k 0 b (Nat.zero_add _) (by omega) (fun k' hk' => ?_)
    refine ih k' (i + 1) _ (by omega) hk' (fun k2 hk2 => ?_)
    have := hr k2 hk2
    rw [allP_drop hlt, sb_append] at this
    exact this
theorem walk2 {m : Nat} (hm : m ≤ 6) (e : Nat) : ∀ (k n : Nat), n + e = m → 50 * e + 1 ≤ k →
    spec_l12Wanted.l2 k l ((List.range n).map fun (i : Nat) => (⟨(i : Int) + 1, (sb ((i : Int) + 1) (allP l) w_0).f2⟩ : WF)) (m : Int) ((n : Int) + 1) = some ((List.range m).map fun (i : Nat) => (⟨(i : Int) + 1, (sb ((i : Int) + 1) (allP l) w_0).f2⟩ : WF)) := by
  induction e with
  | zero =>
    intro k n hn hk
    obtain ⟨k, rfl⟩ : ∃ q, k = q + 1 := ⟨k - 1, by omega⟩
    obtain rfl : n = m := by omega
    simp only [spec_l12Wanted.l2]
    rw [if_neg (by omega)]
  | succ e ih =>
    intro k n hn hk
    obtain ⟨k, rfl⟩ : ∃ q, k = q + 1 := ⟨k - 1, by omega⟩
    simp only [spec_l12Wanted.l2]
    rw [if_pos (by omega)]
    refine walk3 hl hg (K := 50 * e + 1) (by simp; omega) l.length k 0 w_0 (by omega) (by omega) (fun k' hk' => ?_)
    have := ih k' (n + 1) (by omega) hk'
    rw [w_id (by omega) (by omega)]
    rw [List.range_succ, List.map_append] at this
    rw [show ((n + 1 : Nat) : Int) + 1 = (n : Int) + 1 + 1 by omega] at this
    exact this
theorem walk1 {x3 : List WF} {i K : Nat} (hi : i < l.length) {r : List WF} (d : Nat) : ∀ (k j : Nat) (m : Int), j + d = (rd_T29 l (i : Int)).f2.length → K + d + 1 ≤ k →
    (∀ k', K ≤ k' → spec_l12Wanted.l0 k' l x3 (mx ((rd_T29 l (i : Int)).f2.drop j) m) ((i + 1 : Nat) : Int) = some r) →
    spec_l12Wanted.l1 k l x3 m (i : Int) (j : Int) = some r := by
  obtain ⟨hP, hp⟩ := hg _ (wmem hi)
  have wi : wrap64 ((i : Int) + 1) = ((i + 1 : Nat) : Int) := by rw [w_id (by omega) (by omega)]; omega
  generalize hPd : (rd_T29 l (i : Int)).f2 = P at hP hp
  induction d with
  | zero =>
    intro k j m hj hk hr
    obtain ⟨k, rfl⟩ : ∃ q, k = q + 1 := ⟨k - 1, by omega⟩
    simp only [spec_l12Wanted.l1]
    rw [hPd, if_pos (by omega), if_pos (by omega), if_neg (by omega), wi]
    have := hr k (by omega)
    rw [List.drop_eq_nil_of_le (by omega)] at this
    exact this
  | succ d ih =>
    intro k j m hj hk hr
    obtain ⟨k, rfl⟩ : ∃ q, k = q + 1 := ⟨k - 1, by omega⟩
    have wj : wrap64 ((j : Int) + 1) = ((j + 1 : Nat) : Int) := by rw [w_id (by omega) (by omega)]; omega
    rw [drop_rd (by omega)] at hr
    simp only [spec_l12Wanted.l1]
    rw [hPd, if_pos (by omega), if_pos (by omega), if_pos (by omega), if_pos (by omega), max_eq, wbind, wj]
    exact ih k (j + 1) _ (by omega) (by omega) hr
theorem walk0 {x3 : List WF} {K : Nat} {r : List WF} (d : Nat) : ∀ (k i : Nat) (m : Int), i + d = l.length → K + 10 * d + 1 ≤ k →
    (∀ k', K ≤ k' → spec_l12Wanted.l2 k' l x3 (mx (allP (l.drop i)) m) 1 = some r) → spec_l12Wanted.l0 k l x3 m (i : Int) = some r := by
  induction d with
  | zero =>
    intro k i m hi hk hr
    obtain ⟨k, rfl⟩ : ∃ q, k = q + 1 := ⟨k - 1, by omega⟩
    simp only [spec_l12Wanted.l0]
    rw [if_neg (by omega)]
    have := hr k (by omega)
    rw [allP_nil (by omega)] at this
    exact this
  | succ d ih =>
    intro k i m hi hk hr
    obtain ⟨k, rfl⟩ : ∃ q, k = q + 1 := ⟨k - 1, by omega⟩
    have hlt : i < l.length := by omega
    have hP := (hg _ (wmem hlt)).1
    simp only [spec_l12Wanted.l0]
    rw [if_pos (by omega)]
    refine walk1 hl hg hlt (K := K + 10 * d + 1) _ k 0 m (Nat.zero_add _) (by omega) (fun k' hk' => ?_)
    refine ih k' (i + 1) _ (by omega) hk' (fun k2 hk2 => ?_)
    have := hr k2 hk2
    rw [allP_drop hlt, mx_append] at this
    exact this
theorem spec_w {k : Nat} (hk : 400 ≤ k) : spec_l12Wanted.f k l = some (wOut l) := by
  have hm := mx_le (allP l) 0 (fun p hp => by
    obtain ⟨c, hc, hp⟩ := List.mem_flatMap.1 hp
    exact (hg c hc).2 p hp) (by omega) (by omega)
  unfold spec_l12Wanted.f
  refine walk0 hl hg (K := 301) l.length k 0 0 (by omega) (by omega) (fun k' hk' => ?_)
  obtain ⟨n, hn⟩ : ∃ n : Nat, mx (allP l) 0 = (n : Int) := ⟨(mx (allP l) 0).toNat, by omega⟩
  have h2 := walk2 hl hg (m := n) (by omega) n k' 0 (by omega) (by omega)
  rw [List.drop_zero, hn]
  unfold wOut
  rw [hn, Int.toNat_natCast]
  exact h2
end

end Go.Proofs.Ytmfbkkjlijaabaa.Q
