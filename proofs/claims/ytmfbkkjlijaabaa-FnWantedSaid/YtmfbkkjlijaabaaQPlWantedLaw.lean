/- The law's walks over the proofs of changes: the greatest view, and whether an operation is found; against the best proof of each number. -/
import Derived.Test.YtmfbkkjlijaabaaQx17
import Derived.Test.YtmfbkkjlijaabaaQPlWantedA
namespace Go.Proofs.Ytmfbkkjlijaabaa.Q
open Go.RowKit Go.Proofs.YtmfbkkjlijaabaaW.PrintWords Go.Proofs.YtmfbkkjlijaabaaW.PrintLast Go.Proofs.Ytmfbkkjlijaabaa.HB
set_option linter.unusedVariables false
set_option linter.unusedSimpArgs false

/-- The greatest view of a number's proofs. -/
def mo (s : Int) : List WP → Int → Int
  | [], m => m
  | p :: ps, m => mo s ps (if p.f1 = s then (if p.f0 > m then p.f0 else m) else m)
theorem mo_append (s : Int) : ∀ (a c : List WP) (m : Int), mo s (a ++ c) m = mo s c (mo s a m)
  | [], c, m => rfl
  | p :: a, c, m => mo_append s a c _
theorem mo_sb (s : Int) : ∀ (ps : List WP) (b : WP), mo s ps b.f0 = (sb s ps b).f0
  | [], b => rfl
  | p :: ps, b => by
    simp only [mo, sb]
    rw [← mo_sb s ps]
    congr 1
    split
    · split <;> rfl
    · rfl
theorem sb_mem (s : Int) : ∀ (ps : List WP) (b : WP), sb s ps b = b ∨ (sb s ps b ∈ ps ∧ (sb s ps b).f1 = s)
  | [], b => .inl rfl
  | p :: ps, b => by
    simp only [sb]
    rcases sb_mem s ps (if p.f1 = s then (if p.f0 > b.f0 then p else b) else b) with h | ⟨h1, h2⟩
    · rw [h]
      by_cases h1 : p.f1 = s
      · rw [if_pos h1]
        by_cases h2 : p.f0 > b.f0
        · rw [if_pos h2]
          exact .inr ⟨List.mem_cons_self .., h1⟩
        · rw [if_neg h2]
          exact .inl rfl
      · rw [if_neg h1]
        exact .inl rfl
    · exact .inr ⟨List.mem_cons_of_mem _ h1, h2⟩
/-- Is there a proof of this number, view and operation? -/
def fo (s m : Int) (op : ByteArray) : List WP → Bool → Bool
  | [], b => b
  | p :: ps, b => fo s m op ps (if b = true then true else if p.f1 = s then (if p.f0 = m then (p.f2.toList == op.toList) else false) else false)
theorem fo_append (s m : Int) (op : ByteArray) : ∀ (a c : List WP) (b : Bool), fo s m op (a ++ c) b = fo s m op c (fo s m op a b)
  | [], c, b => rfl
  | p :: a, c, b => fo_append s m op a c _
theorem fo_true (s m : Int) (op : ByteArray) : ∀ ps : List WP, fo s m op ps true = true
  | [] => rfl
  | p :: ps => fo_true s m op ps
theorem fo_mem {s m : Int} {op : ByteArray} : ∀ {ps : List WP} (b : Bool), (∃ p ∈ ps, p.f1 = s ∧ p.f0 = m ∧ p.f2 = op) → fo s m op ps b = true
  | [], b, h => by obtain ⟨p, hp, _⟩ := h; cases hp
  | q :: ps, b, h => by
    obtain ⟨p, hp, h1, h2, h3⟩ := h
    simp only [fo]
    rcases List.mem_cons.1 hp with e | e
    · subst e
      rw [if_pos h1, if_pos h2, h3, beq_self_eq_true]
      have : (if b = true then true else true) = true := by split <;> rfl
      rw [this]
      exact fo_true _ _ _ _
    · exact fo_mem _ ⟨p, e, h1, h2, h3⟩
theorem wsm {i : Nat} (h : i ≤ 1000) : wrap64 ((i : Int) + 1) = ((i + 1 : Nat) : Int) := by rw [w_id (by omega) (by omega)]; omega
section
variable {l : List WC} (hl : l.length ≤ 4) (hg : ∀ c ∈ l, c.f2.length ≤ 6 ∧ ∀ p ∈ c.f2, goodP p)
include hl hg
theorem lawA2 {x1 : List Int} {x6 x7 : List WF} {x8 i K : Nat} {fd : Bool} (h8 : x8 < x6.length) (hi : i < l.length) {r : Bool} (d : Nat) : ∀ (k j : Nat) (m : Int), j + d = (rd_T29 l (i : Int)).f2.length → K + d + 1 ≤ k →
    (∀ k', K ≤ k' → laws_FnWanted.l1 k' x1 l x6 x7 (x8 : Int) (mo (rd_T34 x6 (x8 : Int)).f0 ((rd_T29 l (i : Int)).f2.drop j) m) fd ((i + 1 : Nat) : Int) = some r) →
    laws_FnWanted.l2 k x1 l x6 x7 (x8 : Int) m fd (i : Int) (j : Int) = some r := by
  obtain ⟨hP, hp⟩ := hg _ (wmem hi)
  generalize hPd : (rd_T29 l (i : Int)).f2 = P at hP hp
  induction d with
  | zero =>
    intro k j m hj hk hr
    obtain ⟨k, rfl⟩ : ∃ q, k = q + 1 := ⟨k - 1, by omega⟩
    simp only [laws_FnWanted.l2]
    rw [hPd, if_pos (by omega), if_pos (by omega), if_neg (by omega), wsm (show i ≤ 1000 by omega)]
    have := hr k (by omega)
    rw [List.drop_eq_nil_of_le (by omega)] at this
    exact this
  | succ d ih =>
    intro k j m hj hk hr
    obtain ⟨k, rfl⟩ : ∃ q, k = q + 1 := ⟨k - 1, by omega⟩
    have hj9 : j ≤ 1000 := by omega
    rw [drop_rd (by omega)] at hr
    simp only [laws_FnWanted.l2]
    rw [hPd, if_pos (by omega), if_pos (by omega), if_pos (by omega), if_pos (by omega), if_pos (by omega), if_pos (by omega), wsm hj9]
    simp only [mo] at hr
    by_cases h1 : (rd_T32 P (j : Int)).f1 = (rd_T34 x6 (x8 : Int)).f0
    · rw [if_pos h1]
      rw [if_pos h1] at hr
      by_cases h2 : (rd_T32 P (j : Int)).f0 > m
      · rw [if_pos h2]
        rw [if_pos h2] at hr
        exact ih k (j + 1) _ (by omega) (by omega) hr
      · rw [if_neg h2]
        rw [if_neg h2] at hr
        exact ih k (j + 1) m (by omega) (by omega) hr
    · rw [if_neg h1]
      rw [if_neg h1] at hr
      exact ih k (j + 1) m (by omega) (by omega) hr
theorem lawA1 {x1 : List Int} {x6 x7 : List WF} {x8 K : Nat} {fd : Bool} (h8 : x8 < x6.length) {r : Bool} (d : Nat) : ∀ (k i : Nat) (m : Int), i + d = l.length → K + 10 * d + 1 ≤ k →
    (∀ k', K ≤ k' → laws_FnWanted.l3 k' x1 l x6 x7 (x8 : Int) (mo (rd_T34 x6 (x8 : Int)).f0 (allP (l.drop i)) m) fd 0 = some r) →
    laws_FnWanted.l1 k x1 l x6 x7 (x8 : Int) m fd (i : Int) = some r := by
  induction d with
  | zero =>
    intro k i m hi hk hr
    obtain ⟨k, rfl⟩ : ∃ q, k = q + 1 := ⟨k - 1, by omega⟩
    simp only [laws_FnWanted.l1]
    rw [if_neg (by omega)]
    have := hr k (by omega)
    rw [allP_nil (by omega)] at this
    exact this
  | succ d ih =>
    intro k i m hi hk hr
    obtain ⟨k, rfl⟩ : ∃ q, k = q + 1 := ⟨k - 1, by omega⟩
    have hlt : i < l.length := by omega
    have hP := (hg _ (wmem hlt)).1
    simp only [laws_FnWanted.l1]
    rw [if_pos (by omega)]
    refine lawA2 hl hg h8 hlt (K := K + 10 * d + 1) _ k 0 m (Nat.zero_add _) (by omega) (fun k' hk' => ?_)
    refine ih k' (i + 1) _ (by omega) hk' (fun k2 hk2 => ?_)
    have := hr k2 hk2
    rw [allP_drop hlt, mo_append] at this
    exact this
theorem lawB4 {x1 : List Int} {x6 x7 : List WF} {x8 i K : Nat} {m : Int} (h8 : x8 < x6.length) (hi : i < l.length) {r : Bool} (d : Nat) : ∀ (k j : Nat) (fd : Bool), j + d = (rd_T29 l (i : Int)).f2.length → K + d + 1 ≤ k →
    (∀ k', K ≤ k' → laws_FnWanted.l3 k' x1 l x6 x7 (x8 : Int) m (fo (rd_T34 x6 (x8 : Int)).f0 m (rd_T34 x6 (x8 : Int)).f1 ((rd_T29 l (i : Int)).f2.drop j) fd) ((i + 1 : Nat) : Int) = some r) →
    laws_FnWanted.l4 k x1 l x6 x7 (x8 : Int) m fd (i : Int) (j : Int) = some r := by
  obtain ⟨hP, hp⟩ := hg _ (wmem hi)
  generalize hPd : (rd_T29 l (i : Int)).f2 = P at hP hp
  induction d with
  | zero =>
    intro k j fd hj hk hr
    obtain ⟨k, rfl⟩ : ∃ q, k = q + 1 := ⟨k - 1, by omega⟩
    simp only [laws_FnWanted.l4]
    rw [hPd, if_pos (by omega), if_pos (by omega), if_neg (by omega), wsm (show i ≤ 1000 by omega)]
    have := hr k (by omega)
    rw [List.drop_eq_nil_of_le (by omega)] at this
    exact this
  | succ d ih =>
    intro k j fd hj hk hr
    obtain ⟨k, rfl⟩ : ∃ q, k = q + 1 := ⟨k - 1, by omega⟩
    have hj9 : j ≤ 1000 := by omega
    rw [drop_rd (by omega)] at hr
    simp only [laws_FnWanted.l4]
    rw [hPd, if_pos (by omega), if_pos (by omega), if_pos (by omega), if_pos (by omega), wsm hj9]
    simp only [fo] at hr
    by_cases h0 : fd = true
    · rw [if_pos h0]
      rw [if_pos h0] at hr
      exact ih k (j + 1) true (by omega) (by omega) hr
    · rw [if_neg h0, if_pos (by omega), if_pos (by omega)]
      rw [if_neg h0] at hr
      by_cases h1 : (rd_T32 P (j : Int)).f1 = (rd_T34 x6 (x8 : Int)).f0
      · rw [if_pos h1]
        rw [if_pos h1] at hr
        by_cases h2 : (rd_T32 P (j : Int)).f0 = m
        · rw [if_pos h2]
          rw [if_pos h2] at hr
          exact ih k (j + 1) _ (by omega) (by omega) hr
        · rw [if_neg h2]
          rw [if_neg h2] at hr
          exact ih k (j + 1) false (by omega) (by omega) hr
      · rw [if_neg h1]
        rw [if_neg h1] at hr
        exact ih k (j + 1) false (by omega) (by omega) hr
theorem lawB3 {x1 : List Int} {x6 : List WF} {x8 K : Nat} {m : Int} (h8 : x8 < x6.length) (h6 : x6.length ≤ 1000) (hs : (rd_T34 x6 (x8 : Int)).f0 = (x8 : Int) + 1) {r : Bool} (d : Nat) : ∀ (k i : Nat) (fd : Bool), i + d = l.length → K + 10 * d + 1 ≤ k →
    (fo (rd_T34 x6 (x8 : Int)).f0 m (rd_T34 x6 (x8 : Int)).f1 (allP (l.drop i)) fd = true ∨ (m < 0 ∧ (rd_T34 x6 (x8 : Int)).f1.toList = ([] : List UInt8))) →
    (∀ k', K ≤ k' → laws_FnWanted.l0 k' x1 l x6 x6 ((x8 + 1 : Nat) : Int) = some r) →
    laws_FnWanted.l3 k x1 l x6 x6 (x8 : Int) m fd (i : Int) = some r := by
  induction d with
  | zero =>
    intro k i fd hi hk hf hr
    obtain ⟨k, rfl⟩ : ∃ q, k = q + 1 := ⟨k - 1, by omega⟩
    have h := hr k (by omega)
    rw [allP_nil (by omega)] at hf
    simp only [laws_FnWanted.l3]
    rw [if_neg (by omega), if_pos (by omega), if_pos (by omega), if_pos (by omega), beq_self_eq_true, beq_self_eq_true, if_neg (by decide), hs, wsm (show x8 ≤ 1000 by omega), if_pos (by omega)]
    by_cases h0 : fd = true
    · rw [if_pos h0]
      exact h
    · rw [if_neg h0]
      rcases hf with hf | ⟨h1, h2⟩
      · exact absurd hf h0
      · rw [if_neg (by omega), if_pos h2]
        exact h
  | succ d ih =>
    intro k i fd hi hk hf hr
    obtain ⟨k, rfl⟩ : ∃ q, k = q + 1 := ⟨k - 1, by omega⟩
    have hlt : i < l.length := by omega
    have hP := (hg _ (wmem hlt)).1
    simp only [laws_FnWanted.l3]
    rw [if_pos (by omega)]
    refine lawB4 hl hg h8 hlt (K := K + 10 * d + 1) _ k 0 fd (Nat.zero_add _) (by omega) (fun k' hk' => ?_)
    rw [allP_drop hlt, fo_append] at hf
    exact ih k' (i + 1) _ (by omega) hk' hf hr
end
theorem wAns_ok {l : List CI} {i : Nat} (hi : i < (wAns l).length) : l.length ≤ 4 ∧ (∀ c ∈ l, c.f2.length ≤ 6 ∧ ∀ p ∈ c.f2, goodP p) ∧ rd_T34 (wAns l) (i : Int) = ⟨(i : Int) + 1, (sb ((i : Int) + 1) (allP l) w_0).f2⟩ := by
  by_cases h4 : l.length ≤ 4
  · by_cases hs : scanFrom (wStep l) true l.length 0 = true
    · have hn := scan_none (wStep_ne l) _ _ hs
      have hg := all_ok (l := l) (fun j hj => hn j (by omega) (by omega))
      have e : wAns l = wOut l := by unfold wAns; rw [if_pos h4, if_pos hs]
      refine ⟨h4, hg, ?_⟩
      rw [e] at hi ⊢
      have key : ∀ (n : Nat) (F : Nat → WF), i < ((List.range n).map F).length → rd_T34 ((List.range n).map F) (i : Int) = F i := fun n F hi => by
        show ((List.range n).map F).getD i _ = F i
        rw [List.getD_eq_getElem?_getD, List.getElem?_eq_getElem hi]
        simp
      exact key _ (fun (i : Nat) => (⟨(i : Int) + 1, (sb ((i : Int) + 1) (allP l) w_0).f2⟩ : WF)) hi
    · exact absurd hi (by unfold wAns; rw [if_pos h4, if_neg hs]; simp)
  · exact absurd hi (by unfold wAns; rw [if_neg h4]; simp)
theorem law_wanted {l : List CI} {x1 : List Int} {K : Nat} {r : Bool} (hr : ∀ k', K ≤ k' → laws_FnWanted.l0 (k' + 1) x1 l (wAns l) (wAns l) ((wAns l).length : Int) = some r) (d : Nat) : ∀ (k i : Nat), i + d = (wAns l).length → K + 200 * d + 1 ≤ k → laws_FnWanted.l0 k x1 l (wAns l) (wAns l) (i : Int) = some r := by
  have hlen := wAns_len l
  induction d with
  | zero =>
    intro k i hi hk
    obtain ⟨k, rfl⟩ : ∃ q, k = q + 1 := ⟨k - 1, by omega⟩
    rw [show i = (wAns l).length by omega]
    exact hr k (by omega)
  | succ d ih =>
    intro k i hi hk
    obtain ⟨k, rfl⟩ : ∃ q, k = q + 1 := ⟨k - 1, by omega⟩
    have hlt : i < (wAns l).length := by omega
    obtain ⟨h4, hg, hrd⟩ := wAns_ok hlt
    have e0 : (rd_T34 (wAns l) (i : Int)).f0 = (i : Int) + 1 := by rw [hrd]
    have e1 : (rd_T34 (wAns l) (i : Int)).f1 = (sb ((i : Int) + 1) (allP l) w_0).f2 := by rw [hrd]
    simp only [laws_FnWanted.l0]
    rw [if_pos (by omega)]
    refine lawA1 h4 hg hlt (K := K + 200 * d + 100) l.length k 0 (-1) (by omega) (by omega) (fun k2 hk2 => ?_)
    rw [List.drop_zero]
    refine lawB3 h4 hg hlt (by omega) e0 (K := K + 200 * d + 1) l.length k2 0 false (by omega) (by omega) ?_ (fun k3 hk3 => ih k3 (i + 1) (by omega) hk3)
    rw [List.drop_zero, e0, e1, show (-1 : Int) = w_0.f0 from rfl, mo_sb]
    rcases sb_mem ((i : Int) + 1) (allP l) w_0 with h | ⟨h1, h2⟩
    · rw [h]
      exact .inr ⟨by decide, by rw [Go.ByteArray.toList_eq]; rfl⟩
    · exact .inl (fo_mem _ ⟨_, h1, h2, rfl, rfl⟩)
end Go.Proofs.Ytmfbkkjlijaabaa.Q
