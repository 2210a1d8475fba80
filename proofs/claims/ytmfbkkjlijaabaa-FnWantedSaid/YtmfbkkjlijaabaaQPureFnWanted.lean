/- FnWanted: of drawn changes the program wants what the reference wants, each operation that of the greatest view that is proved; and a change that the program makes of drawn votes is the reference's, its proofs are the reference's proofs, and it is right. No condition. -/
import Derived.Test.YtmfbkkjlijaabaaQSaidFnWanted
import Derived.Test.YtmfbkkjlijaabaaQPlWantedLaw
import Derived.Test.YtmfbkkjlijaabaaQPlDrawW
import Derived.Test.YtmfbkkjlijaabaaQPlChangeOf
import Derived.Test.YtmfbkkjlijaabaaQPlProofOfB
import Derived.Test.YtmfbkkjlijaabaaQPlProofRt
import Derived.Test.YtmfbkkjlijaabaaQx6
import Derived.Test.YtmfbkkjlijaabaaQx13
import Derived.Test.YtmfbkkjlijaabaaQx17
namespace Go.Proofs.Ytmfbkkjlijaabaa.Q.PureFnWanted
open Go.RowKit Go.Proofs.YtmfbkkjlijaabaaW.PrintWords Go.Proofs.YtmfbkkjlijaabaaW.PrintLast Go.Proofs.Ytmfbkkjlijaabaa.Q Go.Proofs.Ytmfbkkjlijaabaa.Q.CO Go.Proofs.Ytmfbkkjlijaabaa.Q.PB Go.Proofs.Ytmfbkkjlijaabaa.HB
set_option linter.unusedVariables false
set_option linter.unusedSimpArgs false

theorem best_ok {l : List VT} {s : Int} : ∀ d : Nat, (bestD l s d).2 = true → ∃ w : Nat, w < d ∧ ∃ op : ByteArray, (bestD l s d).1 = ((w : Int), s, op, vs 2 (w : Int) s l op) ∧ 3 ≤ (vs 2 (w : Int) s l op).length
  | 0, h => by simp [bestD] at h
  | d + 1, h => by
    have ih := best_ok (l := l) (s := s) d
    unfold bestD at h ⊢
    cases hf : (opsB 2 (d : Int) s l).find? (enough 2 (d : Int) s l) with
    | some op => exact ⟨d, by omega, op, rfl, of_decide_eq_true (show enough 2 (d : Int) s l op = true from List.find?_some hf)⟩
    | none =>
      rw [hf] at h
      obtain ⟨w, h1, h2⟩ := ih h
      exact ⟨w, by omega, h2⟩
/-- A proof as it is found. -/
def goodW (l : List VT) (d : Nat) (p : PM) : Prop := ∃ w : Nat, w < d ∧ p.f0 = (w : Int) ∧ p.f3 = vs 2 p.f0 p.f1 l p.f2 ∧ 3 ≤ (vs 2 p.f0 p.f1 l p.f2).length
theorem chL_good {l : List VT} {d : Nat} : ∀ (n : Nat) (s : Int) (acc : List PM), (∀ p ∈ acc, goodW l d p ∧ p.f1 < s) → acc.Pairwise (fun p q => p.f1 < q.f1) → (∀ p ∈ chL l d n s acc, goodW l d p) ∧ (chL l d n s acc).Pairwise (fun p q => p.f1 < q.f1)
  | 0, s, acc, h, hp => ⟨fun p hp => (h p hp).1, hp⟩
  | n + 1, s, acc, h, hp => by
    rw [chL]
    by_cases hb : (bestD l s d).2 = true
    · rw [if_pos hb]
      obtain ⟨w, h1, op, h2, h3⟩ := best_ok d hb
      rw [h2]
      refine chL_good n (s + 1) _ (fun p hm => ?_) ?_
      · rcases List.mem_append.1 hm with hm | hm
        · exact ⟨(h p hm).1, by have := (h p hm).2; omega⟩
        · rw [List.mem_singleton.1 hm]
          exact ⟨⟨w, h1, rfl, rfl, h3⟩, by show s < s + 1; omega⟩
      · rw [List.pairwise_append]
        refine ⟨hp, List.pairwise_singleton _ _, fun p hm q hq => ?_⟩
        rw [List.mem_singleton.1 hq]
        exact (h p hm).2
    · rw [if_neg hb]
      exact chL_good n (s + 1) _ (fun p hm => ⟨(h p hm).1, by have := (h p hm).2; omega⟩) hp
theorem scan_all {step : Nat → Option Bool} : ∀ d i, (∀ j, i ≤ j → j < i + d → step j = none) → scanFrom step true d i = true
  | 0, i, _ => rfl
  | d + 1, i, h => by
    unfold scanFrom
    rw [h i (by omega) (by omega)]
    exact scan_all d (i + 1) (fun j h1 h2 => h j (by omega) (by omega))
theorem good_right {l : List VT} (hv : votesB l = true) {d : Nat} {p : PM} (h : goodW l d p) : proofB p.f0 p.f1 p.f2 p.f3 = true := by
  obtain ⟨w, h1, h2, h3, h4⟩ := h
  rw [h3]
  exact proof_right hv h4
theorem ch_right {l : List VT} (hv : votesB l = true) {f : Int} (hf : whoB f = true) {d : Nat} (h1 : 1 ≤ d) (h7 : d ≤ 7) : changeB f (d : Int) (chL l d 6 1 []) = true := by
  obtain ⟨hg, hp⟩ := chL_good (l := l) (d := d) 6 1 [] (fun p hp => by cases hp) List.Pairwise.nil
  generalize chL l d 6 1 [] = P at hg hp
  unfold changeB
  rw [hf, decide_eq_true (show (1 : Int) ≤ (d : Int) ∧ (d : Int) ≤ 7 by omega)]
  show scanFrom _ true _ 0 = true
  refine scan_all _ _ (fun j _ hj => ?_)
  have hj : j < P.length := by omega
  have hm := rdPI hj
  have hw := hg _ hm
  simp only [chStep]
  rw [if_pos (good_right hv hw)]
  obtain ⟨w, h2, h3, _⟩ := hw
  rw [if_neg (by omega)]
  by_cases h0 : j = 0
  · rw [if_pos h0]
  · rw [if_neg h0, if_neg ?_]
    have e1 : rd_T32 P (j : Int) = P[j] := by
      show P.getD (j : Int).toNat _ = _
      rw [Int.toNat_natCast, List.getD_eq_getElem?_getD, List.getElem?_eq_getElem hj]; rfl
    have e2 : rd_T32 P ((j : Int) - 1) = P[j - 1] := by
      show P.getD ((j : Int) - 1).toNat _ = _
      rw [show ((j : Int) - 1).toNat = j - 1 by omega, List.getD_eq_getElem?_getD, List.getElem?_eq_getElem (show j - 1 < P.length by omega)]; rfl
    have := List.pairwise_iff_getElem.1 hp (j - 1) j (by omega) hj (by omega)
    rw [e1, e2]
    omega
/-- A change, compared with itself. -/
theorem lwC_l0 {a b : Int} (P : List PM) (hl : P.length ≤ 100) (hb : ∀ p ∈ P, p.f3.length ≤ 16) (d : Nat) : ∀ (k i : Nat), i + d = P.length → d + 20 < k → laws_lwChange.l0 k (i : Int) a b P a b P = some true := by
  induction d with
  | zero =>
    intro k i hi hk
    obtain ⟨k, rfl⟩ : ∃ q, k = q + 1 := ⟨k - 1, by omega⟩
    simp only [laws_lwChange.l0]
    rw [if_neg (by omega)]
  | succ d ih =>
    intro k i hi hk
    obtain ⟨k, rfl⟩ : ∃ q, k = q + 1 := ⟨k - 1, by omega⟩
    simp only [laws_lwChange.l0]
    rw [if_pos (by omega), if_pos (by omega), if_pos (by omega), lwProof_eq (hb _ (rdPI (by omega))) (by omega), dbind, if_pos rfl, wsm (show i ≤ 1000 by omega)]
    exact ih k (i + 1) (by omega) (by omega)
theorem lwC_eq {a b : Int} {P : List PM} (hl : P.length ≤ 100) (hb : ∀ p ∈ P, p.f3.length ≤ 16) {k : Nat} (hk : 130 < k) : laws_lwChange.f k a b P a b P = some true := by
  obtain ⟨k, rfl⟩ : ∃ q, k = q + 1 := ⟨k - 1, by omega⟩
  unfold laws_lwChange.f
  rw [if_pos rfl, if_pos rfl, show ((P.length : Int) != (P.length : Int)) = false by simp]
  simp only [laws_lwChange.j0]
  rw [if_neg (by decide)]
  exact lwC_l0 P hl hb P.length k 0 (by omega) (by omega)
theorem law_l5 {l : List VT} (hv : votesB l = true) (hl : l.length ≤ 402) {f : Int} {d : Nat} {P : List PM} (hP : P.length ≤ 6) (hb : ∀ p ∈ P, p.f3.length ≤ 16) (hg : ∀ p ∈ P, goodW l d p) (hc : changeB f (d : Int) P = true) (n : Nat) : ∀ (k i : Nat), i + n = P.length → n + 2000 < k → laws_FnWanted.l5 k l (i : Int) f (d : Int) P = some true := by
  induction n with
  | zero =>
    intro k i hi hk
    obtain ⟨k, rfl⟩ : ∃ q, k = q + 1 := ⟨k - 1, by omega⟩
    have hM : byMax P ≤ 16 := sup_le (fun p hp => hb p hp)
    simp only [laws_FnWanted.l5]
    rw [if_neg (by omega), spec_change_eq (by omega) (by omega) (by omega), dbind, hc]
  | succ n ih =>
    intro k i hi hk
    obtain ⟨k, rfl⟩ : ∃ q, k = q + 1 := ⟨k - 1, by omega⟩
    have hm : rd_T32 P (i : Int) ∈ P := rdPI (by omega)
    have hw := hg _ hm
    have hr := good_right hv hw
    have h16 := hb _ hm
    generalize hp : rd_T32 P (i : Int) = p at hm hw hr h16
    obtain ⟨w, h1, h2, h3, h4⟩ := hw
    have hsz : p.f2.size ≤ 120 := by
      simp only [proofB, Bool.and_eq_true, decide_eq_true_eq] at hr
      exact hr.2.2.1
    have hV : votersB l 2 p.f0 p.f1 p.f2 = p.f3 := by
      unfold votersB
      rw [if_neg (by omega), if_pos hv, ← h3]
    have hO : pOf l p.f0 p.f1 p.f2 = (p.f0, p.f1, p.f2, p.f3) := by
      unfold pOf
      rw [hV, if_neg (by rw [h3]; omega)]
    simp only [laws_FnWanted.l5]
    rw [hp, if_pos (by omega), if_pos (by omega), spec_proofOf_eq (by omega), dbind, hO]
    show (laws_lwProof.f k p.f0 p.f1 p.f2 p.f3 p.f0 p.f1 p.f2 p.f3).bind _ = _
    rw [lwProof_eq h16 (by omega), dbind, if_pos rfl, wsm (show i ≤ 1000 by omega)]
    exact ih k (i + 1) (by omega) (by omega)
/-- The law's last part. -/
theorem law_end {l : List VT} (hl : l.length ≤ 402) (f v : Int) {k : Nat} (hk : prepR l + 4000 < k) :
    ((laws_lwChange.f k (chB l f v).1 (chB l f v).2.1 (chB l f v).2.2 (chB l f v).1 (chB l f v).2.1 (chB l f v).2.2).bind fun t141 => (if t141 = true then (laws_FnWanted.j6 k l f v ((chB l f v).2.1 == 0) (chB l f v).1 (chB l f v).2.1 (chB l f v).2.2) else (laws_FnWanted.j6 k l f v true (chB l f v).1 (chB l f v).2.1 (chB l f v).2.2))) = some true := by
  obtain ⟨h6, hb⟩ := chB_ok l f v
  have hge := prepR_ge l
  rw [lwC_eq (by omega) hb (by omega), dbind, if_pos rfl]
  obtain ⟨k, rfl⟩ : ∃ q, k = q + 1 := ⟨k - 1, by omega⟩
  simp only [laws_FnWanted.j6]
  by_cases h0 : (chB l f v).2.1 = 0
  · rw [if_pos (beq_iff_eq.2 h0), spec_eq (by omega), dbind, lwC_eq (by omega) hb (by omega), dbind]
  · rw [if_neg (by simpa using h0)]
    by_cases h : votesB l = true ∧ whoB f = true ∧ (1 ≤ v ∧ v ≤ 7)
    · have e : chB l f v = (f, v, chL l v.toNat 6 1 []) := by unfold chB; rw [if_pos h]
      rw [e] at h6 hb ⊢
      obtain ⟨hv, hf, h1, h7⟩ := h
      obtain ⟨d, rfl⟩ : ∃ d : Nat, v = (d : Int) := ⟨v.toNat, by omega⟩
      rw [Int.toNat_natCast] at h6 hb ⊢
      have h6' : (chL l d 6 1 []).length ≤ 6 := h6
      have hb' : ∀ p ∈ chL l d 6 1 [], p.f3.length ≤ 16 := hb
      exact law_l5 hv hl h6' hb' (chL_good (l := l) (d := d) 6 1 [] (fun p hp => by cases hp) List.Pairwise.nil).1 (ch_right hv hf (by omega) (by omega)) (chL l d 6 1 []).length k 0 (by omega) (by omega)
    · exact absurd (by unfold chB; rw [if_neg h]) h0

theorem proved : SaidFnWanted.Pure := by
  intro x0 x1 _ _
  by_cases hx : x0.length ≤ 2000000 ∧ x1.length ≤ 2000000
  · obtain ⟨K, hK⟩ : ∃ K : Nat, K = 600000 := ⟨_, rfl⟩
    refine ⟨K + 6000 + 1, ?_⟩
    have fin : ∀ b : Bool, laws_FnWanted.j0 (K + 6000 + 1) x0 x1 b = some true := by
      intro b
      rw [laws_FnWanted.j0]
      cases b with
      | true => rw [if_pos rfl]
      | false =>
        obtain ⟨l, e1, hM⟩ := drawW_ok hx.1 (k := K + 6000) (by omega)
        have hlen := wAns_len l
        rw [if_neg (by decide), e1, dbind, impl_W (by omega) (by omega), dbind, spec_W (by omega) (by omega), dbind, if_pos rfl]
        refine law_wanted (l := l) (x1 := x1) (r := true) (K := K + 10) (fun k' hk' => ?_) (wAns l).length (K + 6000) 0 (by omega) (by omega)
        obtain ⟨m, f, v, e2, hm⟩ := drawC_ok hx.2 (k := k') (by omega)
        have hp : prepR m ≤ 500000 := by unfold prepR; omega
        simp only [laws_FnWanted.l0]
        rw [if_neg (by omega), e2, dbind]
        dsimp only
        rw [impl_eq (by omega), dbind, spec_eq (by omega), dbind]
        exact law_end hm f v (by omega)
    unfold laws_FnWanted.f
    split
    · exact fin _
    · exact fin _
  · refine ⟨2, ?_⟩
    unfold laws_FnWanted.f
    by_cases h0 : (x0.length : Int) > 1048576
    · rw [if_pos h0]
      rw [laws_FnWanted.j0, if_pos rfl]
    · rw [if_neg h0, decide_eq_true (show (x1.length : Int) > 1048576 by omega), laws_FnWanted.j0, if_pos rfl]

end Go.Proofs.Ytmfbkkjlijaabaa.Q.PureFnWanted
