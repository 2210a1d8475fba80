/- What ChangeOf answers, the program's and the reference's: one and the same function. -/
import Derived.Test.YtmfbkkjlijaabaaQx13
import Derived.Test.YtmfbkkjlijaabaaQx16
import Derived.Test.YtmfbkkjlijaabaaQPlPrepared
import Derived.Test.YtmfbkkjlijaabaaQPlWho
import Derived.Test.YtmfbkkjlijaabaaQPlVotesA
namespace Go.Proofs.Ytmfbkkjlijaabaa.Q.CO
open Go.RowKit Go.Proofs.YtmfbkkjlijaabaaW.PrintWords Go.Proofs.YtmfbkkjlijaabaaW.PrintLast Go.Proofs.Ytmfbkkjlijaabaa.Q Go.Proofs.Ytmfbkkjlijaabaa.HB
set_option linter.unusedVariables false
set_option linter.unusedSimpArgs false

abbrev PM := S32
theorem cbind {α β : Type} (a : α) (f : α → Option β) : (some a).bind f = f a := of_eq_true (eq_self _)
theorem bestD_seq {l : List VT} {s : Int} (hs : s ≠ 0) : ∀ d, ((bestD l s d).1.2.1 = 0) ↔ ((bestD l s d).2 = false)
  | 0 => by simp [bestD]
  | d + 1 => by
    have ih := bestD_seq (l := l) hs d
    unfold bestD
    split
    · simp [hs]
    · exact ih
/-- The proofs of a change: for each number the best one. -/
def chL (l : List VT) (d : Nat) : Nat → Int → List PM → List PM
  | 0, _, acc => acc
  | n + 1, s, acc => chL l d n (s + 1) (if (bestD l s d).2 = true then acc ++ [(⟨(bestD l s d).1.1, (bestD l s d).1.2.1, (bestD l s d).1.2.2.1, (bestD l s d).1.2.2.2⟩ : PM)] else acc)
theorem chL_ok {l : List VT} (hv : votesB l = true) (d : Nat) : ∀ (n : Nat) (s : Int) (acc : List PM), (∀ p ∈ acc, p.f3.length ≤ 16) → (chL l d n s acc).length ≤ acc.length + n ∧ ∀ p ∈ chL l d n s acc, p.f3.length ≤ 16
  | 0, s, acc, h => ⟨by simp [chL], h⟩
  | n + 1, s, acc, h => by
    rw [chL]
    by_cases hb : (bestD l s d).2 = true
    · rw [if_pos hb]
      have := chL_ok hv d n (s + 1) (acc ++ [(⟨(bestD l s d).1.1, (bestD l s d).1.2.1, (bestD l s d).1.2.2.1, (bestD l s d).1.2.2.2⟩ : PM)]) (fun p hp => by
        rcases List.mem_append.1 hp with hp | hp
        · exact h p hp
        · rw [List.mem_singleton.1 hp]
          exact bestD_len hv s d)
      simp only [List.length_append, List.length_cons, List.length_nil] at this
      exact ⟨by omega, this.2⟩
    · rw [if_neg hb]
      have := chL_ok hv d n (s + 1) acc h
      exact ⟨by omega, this.2⟩
set_option maxRecDepth 100000 in
theorem spec_ch {l : List VT} {f : Int} {d : Nat} (hv : votesB l = true) (hd : d ≤ 7) : ∀ (n : Nat) (s : Int) (acc : List PM) (k : Nat), s + (n : Int) = 7 → 1 ≤ s → acc.length + n ≤ 100 → prepR l + n + 1 < k →
    spec_l12Change.l0 k l (d : Int) s f (d : Int) acc = some (f, (d : Int), chL l d n s acc)
  | 0, s, acc, k, hs, h1, ha, hk => by
    obtain ⟨k, rfl⟩ : ∃ q, k = q + 1 := ⟨k - 1, by omega⟩
    simp only [spec_l12Change.l0, chL]
    rw [if_neg (by omega)]
  | n + 1, s, acc, k, hs, h1, ha, hk => by
    obtain ⟨k, rfl⟩ : ∃ q, k = q + 1 := ⟨k - 1, by omega⟩
    have hb : spec_l11Best.f k l s (d : Int) = some ((bestD l s d).1.1, (bestD l s d).1.2.1, (bestD l s d).1.2.2.1, (bestD l s d).1.2.2.2, (bestD l s d).2) := by
      unfold spec_l11Best.f
      rw [w_id (by omega) (by omega)]
      have hle := (votesB_step hv).1
      exact spec_best_l0 (by omega) (R := (l.length * 1010 + 1) + (5 * l.length + 220)) (Nat.le_add_right _ _) (Nat.le_trans (Nat.add_le_add_left (by decide) _) (Nat.le_add_left _ _)) d (by omega) k (by
        have hp : prepR l = (l.length * 1010 + 1) + (5 * l.length + 220) + 10 := rfl
        generalize (l.length * 1010 + 1) + (5 * l.length + 220) = z at hp ⊢
        omega)
    have w : wrap64 (s + 1) = s + 1 := w_id (by omega) (by omega)
    simp only [spec_l12Change.l0, chL]
    rw [if_pos (by omega), hb, cbind, w]
    by_cases hx : (bestD l s d).2 = true
    · rw [if_pos hx, if_pos (by omega), if_pos hx]
      exact spec_ch hv hd n (s + 1) _ k (by omega) (by omega) (by simp; omega) (by omega)
    · rw [if_neg hx, if_neg hx]
      exact spec_ch hv hd n (s + 1) _ k (by omega) (by omega) (by omega) (by omega)
set_option maxRecDepth 100000 in
theorem impl_ch {l : List VT} {f : Int} {d : Nat} (hv : votesB l = true) (hd : d ≤ 7) : ∀ (n : Nat) (s : Int) (acc : List PM) (k : Nat), s + (n : Int) = 7 → 1 ≤ s → acc.length + n ≤ 100 → prepR l + n + 1 < k →
    impl_changeOf.l0 k l (d : Int) s f (d : Int) acc = some (f, (d : Int), chL l d n s acc)
  | 0, s, acc, k, hs, h1, ha, hk => by
    obtain ⟨k, rfl⟩ : ∃ q, k = q + 1 := ⟨k - 1, by omega⟩
    simp only [impl_changeOf.l0, chL]
    rw [if_neg (by omega)]
  | n + 1, s, acc, k, hs, h1, ha, hk => by
    obtain ⟨k, rfl⟩ : ∃ q, k = q + 1 := ⟨k - 1, by omega⟩
    have hb : impl_prepared.f k l s (wrap64 ((d : Int) - 1)) = some (bestD l s d).1 := by
      unfold impl_prepared.f
      rw [w_id (by omega) (by omega)]
      exact impl_prep_l0 hv d (by omega) k (by
        have hp : prepR l = (l.length * 1010 + 1) + (5 * l.length + 220) + 10 := rfl
        generalize l.length * 1010 + 1 = z at hp
        omega)
    have w : wrap64 (s + 1) = s + 1 := w_id (by omega) (by omega)
    have hsq := bestD_seq (l := l) (s := s) (by omega) d
    simp only [impl_changeOf.l0, chL]
    rw [if_pos (by omega), hb, cbind, w]
    by_cases hx : (bestD l s d).2 = true
    · rw [if_neg (fun e => by rw [hsq.1 e] at hx; cases hx), if_pos (by omega), if_pos hx]
      exact impl_ch hv hd n (s + 1) _ k (by omega) (by omega) (by simp; omega) (by omega)
    · rw [if_pos (hsq.2 (by simpa using hx)), if_neg hx]
      exact impl_ch hv hd n (s + 1) _ k (by omega) (by omega) (by omega) (by omega)
/-- What ChangeOf answers. -/
def chB (l : List VT) (f v : Int) : Int × Int × List PM := if votesB l = true ∧ whoB f = true ∧ (1 ≤ v ∧ v ≤ 7) then (f, v, chL l v.toNat 6 1 []) else (0, 0, [])
theorem chB_ok (l : List VT) (f v : Int) : (chB l f v).2.2.length ≤ 6 ∧ ∀ p ∈ (chB l f v).2.2, p.f3.length ≤ 16 := by
  unfold chB
  split
  · next h =>
    have := chL_ok h.1 v.toNat 6 1 [] (fun p hp => by cases hp)
    exact ⟨by simpa using this.1, this.2⟩
  · exact ⟨by simp, fun p hp => by cases hp⟩
theorem spec_eq {l : List VT} {f v : Int} {k : Nat} (hk : prepR l + 10 < k) : spec_ChangeOf.f k l f v = some (chB l f v) := by
  have hge := prepR_ge l
  unfold spec_ChangeOf.f chB
  by_cases h : l.length > 400
  · rw [if_pos (by omega)]
    have : votesB l ≠ true := fun hv => by have := (votesB_step hv).1; omega
    rw [if_neg (fun e => this e.1)]
  · rw [if_neg (by omega), spec_votes_eq (by omega), cbind]
    by_cases hv : votesB l = true
    · rw [if_pos hv, l09Who_eq, cbind]
      by_cases hf : whoB f = true
      · rw [if_pos hf, l03Is_eq, cbind]
        by_cases hvv : 1 ≤ v ∧ v ≤ 7
        · rw [if_pos (decide_eq_true hvv), if_pos ⟨hv, hf, hvv⟩]
          obtain ⟨d, rfl⟩ : ∃ d : Nat, v = (d : Int) := ⟨v.toNat, by omega⟩
          unfold spec_l12Change.f
          rw [spec_ch hv (by omega) 6 1 [] k (by omega) (by omega) (by simp) (by omega), cbind, Int.toNat_natCast]
        · rw [if_neg (by simpa using hvv), if_neg (fun e => hvv e.2.2)]
      · rw [if_neg hf, if_neg (fun e => hf e.2.1)]
    · rw [if_neg hv, if_neg (fun e => hv e.1)]
theorem impl_eq {l : List VT} {f v : Int} {k : Nat} (hk : prepR l + 10 < k) : impl_ChangeOf.f k l f v = some (chB l f v) := by
  have hge := prepR_ge l
  unfold impl_ChangeOf.f chB
  rw [impl_votes_eq (by omega), cbind]
  by_cases hv : votesB l = true
  · rw [if_pos hv, isReplica_eq, cbind]
    by_cases hf : whoB f = true
    · rw [if_pos hf, show impl_isView.f v 1 = some (decide (1 ≤ v ∧ v ≤ 7)) by unfold impl_isView.f; rw [within_eq]; rfl, cbind]
      by_cases hvv : 1 ≤ v ∧ v ≤ 7
      · rw [if_pos (decide_eq_true hvv), if_pos ⟨hv, hf, hvv⟩]
        obtain ⟨d, rfl⟩ : ∃ d : Nat, v = (d : Int) := ⟨v.toNat, by omega⟩
        unfold impl_changeOf.f
        rw [impl_ch hv (by omega) 6 1 [] k (by omega) (by omega) (by simp) (by omega), cbind, Int.toNat_natCast]
      · rw [if_neg (by simpa using hvv), if_neg (fun e => hvv e.2.2)]
    · rw [if_neg hf, if_neg (fun e => hf e.2.1)]
  · rw [if_neg hv, if_neg (fun e => hv e.1)]
end Go.Proofs.Ytmfbkkjlijaabaa.Q.CO
