/- The vector of codes: both programs make the same, and find the same good. -/
import Derived.Test.YtgpgamapopnfcaaDoorQPlKeys
import Derived.Test.YtgpgamapopnfcaaDoorQx12
import Derived.Test.YtgpgamapopnfcaaDoorQx13
import Derived.Test.YtgpgamapopnfcaaDoorQx14
import Derived.Test.YtgpgamapopnfcaaDoorQx17
import Derived.Test.YtgpgamapopnfcaaDoorQx19
namespace Go.Proofs.YtgpgamapopnfcaaDoor.Q
open Go Go.RowKit Go.Proofs.YtgpgamapopnfcaaDoor.HB Go.Proofs.YtgpgamapopnfcaaDoorW.PrintWords
set_option linter.unusedVariables false
set_option linter.unusedSimpArgs false
theorem macP_size (k t : ByteArray) : (macP k t).size = 32 := dig_size _
/-- What stands at a place of the vector. -/
def vat (s : ByteArray) (a : Int) (t : ByteArray) (i : Int) : ByteArray := if i = a then ⟨#[]⟩ else (macP (pkey s a i) t).extract 0 8
def vtl (s : ByteArray) (a : Int) (t : ByteArray) : Nat → Nat → List ByteArray
  | 0, _ => []
  | n + 1, i => vat s a t (i : Int) :: vtl s a t n (i + 1)
theorem vtl_len (s : ByteArray) (a : Int) (t : ByteArray) : ∀ (n i : Nat), (vtl s a t n i).length = n
  | 0, _ => rfl
  | n + 1, i => by rw [vtl, List.length_cons, vtl_len s a t n]
theorem vtl_at (s : ByteArray) (a : Int) (t : ByteArray) : ∀ (n i j : Nat), j < n → (vtl s a t n i)[j]? = some (vat s a t ((i + j : Nat) : Int))
  | 0, _, _, h => by omega
  | n + 1, i, 0, _ => rfl
  | n + 1, i, j + 1, h => by rw [vtl, List.getElem?_cons_succ, vtl_at s a t n (i + 1) j (by omega), show i + 1 + j = i + (j + 1) by omega]
theorem short_impl (s : ByteArray) (a b : Int) (t : ByteArray) (hs : s.size ≤ 60) (ht : t.size ≤ 20000) (a0 : 0 ≤ a) (a1 : a ≤ 3) (b0 : 0 ≤ b) (b1 : b ≤ 3) (n : Nat) : impl_shortMac.f (n + 70) s a b t = some ((macP (pkey s a b) t).extract 0 8) := by
  unfold impl_shortMac.f
  rw [pk_impl s a b hs a0 a1 b0 b1, Option.bind_some, mac_impl _ _ (by show (dig _).size ≤ _; rw [dig_size]; decide) (by omega), Option.bind_some, if_pos (by decide), if_pos (by rw [macP_size]; decide)]
theorem vec_spec (s : ByteArray) (a : Int) (t : ByteArray) (hs0 : 1 ≤ s.size) (hs : s.size ≤ 60) (ht : t.size ≤ 20000) (a0 : 0 ≤ a) (a1 : a ≤ 3) : ∀ (n i k : Nat) (L : List ByteArray), n + i = 4 → L.length = i → spec_Vector.l0 (k + 10 + n + 1) s a t L (i : Int) = some (L ++ vtl s a t n i)
  | 0, i, k, L, h, hl => by
    rw [spec_Vector.l0, if_neg (by omega)]; simp [vtl]
  | n + 1, i, k, L, h, hl => by
    have e1 : wrap64 ((i : Int) + 1) = ((i + 1 : Nat) : Int) := by rw [wr] <;> omega
    rw [spec_Vector.l0, e1]
    clear e1
    rw [if_pos (by omega), show k + 10 + (n + 1) = k + 10 + n + 1 by omega]
    by_cases c : (i : Int) = a
    · rw [if_pos c, if_pos (by omega), vec_spec s a t hs0 hs ht a0 a1 n (i + 1) k _ (by omega) (by simp; omega), vtl, vat, if_pos c, List.append_assoc]
      rfl
    · have hp : pkeyR s a (i : Int) = pkey s a (i : Int) := by
        unfold pkeyR
        rw [if_pos ⟨⟨hs0, hs⟩, ⟨a0, a1⟩, ⟨by omega, by omega⟩, fun e => c e.symm⟩]
      rw [if_neg c, show k + 10 + n + 1 = (k + n + 7) + 4 by omega, pairKey_spec, Option.bind_some, hp, show (k + n + 7) + 4 = (k + n + 10) + 1 by omega, mac_spec _ _ (by show (dig _).size ≤ _; rw [dig_size]; decide) (by omega), Option.bind_some, if_pos (by decide), if_pos (by rw [macP_size]; decide), if_pos (by omega), show (k + n + 10) + 1 = k + 10 + n + 1 by omega, vec_spec s a t hs0 hs ht a0 a1 n (i + 1) k _ (by omega) (by simp; omega), vtl, vat, if_neg c, List.append_assoc]
      rfl
theorem vec_impl (s : ByteArray) (a : Int) (t : ByteArray) (hs : s.size ≤ 60) (ht : t.size ≤ 20000) (a0 : 0 ≤ a) (a1 : a ≤ 3) : ∀ (n i k : Nat) (X : List ByteArray), n + i = 4 → X.length = 4 → (∀ j, j < i → X[j]? = (vtl s a t 4 0)[j]?) → (∀ j, i ≤ j → j < 4 → X[j]? = some ⟨#[]⟩) → impl_Vector.l0 (k + 70 + n + 1) s a t X (i : Int) = some (vtl s a t 4 0)
  | 0, i, k, X, h, hl, h1, h2 => by
    rw [impl_Vector.l0, if_neg (by omega)]
    congr 1
    apply List.ext_getElem?
    intro j
    by_cases c : j < 4
    · exact h1 j (by omega)
    · rw [List.getElem?_eq_none (by omega), List.getElem?_eq_none (by rw [vtl_len]; omega)]
  | n + 1, i, k, X, h, hl, h1, h2 => by
    have e1 : wrap64 ((i : Int) + 1) = ((i + 1 : Nat) : Int) := by rw [wr] <;> omega
    have ei := vtl_at s a t 4 0 i (by omega)
    rw [Nat.zero_add] at ei
    rw [impl_Vector.l0, e1, hl]
    clear e1
    rw [if_pos (by omega), show k + 70 + (n + 1) = k + 70 + n + 1 by omega]
    by_cases c : (i : Int) = a
    · rw [if_pos c]
      refine vec_impl s a t hs ht a0 a1 n (i + 1) k X (by omega) hl (fun j hj => ?_) (fun j hj h4 => h2 j (by omega) h4)
      by_cases e : j = i
      · subst e
        rw [h2 j (Nat.le_refl _) (by omega), ei, vat, if_pos c]
      · exact h1 j (by omega)
    · rw [if_neg c, show k + 70 + n + 1 = (k + n + 1) + 70 by omega, short_impl s a (i : Int) t hs ht a0 a1 (by omega) (by omega), Option.bind_some, if_pos (by omega), if_pos (by omega), Int.toNat_natCast, show (k + n + 1) + 70 = k + 70 + n + 1 by omega]
      refine vec_impl s a t hs ht a0 a1 n (i + 1) k _ (by omega) (by rw [List.length_set]; exact hl) (fun j hj => ?_) (fun j hj h4 => ?_)
      · by_cases e : j = i
        · subst e
          rw [List.getElem?_set_self (by omega), ei, vat, if_neg c]
        · rw [List.getElem?_set_ne (by omega)]; exact h1 j (by omega)
      · rw [List.getElem?_set_ne (by omega)]; exact h2 j (by omega) h4
/-- The vector, where it is right to ask for it. -/
def vecR (s : ByteArray) (a : Int) (t : ByteArray) : List ByteArray := if (1 ≤ s.size ∧ s.size ≤ 60) ∧ (0 ≤ a ∧ a ≤ 3) ∧ t.size ≤ 20000 then vtl s a t 4 0 else []
theorem vecR_len (s : ByteArray) (a : Int) (t : ByteArray) : (vecR s a t).length ≤ 4 := by
  unfold vecR
  split
  · rw [vtl_len]; decide
  · simp
theorem vector_spec (s : ByteArray) (a : Int) (t : ByteArray) (k : Nat) : spec_Vector.f (k + 16) s a t = some (vecR s a t) := by
  have ht' : spec_Vector.j0 (k + 16) s a t [] true = some [] := rfl
  unfold spec_Vector.f vecR
  rw [Option.bind_some]
  by_cases h1 : (t.size : Int) > 20000
  · rw [if_pos h1, ht', if_neg (by intro h; omega)]
  rw [if_neg h1]
  by_cases h2 : (s.size : Int) < 1
  · rw [if_pos h2, ht', if_neg (by intro h; omega)]
  rw [if_neg h2]
  by_cases h3 : (s.size : Int) > 60
  · rw [if_pos h3, ht', if_neg (by intro h; omega)]
  rw [if_neg h3, who_eq', Option.bind_some]
  by_cases h4 : 0 ≤ a ∧ a ≤ 3
  · rw [show (!decide (0 ≤ a ∧ a ≤ 3)) = false by simp [h4], if_pos ⟨⟨by omega, by omega⟩, h4, by omega⟩, spec_Vector.j0, if_neg (by decide)]
    exact vec_spec s a t (by omega) (by omega) (by omega) h4.1 h4.2 4 0 k [] rfl rfl
  · rw [show (!decide (0 ≤ a ∧ a ≤ 3)) = true by simp [h4], ht', if_neg (by intro h; exact h4 h.2.1)]
theorem vector_impl (s : ByteArray) (a : Int) (t : ByteArray) (k : Nat) : impl_Vector.f (k + 76) s a t = some (vecR s a t) := by
  have ht' : impl_Vector.j0 (k + 76) s a t true = some [] := rfl
  unfold impl_Vector.f vecR
  rw [secret_eq, Option.bind_some]
  by_cases h1 : 1 ≤ s.size ∧ s.size ≤ 60
  · rw [if_pos (decide_eq_true h1), replica_eq, Option.bind_some]
    by_cases h2 : 0 ≤ a ∧ a ≤ 3
    · rw [if_pos (decide_eq_true h2)]
      by_cases h3 : (t.size : Int) > 20000
      · rw [decide_eq_true h3, ht', if_neg (by intro h; omega)]
      · rw [decide_eq_false h3, if_pos ⟨h1, h2, by omega⟩, impl_Vector.j0, if_neg (by decide), if_pos (by decide)]
        exact vec_impl s a t h1.2 (by omega) h2.1 h2.2 4 0 k _ rfl (by simp) (fun j hj => by omega) (fun j _ hj => by rw [List.getElem?_replicate, if_pos hj])
    · rw [if_neg (by simp [h2]), ht', if_neg (by intro h; exact h2 h.2.1)]
  · rw [if_neg (by simp [h1]), ht', if_neg (by intro h; exact h1 h.1)]
/-- What VectorGood answers. -/
def goodR (s : ByteArray) (a b : Int) (t : ByteArray) (l : List ByteArray) : Bool := decide (((1 ≤ s.size ∧ s.size ≤ 60) ∧ (0 ≤ a ∧ a ≤ 3) ∧ (0 ≤ b ∧ b ≤ 3) ∧ a ≠ b ∧ t.size ≤ 20000 ∧ l.length = 4) ∧ (rdOf ByteArray.empty l b).toList = (vat s a t b).toList)
theorem beq_dec (x y : List UInt8) : (x == y) = decide (x = y) := by
  by_cases h : x = y
  · simp [h]
  · simp [h]
theorem good_impl (s : ByteArray) (a b : Int) (t : ByteArray) (l : List ByteArray) (k : Nat) : impl_VectorGood.f (k + 70) s a b t l = some (goodR s a b t l) := by
  have no : ¬ ((1 ≤ s.size ∧ s.size ≤ 60) ∧ (0 ≤ a ∧ a ≤ 3) ∧ (0 ≤ b ∧ b ≤ 3) ∧ a ≠ b ∧ t.size ≤ 20000 ∧ l.length = 4) → some false = some (goodR s a b t l) := by
    intro h
    unfold goodR
    rw [decide_eq_false (fun g => h g.1)]
  unfold impl_VectorGood.f
  rw [secret_eq, Option.bind_some]
  by_cases h1 : 1 ≤ s.size ∧ s.size ≤ 60
  · rw [if_pos (decide_eq_true h1), replica_eq, Option.bind_some]
    by_cases h2 : 0 ≤ a ∧ a ≤ 3
    · rw [if_pos (decide_eq_true h2), replica_eq, Option.bind_some]
      by_cases h3 : 0 ≤ b ∧ b ≤ 3
      · rw [if_pos (decide_eq_true h3)]
        by_cases h4 : a = b
        · rw [if_pos h4]; exact no (fun h => h.2.2.2.1 h4)
        rw [if_neg h4]
        by_cases h5 : (t.size : Int) ≤ 20000
        · rw [if_pos h5]
          by_cases h6 : (l.length : Int) = 4
          · rw [if_pos h6, if_pos h3.1, if_pos (by omega), short_impl s a b t h1.2 (by omega) h2.1 h2.2 h3.1 h3.2, Option.bind_some]
            unfold goodR
            rw [beq_dec, vat, if_neg (fun e => h4 e.symm)]
            congr 1
            exact decide_eq_decide.2 ⟨fun h => ⟨⟨h1, h2, h3, h4, by omega, by omega⟩, h⟩, fun h => h.2⟩
          · rw [if_neg h6]; exact no (fun h => by omega)
        · rw [if_neg h5]; exact no (fun h => by omega)
      · rw [if_neg (by simp [h3])]; exact no (fun h => h3 h.2.2.1)
    · rw [if_neg (by simp [h2])]; exact no (fun h => h2 h.2.1)
  · rw [if_neg (by simp [h1])]; exact no (fun h => h1 h.1)
theorem good_spec (s : ByteArray) (a b : Int) (t : ByteArray) (l : List ByteArray) (k : Nat) : spec_VectorGood.f (k + 16) s a b t l = some (goodR s a b t l) := by
  have no : ¬ ((1 ≤ s.size ∧ s.size ≤ 60) ∧ (0 ≤ a ∧ a ≤ 3) ∧ (0 ≤ b ∧ b ≤ 3) ∧ a ≠ b ∧ t.size ≤ 20000 ∧ l.length = 4) → some false = some (goodR s a b t l) := by
    intro h
    unfold goodR
    rw [decide_eq_false (fun g => h g.1)]
  unfold spec_VectorGood.f
  by_cases h5 : (t.size : Int) > 20000
  · rw [if_pos h5]; exact no (fun h => by omega)
  rw [if_neg h5]
  by_cases h6 : (l.length : Int) = 4
  · rw [if_pos h6, who_eq', Option.bind_some]
    by_cases h2 : 0 ≤ a ∧ a ≤ 3
    · rw [if_pos (decide_eq_true h2), who_eq', Option.bind_some]
      by_cases h3 : 0 ≤ b ∧ b ≤ 3
      · rw [if_pos (decide_eq_true h3)]
        by_cases h4 : a = b
        · rw [if_pos h4]; exact no (fun h => h.2.2.2.1 h4)
        rw [if_neg h4, vector_spec, Option.bind_some]
        by_cases h1 : 1 ≤ s.size ∧ s.size ≤ 60
        · have hv : vecR s a t = vtl s a t 4 0 := by unfold vecR; rw [if_pos ⟨h1, h2, by omega⟩]
          have hb : rdOf ByteArray.empty (vtl s a t 4 0) b = vat s a t b := by
            have e := vtl_at s a t 4 0 b.toNat (by omega)
            unfold rdOf
            rw [List.getD_eq_getElem?_getD, e, Option.getD_some, show ((0 + b.toNat : Nat) : Int) = b by omega]
          rw [hv, vtl_len, if_pos (by decide), if_pos h3.1, if_pos (by omega), if_pos (by omega), hb]
          unfold goodR
          rw [beq_dec]
          congr 1
          exact decide_eq_decide.2 ⟨fun h => ⟨⟨h1, h2, h3, h4, by omega, by omega⟩, h.symm⟩, fun h => h.2.symm⟩
        · have hv : vecR s a t = [] := by unfold vecR; rw [if_neg (fun h => h1 h.1)]
          rw [hv, if_neg (by decide)]; exact no (fun h => h1 h.1)
      · rw [if_neg (by simp [h3])]; exact no (fun h => h3 h.2.2.1)
    · rw [if_neg (by simp [h2])]; exact no (fun h => h2 h.2.1)
  · rw [if_neg h6]; exact no (fun h => by omega)
end Go.Proofs.YtgpgamapopnfcaaDoor.Q
