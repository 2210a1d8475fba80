/- Codes and keys of both programs are the same. -/
import Derived.Test.YtgpgamapopnfcaaDoorQPlDigest
import Derived.Test.YtgpgamapopnfcaaDoorQx1
import Derived.Test.YtgpgamapopnfcaaDoorQx10
import Derived.Test.YtgpgamapopnfcaaDoorQx11
import Derived.Test.YtgpgamapopnfcaaDoorQx12
import Derived.Test.YtgpgamapopnfcaaDoorQx15
import Derived.Test.YtgpgamapopnfcaaDoorQx17
namespace Go.Proofs.YtgpgamapopnfcaaDoor.Q
open Go Go.RowKit Go.Proofs.YtgpgamapopnfcaaDoor.HB Go.Proofs.YtgpgamapopnfcaaDoorW.PrintWords
set_option linter.unusedVariables false
set_option linter.unusedSimpArgs false
/-! ### codes and keys -/
theorem pd_len (s : ByteArray) (h : s.size ≤ 64) : (pd_0 s).length = 64 := by
  simp only [pd_0, List.length_append, byt_length, List.length_drop, List.length_replicate]; omega
theorem pd_rd (s : ByteArray) (h : s.size ≤ 64) (i : Nat) (hi : i < 64) : (pd_0 s)[i]? = some (if i < s.size then bt s (i : Int) else 0) := by
  by_cases c : i < s.size
  · have h1 : (i : Int).toNat < s.size := by omega
    rw [if_pos c, ← bt_at s _ h1, pd_0, List.getElem?_append_left (by rw [byt_length]; exact c)]
    have c' : i < s.data.size := c
    simp [byt, ByteArray.getElem_eq_getElem_data, c']
    exact ⟨s.data[i], Array.getElem?_eq_getElem c', rfl⟩
  · rw [if_neg c, pd_0, List.getElem?_append_right (by rw [byt_length]; omega), byt_length, List.getElem?_drop, show s.size + (i - s.size) = i by omega, List.getElem?_replicate, if_pos hi]
def pdF (s : ByteArray) (x : Int) : List Int := (pd_0 s).map (fun v => Go.bits .xor .u8 v x)
theorem pd_all (s : ByteArray) (h : s.size ≤ 64) (x : Int) : ∀ (n i : Nat) (L : List Int), n + i = 64 → L.length = 64 → (∀ j, j < i → L[j]? = (pdF s x)[j]?) → (∀ j, i ≤ j → L[j]? = (pd_0 s)[j]?) → pd_L x n i L = pdF s x
  | 0, i, L, hi, hl, h1, h2 => by
    rw [pd_L]
    apply List.ext_getElem?
    intro j
    by_cases c : j < i
    · exact h1 j c
    · have : (pdF s x).length = 64 := by rw [pdF, List.length_map, pd_len s h]
      rw [List.getElem?_eq_none (by omega), List.getElem?_eq_none (by omega)]
  | n + 1, i, L, hi, hl, h1, h2 => by
    rw [pd_L]
    refine pd_all s h x n (i + 1) _ (by omega) (by rw [List.length_set]; exact hl) (fun j hj => ?_) (fun j hj => ?_)
    · by_cases c : j = i
      · subst c
        have e := h2 j (Nat.le_refl _)
        have hl2 : j < L.length := by omega
        rw [List.getElem?_set_self hl2, pdF, List.getElem?_map, ← e]
        simp [rd, List.getD, hl2]
      · rw [List.getElem?_set_ne (by omega)]; exact h1 j (by omega)
    · rw [List.getElem?_set_ne (by omega)]; exact h2 j (by omega)
theorem pad_all (s : ByteArray) (h : s.size ≤ 64) (x : Int) : spec_l02Pad.f s x = some (strOfNums (pdF s x)) := by
  unfold spec_l02Pad.f
  rw [if_pos h, pd_all s h x 64 0 _ rfl (pd_len s h) (fun j hj => by omega) (fun _ _ => rfl)]
theorem pdF_size (s : ByteArray) (h : s.size ≤ 64) (x : Int) : (strOfNums (pdF s x)).size = 64 := by rw [str_size, pdF, List.length_map, pd_len s h]
/-- The code of a text. -/
def macP (key text : ByteArray) : ByteArray :=
  let k := if key.size > 64 then dig key else key
  dig (strOfNums (pdF k 92) ++ dig (strOfNums (pdF k 54) ++ text))
theorem mac_in (k text : ByteArray) (hk : k.size ≤ 64) (ht : text.size ≤ 999000) : (spec_l02All.f (strOfNums (pdF k 54) ++ text)) = some (dig (strOfNums (pdF k 54) ++ text)) ∧ spec_l02All.f (strOfNums (pdF k 92) ++ dig (strOfNums (pdF k 54) ++ text)) = some (dig (strOfNums (pdF k 92) ++ dig (strOfNums (pdF k 54) ++ text))) ∧ (impl_digest.f (strOfNums (pdF k 54) ++ text)) = some (dig (strOfNums (pdF k 54) ++ text)) ∧ impl_digest.f (strOfNums (pdF k 92) ++ dig (strOfNums (pdF k 54) ++ text)) = some (dig (strOfNums (pdF k 92) ++ dig (strOfNums (pdF k 54) ++ text))) := by
  have h1 : (strOfNums (pdF k 54) ++ text).size ≤ 1000000 := by rw [ByteArray.size_append, pdF_size k hk]; omega
  have h2 : (strOfNums (pdF k 92) ++ dig (strOfNums (pdF k 54) ++ text)).size ≤ 1000000 := by rw [ByteArray.size_append, pdF_size k hk, dig_size]; omega
  exact ⟨all_spec _ h1, all_spec _ h2, dig_impl _ h1, dig_impl _ h2⟩
theorem mac_spec (key text : ByteArray) (hk : key.size ≤ 1000000) (ht : text.size ≤ 999000) (n : Nat) : spec_l02Mac.f (n + 1) key text = some (macP key text) := by
  have hj : ∀ k : ByteArray, k.size ≤ 64 → spec_l02Mac.j0 (n + 1) k text = some (dig (strOfNums (pdF k 92) ++ dig (strOfNums (pdF k 54) ++ text))) := by
    intro k h
    obtain ⟨e1, e2, _, _⟩ := mac_in k text h ht
    rw [spec_l02Mac.j0, pad_all k h, pad_all k h, Option.bind_some, Option.bind_some, if_pos (by rw [pdF_size k h]; omega), e1, Option.bind_some, if_pos (by rw [pdF_size k h, dig_size]; omega), e2]
    rfl
  unfold spec_l02Mac.f macP
  by_cases c : key.size > 64
  · rw [if_pos (by omega), all_spec key hk, Option.bind_some, hj _ (by rw [dig_size]; decide), if_pos c]
  · rw [if_neg (by omega), hj _ (by omega), if_neg c]
theorem mac_loop (k text : ByteArray) (hk : k.size ≤ 64) (ht : text.size ≤ 999000) : ∀ (n i m : Nat) (X Y : List Int), n + i = 64 → X.length = 64 → Y.length = 64 → (∀ j, j < i → X[j]? = (pdF k 54)[j]?) → (∀ j, j < i → Y[j]? = (pdF k 92)[j]?) → impl_mac.l0 (m + n + 1) k text X Y (i : Int) = some (dig (strOfNums (pdF k 92) ++ dig (strOfNums (pdF k 54) ++ text)))
  | 0, i, m, X, Y, hi, hx, hy, h1, h2 => by
    have eq : ∀ (x : Int) (Z : List Int), Z.length = 64 → (∀ j, j < i → Z[j]? = (pdF k x)[j]?) → Z = pdF k x := by
      intro x Z hz h
      apply List.ext_getElem?
      intro j
      by_cases c : j < i
      · exact h j c
      · have : (pdF k x).length = 64 := by rw [pdF, List.length_map, pd_len k hk]
        rw [List.getElem?_eq_none (by omega), List.getElem?_eq_none (by omega)]
    obtain rfl := eq 54 X hx h1
    obtain rfl := eq 92 Y hy h2
    obtain ⟨_, _, e1, e2⟩ := mac_in k text hk ht
    rw [impl_mac.l0, if_neg (by omega), if_pos (by rw [pdF_size k hk]; omega), e1, Option.bind_some, if_pos (by rw [pdF_size k hk, dig_size]; omega), e2]
    rfl
  | n + 1, i, m, X, Y, hi, hx, hy, h1, h2 => by
    have e1 : wrap64 ((i : Int) + 1) = ((i + 1 : Nat) : Int) := by rw [wr] <;> omega
    have hset : ∀ (x : Int) (Z : List Int), Z.length = 64 → (∀ j, j < i → Z[j]? = (pdF k x)[j]?) → ∀ j, j < i + 1 → (Z.set i (Go.bits .xor .u8 (if i < k.size then bt k (i : Int) else 0) x))[j]? = (pdF k x)[j]? := by
      intro x Z hz h j hj
      by_cases c : j = i
      · subst c
        rw [List.getElem?_set_self (by omega), pdF, List.getElem?_map, pd_rd k hk j (by omega)]
        rfl
      · rw [List.getElem?_set_ne (by omega)]; exact h j (by omega)
    have s1 := hset 54 X hx h1
    have s2 := hset 92 Y hy h2
    rw [impl_mac.l0, e1, hx, hy]
    clear e1
    by_cases c : i < k.size
    · rw [if_pos c] at s1 s2
      rw [if_pos (by omega), if_pos (by omega), if_pos (by omega), if_pos (by omega), if_pos (by omega), Int.toNat_natCast, show m + (n + 1) = m + n + 1 by omega]
      exact mac_loop k text hk ht n (i + 1) m _ _ (by omega) (by rw [List.length_set]; exact hx) (by rw [List.length_set]; exact hy) s1 s2
    · rw [if_neg c] at s1 s2
      rw [if_pos (by omega), if_neg (by omega), if_pos (by omega), if_pos (by omega), if_pos (by omega), Int.toNat_natCast, show m + (n + 1) = m + n + 1 by omega]
      exact mac_loop k text hk ht n (i + 1) m _ _ (by omega) (by rw [List.length_set]; exact hx) (by rw [List.length_set]; exact hy) s1 s2
theorem mac_impl (key text : ByteArray) (hk : key.size ≤ 1000000) (ht : text.size ≤ 999000) (n : Nat) : impl_mac.f (n + 70) key text = some (macP key text) := by
  have hj : ∀ k : ByteArray, k.size ≤ 64 → impl_mac.j0 (n + 70) k text = some (dig (strOfNums (pdF k 92) ++ dig (strOfNums (pdF k 54) ++ text))) := by
    intro k h
    rw [show n + 70 = (n + 4 + 64 + 1) + 1 by omega, impl_mac.j0, if_pos (by decide)]
    exact mac_loop k text h ht 64 0 (n + 4) _ _ rfl (by simp) (by simp) (fun j hj => by omega) (fun j hj => by omega)
  unfold impl_mac.f macP
  by_cases c : key.size > 64
  · rw [if_pos (by omega), dig_impl key hk, Option.bind_some, hj _ (by rw [dig_size]; decide), if_pos c]
  · rw [if_neg (by omega), hj _ (by omega), if_neg c]
/-- The key of two replicas. -/
def pkey (s : ByteArray) (a b : Int) : ByteArray := dig (s ++ strOfNums [48 + min a b, 48 + max a b])
theorem dec_digit (n : Int) (h0 : 0 ≤ n) (h1 : n ≤ 3) (k : Nat) : spec_l01Dec.f (k + 3) n = some (strOfNums [48 + n]) := by
  have g : ∀ m : Int, m ≠ 0 → ¬ Int.tmod m 10 < 0 → wrap64 (Int.tdiv m 10) = 0 → wrap64 (48 + Int.tmod m 10) % 256 = 48 + m → decide (m < 0) = false → spec_l01Dec.f (k + 3) m = some (strOfNums [48 + m]) := by
    intro m m0 m1 m2 m3 m4
    rw [spec_l01Dec.f, if_neg m0, m4, spec_l01Dec.l0, if_neg m0, if_neg m1, Option.bind_some, m3, if_pos (by rw [str_size]; show 1 + 0 ≤ _; decide), m2, spec_l01Dec.l0, if_pos rfl, if_neg (by decide)]
    congr 1
  have : n = 0 ∨ n = 1 ∨ n = 2 ∨ n = 3 := by omega
  rcases this with rfl | rfl | rfl | rfl
  · rfl
  · exact g 1 (by decide) (by decide) (by decide +kernel) (by decide +kernel) (by decide)
  · exact g 2 (by decide) (by decide) (by decide +kernel) (by decide +kernel) (by decide)
  · exact g 3 (by decide) (by decide) (by decide +kernel) (by decide +kernel) (by decide)
theorem pk_impl (s : ByteArray) (a b : Int) (hs : s.size ≤ 60) (a0 : 0 ≤ a) (a1 : a ≤ 3) (b0 : 0 ≤ b) (b1 : b ≤ 3) : impl_pairKey.f s a b = some (pkey s a b) := by
  have e1 : wrap64 (48 + mn a b) % 256 = 48 + min a b := by
    have : mn a b = min a b := by unfold mn; split <;> omega
    rw [this, wr] <;> omega
  have e2 : wrap64 (48 + mx a b) % 256 = 48 + max a b := by
    have : mx a b = max a b := by unfold mx; split <;> omega
    rw [this, wr] <;> omega
  unfold impl_pairKey.f pkey
  rw [e1, e2, Option.bind_some, if_pos (by rw [str_size]; simp; omega), dig_impl _ (by rw [ByteArray.size_append, str_size]; simp; omega)]
  rfl
/-- The key, where it is right to ask for it. -/
def pkeyR (s : ByteArray) (a b : Int) : ByteArray := if (1 ≤ s.size ∧ s.size ≤ 60) ∧ (0 ≤ a ∧ a ≤ 3) ∧ (0 ≤ b ∧ b ≤ 3) ∧ a ≠ b then pkey s a b else ⟨#[]⟩
theorem secret_eq (s : ByteArray) : impl_isSecret.f s = some (decide (1 ≤ s.size ∧ s.size ≤ 60)) := by
  unfold impl_isSecret.f
  split
  · congr 1; exact decide_eq_decide.2 (by omega)
  · congr 1; symm; exact decide_eq_false (by omega)
theorem replica_eq (a : Int) : impl_isReplica.f a = some (decide (0 ≤ a ∧ a ≤ 3)) := by
  unfold impl_isReplica.f impl_within.f
  split
  · rw [Option.bind_some]; congr 1; exact decide_eq_decide.2 (by omega)
  · rw [Option.bind_some]; congr 1; symm; exact decide_eq_false (by omega)
theorem who_eq' (a : Int) : spec_l09Who.f a = some (decide (0 ≤ a ∧ a ≤ 3)) := by
  unfold spec_l09Who.f spec_l03Is.f
  split
  · rw [Option.bind_some]; congr 1; exact decide_eq_decide.2 (by omega)
  · rw [Option.bind_some]; congr 1; symm; exact decide_eq_false (by omega)
theorem pairKey_impl (s : ByteArray) (a b : Int) : impl_PairKey.f s a b = some (pkeyR s a b) := by
  unfold impl_PairKey.f pkeyR
  rw [secret_eq, Option.bind_some]
  by_cases h1 : 1 ≤ s.size ∧ s.size ≤ 60
  · rw [if_pos (decide_eq_true h1), replica_eq, Option.bind_some]
    by_cases h2 : 0 ≤ a ∧ a ≤ 3
    · rw [if_pos (decide_eq_true h2), replica_eq, Option.bind_some]
      by_cases h3 : 0 ≤ b ∧ b ≤ 3
      · rw [if_pos (decide_eq_true h3)]
        by_cases h4 : a = b
        · rw [if_pos h4, if_neg (by intro h; exact h.2.2.2 h4)]
        · rw [if_neg h4, if_pos ⟨h1, h2, h3, h4⟩, pk_impl s a b h1.2 h2.1 h2.2 h3.1 h3.2]; rfl
      · rw [if_neg (by simp [h3]), if_neg (by intro h; exact h3 h.2.2.1)]
    · rw [if_neg (by simp [h2]), if_neg (by intro h; exact h2 h.2.1)]
  · rw [if_neg (by simp [h1]), if_neg (by intro h; exact h1 h.1)]
theorem pairKey_spec (s : ByteArray) (a b : Int) (n : Nat) : spec_PairKey.f (n + 4) s a b = some (pkeyR s a b) := by
  unfold spec_PairKey.f pkeyR
  have hj : ∀ x, spec_PairKey.j0 (n + 4) s a b true = some ⟨#[]⟩ ∨ x := fun _ => Or.inl rfl
  have ht : spec_PairKey.j0 (n + 4) s a b true = some ⟨#[]⟩ := rfl
  by_cases h1 : (s.size : Int) < 1
  · rw [if_pos h1, ht, if_neg (by intro h; omega)]
  rw [if_neg h1]
  by_cases h1' : (s.size : Int) > 60
  · rw [if_pos h1', ht, if_neg (by intro h; omega)]
  rw [if_neg h1', who_eq', Option.bind_some]
  by_cases h2 : 0 ≤ a ∧ a ≤ 3
  · rw [if_pos (decide_eq_true h2), who_eq', Option.bind_some]
    by_cases h3 : 0 ≤ b ∧ b ≤ 3
    · rw [if_pos (decide_eq_true h3)]
      by_cases h4 : a = b
      · rw [show (a == b) = true by simp [h4], ht, if_neg (by intro h; exact h.2.2.2 h4)]
      · rw [show (a == b) = false by simp [h4], if_pos ⟨by omega, h2, h3, h4⟩, spec_PairKey.j0, if_neg (by decide)]
        have e1 : spec_l01Min.f a b = some (min a b) := by unfold spec_l01Min.f; split <;> (congr 1; omega)
        have e2 : spec_l01Max.f a b = some (max a b) := by unfold spec_l01Max.f; split <;> (congr 1; omega)
        rw [e1, e2, Option.bind_some, dec_digit _ (by omega) (by omega), Option.bind_some, if_pos (by rw [str_size]; simp; omega), Option.bind_some, dec_digit _ (by omega) (by omega), Option.bind_some, if_pos (by rw [ByteArray.size_append, str_size, str_size]; simp; omega)]
        have e3 : (s ++ strOfNums [48 + min a b]) ++ strOfNums [48 + max a b] = s ++ strOfNums [48 + min a b, 48 + max a b] := by
          rw [ByteArray.append_assoc, ← str_append]; rfl
        rw [e3, all_spec _ (by rw [ByteArray.size_append, str_size]; simp; omega)]
        rfl
    · rw [if_neg (by simp [h3]), ht, if_neg (by intro h; exact h3 h.2.2.1)]
  · rw [if_neg (by simp [h2]), ht, if_neg (by intro h; exact h2 h.2.1)]
end Go.Proofs.YtgpgamapopnfcaaDoor.Q
