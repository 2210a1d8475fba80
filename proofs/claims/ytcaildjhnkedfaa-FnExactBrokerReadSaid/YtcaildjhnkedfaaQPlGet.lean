/- Decoding of whole numbers and texts: spec.GetNum and impl.getNum answer the same, and what they accept is the encoding of the number that they answer. Texts of at most 20000 bytes. -/
import Derived.Test.YtcaildjhnkedfaaQx4
import Derived.Test.YtcaildjhnkedfaaQx9
import Derived.Test.YtcaildjhnkedfaaQPlTextS
namespace Go.Proofs.Ytcaildjhnkedfaa.Q
open Go.RowKit Go.Proofs.YtcaildjhnkedfaaW.PrintWords Go.Proofs.YtcaildjhnkedfaaW.PrintLast
set_option linter.unusedVariables false
set_option linter.unusedSimpArgs false

theorem bt_rng (s : ByteArray) (i : Int) : 0 ≤ bt s i ∧ bt s i ≤ 255 := by
  unfold bt
  split
  · rename_i h
    have := (s[i.toNat]'h).toNat_lt
    omega
  · omega
theorem ofInt64_toNat {x : Int} (h0 : 0 ≤ x) (h1 : x < 18446744073709551616) : (BitVec.ofInt 64 x).toNat = x.toNat := by
  rw [BitVec.toNat_ofInt]
  have : ((2 ^ 64 : Nat) : Int) = 18446744073709551616 := by decide
  rw [this]
  omega
theorem or_add {x y : Int} {m : Nat} (hm : m ≤ 63) (h0 : 0 ≤ x) (h1 : x < 2 ^ m) (hy : 0 ≤ y) (h2 : y * 2 ^ m < 18446744073709551616) : Go.bits .or .u64 x (y * 2 ^ m) = x + y * 2 ^ m := by
  have hp : (0 : Int) < 2 ^ m := Int.pow_pos (by decide)
  have hy2 : 0 ≤ y * 2 ^ m := Int.mul_nonneg hy (Int.le_of_lt hp)
  obtain ⟨a, rfl⟩ := Int.eq_ofNat_of_zero_le h0
  obtain ⟨b, rfl⟩ := Int.eq_ofNat_of_zero_le hy
  have ha : a < 2 ^ m := by exact_mod_cast h1
  have hm2 : 2 ^ m ≤ 2 ^ 63 := Nat.pow_le_pow_right (by decide) hm
  have e63 : (2 : Nat) ^ 63 = 9223372036854775808 := by decide
  have e64 : (2 : Nat) ^ 64 = 18446744073709551616 := by decide
  have e1 : ((b : Int) * 2 ^ m) = ((b * 2 ^ m : Nat) : Int) := by simp
  rw [e1] at h2 hy2 ⊢
  generalize hB : b * 2 ^ m = B at *
  have hs : a + B = a ||| B := by
    have := Nat.two_pow_add_eq_or_of_lt ha b
    rw [Nat.mul_comm, hB] at this
    rw [Nat.add_comm, this, Nat.or_comm]
  have hlt : a ||| B < 2 ^ 64 := Nat.or_lt_two_pow (by omega) (by omega)
  have e : Go.bits .or .u64 (a : Int) (B : Int) = IntKind.u64.wrap (((BitVec.ofInt 64 (a : Int)) ||| (BitVec.ofInt 64 (B : Int))).toNat : Int) := rfl
  rw [e, u64_mod, BitVec.toNat_or, ofInt64_toNat (by omega) (by omega), ofInt64_toNat (by omega) (by omega), Int.toNat_natCast, Int.toNat_natCast, ← hs]
  rw [← hs] at hlt
  omega
theorem and127_all : ∀ y : Fin 256, Go.bits .and .u8 ((y.val : Nat) : Int) 127 = ((y.val : Nat) : Int) % 128 := by decide +kernel
theorem and127 {x : Int} (h0 : 0 ≤ x) (h1 : x ≤ 255) : Go.bits .and .u8 x 127 = x % 128 := by
  have := and127_all ⟨x.toNat, by omega⟩
  simp only at this
  rw [Int.toNat_of_nonneg h0] at this
  exact this
theorem and1 {x : Int} (h0 : 0 ≤ x) (h1 : x < 18446744073709551616) : Go.bits .and .u64 x 1 = x % 2 := by
  have e : Go.bits .and .u64 x 1 = IntKind.u64.wrap (((BitVec.ofInt 64 x) &&& (BitVec.ofInt 64 1)).toNat : Int) := rfl
  have e1 : (BitVec.ofInt 64 1).toNat = 1 := by decide
  rw [e, u64_mod, BitVec.toNat_and, ofInt64_toNat h0 h1, e1, Nat.and_one_is_mod]
  omega
theorem xorNeg {y : Int} (h0 : 0 ≤ y) (h1 : y < 9223372036854775808) : Go.bits .xor .i64 (-1) y = -y - 1 := by
  have e : Go.bits .xor .i64 (-1) y = IntKind.i64.wrap (((BitVec.ofInt 64 (-1)) ^^^ (BitVec.ofInt 64 y)).toNat : Int) := rfl
  have e1 : BitVec.ofInt 64 (-1) = BitVec.allOnes 64 := by decide
  rw [e, i64_w, e1, BitVec.allOnes_xor, BitVec.toNat_not, ofInt64_toNat h0 (by omega)]
  have e64 : (2 : Nat) ^ 64 = 18446744073709551616 := by decide
  rw [e64]
  unfold wrap64
  omega

/-- The number that an unfolded one stands for. -/
def unfN (u : Int) : Int := if u % 2 = 1 then -(u / 2) - 1 else u / 2
theorem fold_unf {u : Int} (h0 : 0 ≤ u) : foldN (unfN u) = u := by
  unfold foldN unfN
  by_cases h : u % 2 = 1
  · rw [if_pos h, if_pos (by omega)]
    omega
  · rw [if_neg h, if_neg (by omega)]
    omega
theorem unf_rng {u : Int} (h0 : 0 ≤ u) (h1 : u < 18446744073709551616) : -9223372036854775808 ≤ unfN u ∧ unfN u ≤ 9223372036854775807 := by
  unfold unfN
  split <;> omega
/-- Decoding from the byte i of a number on, u being what is read. -/
def getR (t : ByteArray) (a : Int) : Nat → Nat → Int → Int × Int × Int
  | 0, _, _ => (0, 0, 3)
  | d + 1, i, u => if a + i ≥ t.size then (0, 0, 4) else
    if i = 9 ∧ bt t (a + i) > 1 then (0, 0, 3) else
    if bt t (a + i) < 128 then (if bt t (a + i) = 0 ∧ 0 < i then (0, 0, 3) else (unfN (u + bt t (a + i) * 2 ^ (7 * i)), a + i + 1, 0))
    else getR t a d (i + 1) (u + (bt t (a + i) - 128) * 2 ^ (7 * i))
theorem pow_step (i : Nat) : (2 : Int) ^ (7 * (i + 1)) = 128 * 2 ^ (7 * i) := by
  rw [show 7 * (i + 1) = 7 * i + 7 by omega, Int.pow_add, Int.mul_comm]
  rfl
set_option maxRecDepth 4000 in
theorem get_step {i : Nat} {c u : Int} (hi : i ≤ 9) (h0 : 0 ≤ c) (h1 : c ≤ 127) (h9 : i = 9 → c ≤ 1) (hu0 : 0 ≤ u) (hu : u < 2 ^ (7 * i)) :
    0 ≤ c * 2 ^ (7 * i) ∧ c * 2 ^ (7 * i) < 18446744073709551616 ∧ u + c * 2 ^ (7 * i) < 18446744073709551616 ∧ u + c * 2 ^ (7 * i) < 2 ^ (7 * (i + 1)) := by
  have hp : (0 : Int) < 2 ^ (7 * i) := Int.pow_pos (by decide)
  rw [pow_step]
  have hm := Int.mul_le_mul_of_nonneg_right h1 (Int.le_of_lt hp)
  have h00 := Int.mul_nonneg h0 (Int.le_of_lt hp)
  by_cases e : i = 9
  · subst e
    have hm2 := Int.mul_le_mul_of_nonneg_right (h9 rfl) (Int.le_of_lt hp)
    have e63 : (2 : Int) ^ (7 * 9) = 9223372036854775808 := by decide
    rw [e63] at *
    omega
  · have hl : (2 : Nat) ^ (7 * i) ≤ 2 ^ 56 := Nat.pow_le_pow_right (by decide) (by omega)
    have e56 : (2 : Nat) ^ 56 = 72057594037927936 := by decide
    have hl2 : (2 : Int) ^ (7 * i) ≤ 72057594037927936 := by
      have h3 : (2 : Int) ^ (7 * i) = ((2 ^ (7 * i) : Nat) : Int) := by rw [Int.natCast_pow]; rfl
      rw [e56] at hl
      rw [h3]
      generalize 2 ^ (7 * i) = z at hl
      omega
    generalize (2 : Int) ^ (7 * i) = P at *
    generalize c * P = Q at *
    omega
theorem shl_eq {x : Int} {i : Nat} (hi : i ≤ 9) {n : Int} (hn : n = 7 * (i : Int)) (h0 : 0 ≤ x * 2 ^ (7 * i)) (h1 : x * 2 ^ (7 * i) < 18446744073709551616) : shl .u64 x n = x * 2 ^ (7 * i) := by
  have e : shl .u64 x n = IntKind.u64.wrap (x * 2 ^ min n.toNat 64) := rfl
  rw [e, u64_mod, show min n.toNat 64 = 7 * i by omega, Int.emod_eq_of_lt h0 h1]
theorem spec_fin {a u : Int} {i : Nat} (ha : 0 ≤ a) (ha2 : a ≤ 20000) (hi : i ≤ 9) (h0 : 0 ≤ u) (h1 : u < 18446744073709551616) (k : Nat) : spec_GetNum.j2 (k + 1) a u (i : Int) false = some (unfN u, a + i + 1, 0) := by
  simp only [spec_GetNum.j2]
  rw [if_neg (by decide), Int.tmod_eq_emod_of_nonneg h0, Int.tdiv_eq_ediv_of_nonneg h0, u64_mod, Int.emod_eq_of_lt (by omega) (by omega : u / 2 < 18446744073709551616), w_id (i := u / 2) (by omega) (by omega), w_id (i := a + i) (by omega) (by omega), w_id (i := a + i + 1) (by omega) (by omega), w_id (i := -(u / 2)) (by omega) (by omega), w_id (i := -(u / 2) - 1) (by omega) (by omega)]
  unfold unfN
  split <;> rfl
theorem impl_fin {a u : Int} {i : Nat} (ha : 0 ≤ a) (ha2 : a ≤ 20000) (hi : i ≤ 9) (h0 : 0 ≤ u) (h1 : u < 18446744073709551616) (k : Nat) : impl_getNum.j2 (k + 1) a u (i : Int) false = some (unfN u, a + i + 1, 0) := by
  simp only [impl_getNum.j2]
  rw [if_neg (by decide), and1 h0 h1, w_id (i := u / 2) (by omega) (by omega), xorNeg (by omega) (by omega), w_id (i := a + i) (by omega) (by omega), w_id (i := a + i + 1) (by omega) (by omega)]
  unfold unfN
  split <;> rfl
theorem spec_getR {t : ByteArray} (ht : t.size ≤ 20000) {a : Int} (ha : 0 ≤ a) (ha2 : a ≤ 20000) (d : Nat) : ∀ (k i : Nat) (u : Int), i + d = 10 → 3 * d < k → 0 ≤ u → u < 2 ^ (7 * i) → spec_GetNum.l0 k t a u (i : Int) = some (getR t a d i u) := by
  induction d with
  | zero =>
    intro k i u hi hk _ _
    obtain ⟨k, rfl⟩ : ∃ m, k = m + 1 := ⟨k - 1, by omega⟩
    simp only [spec_GetNum.l0]
    rw [if_neg (by omega)]
    rfl
  | succ d ih =>
    intro k i u hi hk h0 h1
    obtain ⟨k, rfl⟩ : ∃ m, k = m + 3 := ⟨k - 3, by omega⟩
    have hb := bt_rng t (a + i)
    simp only [spec_GetNum.l0]
    rw [if_pos (by omega), w_id (i := (t.size : Int) - i) (by omega) (by omega), w_id (i := a + i) (by omega) (by omega)]
    simp only [getR]
    by_cases c1 : a + i ≥ t.size
    · rw [if_pos (by omega), if_pos c1]
    · rw [if_neg (by omega), if_neg c1, if_pos (by omega), if_pos (by omega)]
      generalize bt t (a + i) = b at *
      rw [u64_mod, Int.emod_eq_of_lt hb.1 (by omega)]
      by_cases c2 : i = 9 ∧ b > 1
      · rw [if_pos (by omega), if_pos c2]
        simp only [spec_GetNum.j1]
        rw [if_pos (decide_eq_true c2.2)]
      · rw [if_neg c2]
        have c2' : (if (i : Int) = 9 then spec_GetNum.j1 (k + 2) t a u i b (decide (b > 1)) else spec_GetNum.j1 (k + 2) t a u i b false) = spec_GetNum.j1 (k + 2) t a u i b false := by
          split
          · rw [decide_eq_false (p := b > 1) (by omega)]
          · rfl
        rw [c2']
        simp only [spec_GetNum.j1]
        rw [if_neg (by decide), w_id (i := 7 * (i : Int)) (by omega) (by omega), u64_mod (7 * (i : Int)), Int.emod_eq_of_lt (a := 7 * (i : Int)) (by omega) (by omega), if_pos (by omega), Int.tmod_eq_emod_of_nonneg hb.1]
        by_cases c3 : b < 128
        · obtain ⟨g0, g1, g2, g3⟩ := get_step (i := i) (c := b) (by omega) hb.1 (by omega) (by omega) h0 h1
          rw [if_pos c3, if_pos c3, show b % 128 = b by omega, shl_eq (by omega) rfl g0 g1, u64_mod, Int.emod_eq_of_lt (by omega) g2]
          by_cases c4 : b = 0
          · rw [if_pos c4]
            by_cases c5 : 0 < i
            · rw [if_pos ⟨c4, c5⟩, decide_eq_true (p := (i : Int) > 0) (by omega)]
              simp only [spec_GetNum.j2, if_true]
            · rw [if_neg (fun h => c5 h.2), decide_eq_false (p := (i : Int) > 0) (by omega)]
              exact spec_fin ha ha2 (by omega) (by omega) g2 _
          · rw [if_neg c4, if_neg (fun h => c4 h.1)]
            exact spec_fin ha ha2 (by omega) (by omega) g2 _
        · obtain ⟨g0, g1, g2, g3⟩ := get_step (i := i) (c := b - 128) (by omega) (by omega) (by omega) (by omega) h0 h1
          rw [if_neg c3, if_neg c3, show b % 128 = b - 128 by omega, shl_eq (by omega) rfl g0 g1, u64_mod, Int.emod_eq_of_lt (by omega) g2, w_id (i := (i : Int) + 1) (by omega) (by omega)]
          exact ih (k + 1) (i + 1) _ (by omega) (by omega) (by omega) g3
theorem impl_getR {t : ByteArray} (ht : t.size ≤ 20000) {a : Int} (ha : 0 ≤ a) (ha2 : a ≤ 20000) (d : Nat) : ∀ (k i : Nat) (u : Int), i + (d + 1) = 10 → 3 * d + 3 < k → 0 ≤ u → u < 2 ^ (7 * i) → impl_getNum.l0 k t a u (i : Int) = some (getR t a (d + 1) i u) := by
  have step : ∀ (d k i : Nat) (u : Int), i + (d + 1) = 10 → 3 * d + 3 < k → 0 ≤ u → u < 2 ^ (7 * i) →
      (0 < d → ∀ (k i : Nat) (u : Int), i + d = 10 → 3 * d < k → 0 ≤ u → u < 2 ^ (7 * i) → impl_getNum.l0 k t a u (i : Int) = some (getR t a d i u)) → impl_getNum.l0 k t a u (i : Int) = some (getR t a (d + 1) i u) := by
    intro d k i u hi hk h0 h1 ih
    obtain ⟨k, rfl⟩ : ∃ m, k = m + 3 := ⟨k - 3, by omega⟩
    have hb := bt_rng t (a + i)
    simp only [impl_getNum.l0]
    rw [w_id (i := (t.size : Int) - i) (by omega) (by omega), w_id (i := a + i) (by omega) (by omega)]
    simp only [getR]
    by_cases c1 : a + i ≥ t.size
    · rw [if_pos (by omega), if_pos c1]
    · rw [if_neg (by omega), if_neg c1, if_pos (by omega), if_pos (by omega)]
      generalize bt t (a + i) = b at *
      by_cases c2 : i = 9 ∧ b > 1
      · rw [if_pos (by omega), if_pos c2]
        simp only [impl_getNum.j1]
        rw [if_pos (decide_eq_true c2.2)]
      · rw [if_neg c2]
        have c2' : (if (i : Int) = 9 then impl_getNum.j1 (k + 2) t a u i b (decide (b > 1)) else impl_getNum.j1 (k + 2) t a u i b false) = impl_getNum.j1 (k + 2) t a u i b false := by
          split
          · rw [decide_eq_false (p := b > 1) (by omega)]
          · rfl
        rw [c2']
        simp only [impl_getNum.j1]
        rw [if_neg (by decide), w_id (i := 7 * (i : Int)) (by omega) (by omega), if_pos (by omega), and127 hb.1 hb.2, u64_mod, Int.emod_eq_of_lt (a := b % 128) (by omega) (by omega)]
        by_cases c3 : b < 128
        · obtain ⟨g0, g1, g2, g3⟩ := get_step (i := i) (c := b) (by omega) hb.1 (by omega) (by omega) h0 h1
          rw [if_neg (c := b > 127) (by omega), if_pos c3, show b % 128 = b by omega, shl_eq (by omega) rfl g0 g1, or_add (by omega) h0 h1 hb.1 g1]
          by_cases c4 : b = 0
          · rw [if_pos c4]
            by_cases c5 : 0 < i
            · rw [if_pos ⟨c4, c5⟩, decide_eq_true (p := (i : Int) > 0) (by omega)]
              simp only [impl_getNum.j2, if_true]
            · rw [if_neg (fun h => c5 h.2), decide_eq_false (p := (i : Int) > 0) (by omega)]
              exact impl_fin ha ha2 (by omega) (by omega) g2 _
          · rw [if_neg c4, if_neg (fun h => c4 h.1)]
            exact impl_fin ha ha2 (by omega) (by omega) g2 _
        · obtain ⟨g0, g1, g2, g3⟩ := get_step (i := i) (c := b - 128) (by omega) (by omega) (by omega) (by omega) h0 h1
          rw [if_pos (c := b > 127) (by omega), if_neg c3, show b % 128 = b - 128 by omega, shl_eq (by omega) rfl g0 g1, or_add (by omega) h0 h1 (by omega) g1, w_id (i := (i : Int) + 1) (by omega) (by omega)]
          exact ih (by omega) (k + 1) (i + 1) _ (by omega) (by omega) (by omega) g3
  induction d with
  | zero => exact fun k i u hi hk h0 h1 => step 0 k i u hi hk h0 h1 (fun h => absurd h (by decide))
  | succ d ih => exact fun k i u hi hk h0 h1 => step (d + 1) k i u hi hk h0 h1 (fun _ => ih)

/-- What decoding a number at an offset answers. -/
def getN (t : ByteArray) (a : Int) : Int × Int × Int := getR t a 10 0 0
theorem spec_getN {t : ByteArray} (ht : t.size ≤ 20000) {a : Int} (ha : 0 ≤ a) (ha2 : a ≤ 20000) {k : Nat} (hk : 40 ≤ k) : spec_GetNum.f k t a = some (getN t a) := by
  unfold spec_GetNum.f
  rw [if_neg (by omega), if_neg (by omega)]
  exact spec_getR ht ha ha2 10 k 0 0 (by omega) (by omega) (by omega) (by decide)
theorem impl_getN {t : ByteArray} (ht : t.size ≤ 20000) {a : Int} (ha : 0 ≤ a) (ha2 : a ≤ 20000) {k : Nat} (hk : 40 ≤ k) : impl_getNum.f k t a = some (getN t a) := by
  unfold impl_getNum.f
  rw [if_neg (by omega)]
  exact impl_getR ht ha ha2 9 k 0 0 (by omega) (by omega) (by omega) (by decide)

/-- Some bytes of a text, as numbers. -/
def bl (t : ByteArray) (a : Int) : Nat → List Int
  | 0 => []
  | m + 1 => bt t a :: bl t (a + 1) m
set_option maxRecDepth 4000 in
theorem getR_ok {t : ByteArray} {a : Int} (ha : 0 ≤ a) (d : Nat) : ∀ (i : Nat) (u n e : Int), i + d = 10 → 0 ≤ u → u < 2 ^ (7 * i) → getR t a d i u = (n, e, 0) →
    ∃ (r : Int) (m : Nat), 0 ≤ r ∧ (0 < i → 1 ≤ r) ∧ 0 ≤ u + r * 2 ^ (7 * i) ∧ u + r * 2 ^ (7 * i) < 18446744073709551616 ∧ n = unfN (u + r * 2 ^ (7 * i)) ∧ e = a + i + m ∧ 1 ≤ m ∧ m ≤ d ∧ e ≤ t.size ∧ r < 18446744073709551616 ∧
      (∀ (k : Nat) (acc : List Int), m ≤ k → acc.length + m ≤ 1000 → spec_PutNum.l0 k r acc = some (strOfNums (acc ++ bl t (a + i) m))) := by
  induction d with
  | zero => intro i u n e _ _ _ h; simp [getR] at h
  | succ d ih =>
    intro i u n e hi h0 h1 h
    have hb := bt_rng t (a + i)
    simp only [getR] at h
    by_cases c1 : a + i ≥ t.size
    · rw [if_pos c1] at h; simp at h
    rw [if_neg c1] at h
    by_cases c2 : i = 9 ∧ bt t (a + i) > 1
    · rw [if_pos c2] at h; simp at h
    rw [if_neg c2] at h
    by_cases c3 : bt t (a + i) < 128
    · rw [if_pos c3] at h
      by_cases c4 : bt t (a + i) = 0 ∧ 0 < i
      · rw [if_pos c4] at h; simp at h
      rw [if_neg c4] at h
      obtain ⟨g0, g1, g2, g3⟩ := get_step (i := i) (c := bt t (a + i)) (by omega) hb.1 (by omega) (by omega) h0 h1
      simp only [Prod.mk.injEq] at h
      obtain ⟨rfl, rfl, _⟩ := h
      refine ⟨bt t (a + i), 1, hb.1, by omega, by omega, g2, rfl, by omega, by omega, by omega, by omega, by omega, fun k acc hk hac => ?_⟩
      obtain ⟨k, rfl⟩ : ∃ m, k = m + 1 := ⟨k - 1, by omega⟩
      simp only [spec_PutNum.l0, bl]
      rw [if_neg (by omega), if_pos (by omega), Int.emod_eq_of_lt hb.1 (by omega)]
    · rw [if_neg c3] at h
      obtain ⟨g0, g1, g2, g3⟩ := get_step (i := i) (c := bt t (a + i) - 128) (by omega) (by omega) (by omega) (by omega) h0 h1
      obtain ⟨r, m, q0, q1, q2, q3, q4, q5, q6, q7, q8, q9, q10⟩ := ih (i + 1) _ n e (by omega) (by omega) g3 h
      have q1 := q1 (by omega)
      have hp : (0 : Int) < 2 ^ (7 * i) := Int.pow_pos (by decide)
      have hr : u + (bt t (a + i) - 128 + 128 * r) * 2 ^ (7 * i) = u + (bt t (a + i) - 128) * 2 ^ (7 * i) + r * 2 ^ (7 * (i + 1)) := by
        rw [pow_step, Int.add_mul, Int.mul_comm 128 r, Int.mul_assoc]
        omega
      refine ⟨bt t (a + i) - 128 + 128 * r, m + 1, by omega, by omega, by rw [hr]; exact q2, by rw [hr]; exact q3, by rw [hr]; exact q4, by omega, by omega, by omega, q8, ?_, fun k acc hk hac => ?_⟩
      · have : (bt t (a + i) - 128 + 128 * r) * 1 ≤ (bt t (a + i) - 128 + 128 * r) * 2 ^ (7 * i) := Int.mul_le_mul_of_nonneg_left (by omega) (by omega)
        rw [← hr] at q3
        omega
      · obtain ⟨k, rfl⟩ : ∃ m, k = m + 1 := ⟨k - 1, by omega⟩
        have hr2 : bt t (a + i) - 128 + 128 * r < 18446744073709551616 := by
          have : (bt t (a + i) - 128 + 128 * r) * 1 ≤ (bt t (a + i) - 128 + 128 * r) * 2 ^ (7 * i) := Int.mul_le_mul_of_nonneg_left (by omega) (by omega)
          rw [← hr] at q3
          omega
        simp only [spec_PutNum.l0, bl]
        rw [if_pos (by omega), if_pos (by omega), Int.tdiv_eq_ediv_of_nonneg (by omega), Int.tmod_eq_emod_of_nonneg (by omega), u64_mod, u64_mod, show (bt t (a + i) - 128 + 128 * r) / 128 % 18446744073709551616 = r by omega,
          show ((bt t (a + i) - 128 + 128 * r) % 128 + 128) % 18446744073709551616 % 256 = bt t (a + i) by omega, q10 k _ (by omega) (by simp; omega), List.append_assoc]
        simp only [List.cons_append, List.nil_append, Int.natCast_add, Int.cast_ofNat_Int, Int.add_assoc]
theorem bl_extract {t : ByteArray} (m : Nat) : ∀ a : Nat, a + m ≤ t.size → strOfNums (bl t (a : Int) m) = t.extract a (a + m) := by
  have key : ∀ (m a : Nat), a + m ≤ t.size → (bl t (a : Int) m).map (fun n => UInt8.ofNat n.toNat) = (t.data.toList.drop a).take m := by
    intro m
    induction m with
    | zero => intro a _; simp [bl]
    | succ m ih =>
      intro a h
      have hlt : a < t.data.toList.length := by
        have : t.data.toList.length = t.size := Array.length_toList
        omega
      have hb : UInt8.ofNat (bt t (a : Int)).toNat = t.data.toList[a] := by
        have h2 : a < t.size := by omega
        have : bt t (a : Int) = ((t[a]'h2).toNat : Int) := by
          unfold bt
          rw [dif_pos (by simpa using h2)]
          simp
        rw [this]
        simp
        rfl
      rw [List.drop_eq_getElem_cons hlt, List.take_succ_cons]
      simp only [bl, List.map_cons]
      rw [hb, show ((a : Int) + 1) = ((a + 1 : Nat) : Int) by omega, ih (a + 1) (by omega)]
  intro a h
  apply ByteArray.ext
  unfold strOfNums
  simp only [ByteArray.data_extract]
  apply Array.toList_inj.1
  rw [Array.toList_extract, List.extract_eq_take_drop]
  simp only
  rw [key m a h]
  congr 1
  omega
set_option maxRecDepth 4000 in
/-- What is accepted as a number is the number's encoding. -/
theorem getN_ok {t : ByteArray} {a n e : Int} (ha : 0 ≤ a) (h : getN t a = (n, e, 0)) : a < e ∧ e ≤ t.size ∧ (-9223372036854775808 ≤ n ∧ n ≤ 9223372036854775807) ∧ numT n = t.extract a.toNat e.toNat := by
  obtain ⟨r, m, q0, q1, q2, q3, q4, q5, q6, q7, q8, q9, q10⟩ := getR_ok ha 10 0 0 n e (by omega) (by omega) (by decide) h
  have e1 : (0 : Int) + r * 2 ^ (7 * 0) = r := by simp
  rw [e1] at q2 q3 q4
  have hn := unf_rng q2 q3
  rw [← q4] at hn
  refine ⟨by omega, q8, hn, ?_⟩
  unfold numT spec_PutNum.f
  rw [spec_fold hn.1 hn.2, q4, fold_unf q2]
  simp only [Option.bind_some]
  rw [q10 30 [] (by omega) (by simp; omega)]
  simp only [List.nil_append, Option.getD_some]
  have := bl_extract (t := t) m a.toNat (by omega)
  rw [show a + ((0 : Nat) : Int) = ((a.toNat : Nat) : Int) by omega, this]
  congr 1
  omega
theorem getN_rng {t : ByteArray} {a : Int} (ha : 0 ≤ a) (h : (getN t a).2.2 = 0) : a < (getN t a).2.1 ∧ (getN t a).2.1 ≤ t.size := by
  obtain ⟨h1, h2, _⟩ := getN_ok (t := t) (a := a) (n := (getN t a).1) (e := (getN t a).2.1) ha (by rw [← h])
  exact ⟨h1, h2⟩

/-- What decoding a text at an offset answers. -/
def getT (t : ByteArray) (a : Int) : ByteArray × Int × Int :=
  if (getN t a).2.2 = 0 then (if 0 ≤ (getN t a).1 ∧ (getN t a).1 ≤ 20000 then (if (getN t a).2.1 > (t.size : Int) - (getN t a).1 then ((⟨#[]⟩ : ByteArray), 0, 4)
    else (t.extract (getN t a).2.1.toNat ((getN t a).2.1 + (getN t a).1).toNat, (getN t a).2.1 + (getN t a).1, 0)) else ((⟨#[]⟩ : ByteArray), 0, 3)) else ((⟨#[]⟩ : ByteArray), 0, (getN t a).2.2)
theorem gWithin_eq (a b c : Int) : impl_within.f a b c = some (decide (b ≤ a ∧ a ≤ c)) := by
  unfold impl_within.f
  by_cases h : a ≥ b
  · rw [if_pos h]; simp [show b ≤ a from h]
  · rw [if_neg h]; simp [show ¬ b ≤ a from h]
theorem impl_getT {t : ByteArray} (ht : t.size ≤ 20000) {a : Int} (ha : 0 ≤ a) (ha2 : a ≤ 20000) {k : Nat} (hk : 40 ≤ k) : impl_getText.f k t a = some (getT t a) := by
  unfold impl_getText.f getT
  rw [impl_getN ht ha ha2 hk]
  simp only [Option.bind_some]
  by_cases c1 : (getN t a).2.2 = 0
  · have hr := getN_rng ha c1
    rw [if_pos c1, if_pos c1, gWithin_eq]
    simp only [Option.bind_some]
    by_cases c2 : 0 ≤ (getN t a).1 ∧ (getN t a).1 ≤ 20000
    · rw [if_pos c2, if_pos (decide_eq_true c2), w_id (i := (t.size : Int) - (getN t a).2.1) (by omega) (by omega), w_id (i := (getN t a).2.1 + (getN t a).1) (by omega) (by omega)]
      by_cases c3 : (getN t a).2.1 > (t.size : Int) - (getN t a).1
      · rw [if_pos (by omega), if_pos c3]
      · rw [if_neg (by omega), if_neg c3, if_pos (by omega), if_pos (by omega), if_pos (by omega)]
    · rw [if_neg c2, if_neg (by simp; omega)]
  · rw [if_neg c1, if_neg c1]
theorem spec_getT {t : ByteArray} (ht : t.size ≤ 20000) {a : Int} (ha : 0 ≤ a) (ha2 : a ≤ 20000) {k : Nat} (hk : 40 ≤ k) : spec_GetText.f k t a = some (getT t a) := by
  unfold spec_GetText.f getT
  rw [spec_getN ht ha ha2 hk]
  simp only [Option.bind_some]
  obtain ⟨k, rfl⟩ : ∃ m, k = m + 1 := ⟨k - 1, by omega⟩
  by_cases c1 : (getN t a).2.2 = 0
  · have hr := getN_rng ha c1
    rw [if_pos c1, if_pos c1]
    by_cases c2 : 0 ≤ (getN t a).1 ∧ (getN t a).1 ≤ 20000
    · rw [if_pos c2, if_neg (by omega), decide_eq_false (p := (getN t a).1 > 20000) (by omega)]
      simp only [spec_GetText.j0]
      rw [if_neg (by decide), w_id (i := (t.size : Int) - (getN t a).1) (by omega) (by omega), w_id (i := (getN t a).2.1 + (getN t a).1) (by omega) (by omega)]
      by_cases c3 : (getN t a).2.1 > (t.size : Int) - (getN t a).1
      · rw [if_pos c3, if_pos c3]
      · rw [if_neg c3, if_neg c3, if_pos (by omega), if_pos (by omega), if_pos (by omega)]
    · rw [if_neg c2]
      by_cases c4 : (getN t a).1 < 0
      · rw [if_pos c4]
        simp only [spec_GetText.j0, if_true]
      · rw [if_neg c4, decide_eq_true (p := (getN t a).1 > 20000) (by omega)]
        simp only [spec_GetText.j0, if_true]
  · rw [if_neg c1, if_neg c1]
theorem ext_app {t : ByteArray} {a b c : Nat} (h1 : a ≤ b) (h2 : b ≤ c) : t.extract a b ++ t.extract b c = t.extract a c := by
  rw [ByteArray.extract_append_extract, show min a b = a by omega, show max b c = c by omega]
theorem getT_ok {t s : ByteArray} {a e : Int} (ha : 0 ≤ a) (h : getT t a = (s, e, 0)) : a < e ∧ e ≤ t.size ∧ s.size ≤ 20000 ∧ textT s = t.extract a.toNat e.toNat := by
  unfold getT at h
  by_cases c1 : (getN t a).2.2 = 0
  · rw [if_pos c1] at h
    by_cases c2 : 0 ≤ (getN t a).1 ∧ (getN t a).1 ≤ 20000
    · rw [if_pos c2] at h
      by_cases c3 : (getN t a).2.1 > (t.size : Int) - (getN t a).1
      · rw [if_pos c3] at h; simp at h
      · rw [if_neg c3] at h
        obtain ⟨q1, q2, q3, q4⟩ := getN_ok (t := t) (a := a) (n := (getN t a).1) (e := (getN t a).2.1) ha (by rw [← c1])
        simp only [Prod.mk.injEq] at h
        obtain ⟨rfl, rfl, _⟩ := h
        have hs : (t.extract (getN t a).2.1.toNat ((getN t a).2.1 + (getN t a).1).toNat).size = (getN t a).1.toNat := by
          rw [ByteArray.size_extract]
          omega
        refine ⟨by omega, by omega, by rw [hs]; omega, ?_⟩
        unfold textT
        rw [hs, show (((getN t a).1.toNat : Nat) : Int) = (getN t a).1 by omega, q4, ext_app (by omega) (by omega)]
    · rw [if_neg c2] at h; simp at h
  · rw [if_neg c1] at h
    simp only [Prod.mk.injEq] at h
    exact absurd h.2.2 c1
theorem getT_rng {t : ByteArray} {a : Int} (ha : 0 ≤ a) (h : (getT t a).2.2 = 0) : a < (getT t a).2.1 ∧ (getT t a).2.1 ≤ t.size := by
  obtain ⟨h1, h2, _⟩ := getT_ok (t := t) (a := a) (s := (getT t a).1) (e := (getT t a).2.1) ha (by rw [← h])
  exact ⟨h1, h2⟩

end Go.Proofs.Ytcaildjhnkedfaa.Q
