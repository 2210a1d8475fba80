/- Encodings are accepted: decoding the encoding of a number or of a text answers it. Texts of at most 20000 bytes. -/
import Derived.Test.YtbediildfabhnaaDoorQx8
import Derived.Test.YtbediildfabhnaaDoorQPlGet
namespace Go.Proofs.YtbediildfabhnaaDoor.Q
open Go.RowKit Go.Proofs.YtbediildfabhnaaDoorW.PrintWords Go.Proofs.YtbediildfabhnaaDoorW.PrintLast
set_option linter.unusedVariables false
set_option linter.unusedSimpArgs false

/-- The digits of a number, seven bits each. -/
def digs : Nat → Int → List Int
  | 0, r => [r]
  | f + 1, r => if r ≥ 128 then (r % 128 + 128) :: digs f (r / 128) else [r]
theorem digs_rng (f : Nat) : ∀ r : Int, 0 ≤ r → r < 128 ^ (f + 1) → ∀ x ∈ digs f r, 0 ≤ x ∧ x ≤ 255 := by
  induction f with
  | zero =>
    intro r h0 h1 x hx
    simp only [digs, List.mem_singleton] at hx
    have : (128 : Int) ^ (0 + 1) = 128 := by decide
    omega
  | succ f ih =>
    intro r h0 h1 x hx
    simp only [digs] at hx
    have hp : (128 : Int) ^ (f + 1 + 1) = 128 ^ (f + 1) * 128 := Int.pow_succ ..
    by_cases h : r ≥ 128
    · rw [if_pos h] at hx
      rcases List.mem_cons.1 hx with rfl | hx
      · omega
      · exact ih (r / 128) (by omega) (by omega) x hx
    · rw [if_neg h, List.mem_singleton] at hx
      omega
theorem digs_len (f : Nat) : ∀ r : Int, 1 ≤ (digs f r).length ∧ (digs f r).length ≤ f + 1 := by
  induction f with
  | zero => intro r; simp [digs]
  | succ f ih =>
    intro r
    simp only [digs]
    split
    · have := ih (r / 128)
      simp only [List.length_cons]
      omega
    · simp
theorem digs_put (f : Nat) : ∀ (k : Nat) (r : Int) (acc : List Int), 0 ≤ r → r < 128 ^ (f + 1) → r < 18446744073709551616 → f < k → acc.length + f ≤ 1000 → spec_PutNum.l0 k r acc = some (strOfNums (acc ++ digs f r)) := by
  induction f with
  | zero =>
    intro k r acc h0 h1 h2 hk ha
    obtain ⟨k, rfl⟩ := k_succ hk
    have : (128 : Int) ^ (0 + 1) = 128 := by decide
    simp only [spec_PutNum.l0, digs]
    rw [if_neg (by omega), if_pos (by omega), Int.emod_eq_of_lt h0 (by omega)]
  | succ f ih =>
    intro k r acc h0 h1 h2 hk ha
    obtain ⟨k, rfl⟩ := k_succ hk
    have hp : (128 : Int) ^ (f + 1 + 1) = 128 ^ (f + 1) * 128 := Int.pow_succ ..
    simp only [spec_PutNum.l0, digs]
    by_cases h : r ≥ 128
    · rw [if_pos h, if_pos h, if_pos (by omega), Int.tdiv_eq_ediv_of_nonneg h0, Int.tmod_eq_emod_of_nonneg h0, u64_mod, u64_mod, show r / 128 % 18446744073709551616 = r / 128 by omega, show (r % 128 + 128) % 18446744073709551616 % 256 = r % 128 + 128 by omega,
        ih k (r / 128) _ (by omega) (by omega) (by omega) (by omega) (by simp; omega), List.append_assoc]
      rfl
    · rw [if_neg h, if_neg h, if_pos (by omega), Int.emod_eq_of_lt h0 (by omega)]
theorem unf_fold {n : Int} : unfN (foldN n) = n := by
  unfold unfN foldN
  by_cases h : n < 0
  · rw [if_pos h, if_pos (by omega)]
    omega
  · rw [if_neg h, if_neg (by omega)]
    omega
theorem fold_rng {n : Int} (h0 : -9223372036854775808 ≤ n) (h1 : n ≤ 9223372036854775807) : 0 ≤ foldN n ∧ foldN n < 18446744073709551616 := by unfold foldN; split <;> omega
theorem p128_10 : (18446744073709551616 : Int) ≤ 128 ^ (9 + 1) := by decide
theorem numT_digs {n : Int} (h0 : -9223372036854775808 ≤ n) (h1 : n ≤ 9223372036854775807) : numT n = strOfNums (digs 9 (foldN n)) := by
  have hb := fold_rng h0 h1
  have hp := p128_10
  unfold numT spec_PutNum.f
  rw [spec_fold h0 h1]
  simp only [Option.bind_some]
  rw [digs_put 9 30 _ [] hb.1 (by omega) hb.2 (by omega) (by simp)]
  rfl
theorem strOfNums_inj : ∀ {a b : List Int}, (∀ x ∈ a, 0 ≤ x ∧ x ≤ 255) → (∀ x ∈ b, 0 ≤ x ∧ x ≤ 255) → strOfNums a = strOfNums b → a = b := by
  intro a b ha hb h
  have h2 : a.map (fun n => UInt8.ofNat n.toNat) = b.map (fun n => UInt8.ofNat n.toNat) := by
    have := congrArg ByteArray.data h
    unfold strOfNums at this
    exact congrArg Array.toList this
  clear h
  induction a generalizing b with
  | nil =>
    cases b with
    | nil => rfl
    | cons y ys => simp at h2
  | cons x xs ih =>
    cases b with
    | nil => simp at h2
    | cons y ys =>
      simp only [List.map_cons, List.cons.injEq] at h2
      have hx := ha x List.mem_cons_self
      have hy := hb y List.mem_cons_self
      have e : x.toNat = y.toNat := by
        have := congrArg UInt8.toNat h2.1
        rw [UInt8.toNat_ofNat', UInt8.toNat_ofNat'] at this
        omega
      rw [ih (fun z hz => ha z (List.mem_cons_of_mem _ hz)) (fun z hz => hb z (List.mem_cons_of_mem _ hz)) h2.2, show x = y by omega]
theorem bl_rng {t : ByteArray} (m : Nat) : ∀ a : Int, ∀ x ∈ bl t a m, 0 ≤ x ∧ x ≤ 255 := by
  induction m with
  | zero => intro a x hx; simp [bl] at hx
  | succ m ih =>
    intro a x hx
    simp only [bl, List.mem_cons] at hx
    rcases hx with rfl | hx
    · exact bt_rng t a
    · exact ih (a + 1) x hx
set_option maxRecDepth 4000 in
theorem getR_enc {t : ByteArray} {a : Int} (ha : 0 ≤ a) (d : Nat) : ∀ (i f : Nat) (u r : Int), i + d = 10 → 0 ≤ u → u < 2 ^ (7 * i) → 0 ≤ r → (0 < i → 1 ≤ r) → u + r * 2 ^ (7 * i) < 18446744073709551616 → r < 128 ^ (f + 1) →
    bl t (a + i) (digs f r).length = digs f r → a + i + (digs f r).length ≤ t.size → getR t a d i u = (unfN (u + r * 2 ^ (7 * i)), a + i + (digs f r).length, 0) := by
  induction d with
  | zero =>
    intro i f u r hi h0 h1 hr hr1 hlt hf hb hs
    obtain rfl : i = 10 := by omega
    have e : (2 : Int) ^ (7 * 10) = 1180591620717411303424 := by decide
    rw [e] at hlt
    have := hr1 (by omega)
    omega
  | succ d ih =>
    intro i f u r hi h0 h1 hr hr1 hlt hf hb hs
    have hi9 : i = 9 → r ≤ 1 := by
      rintro rfl
      have e : (2 : Int) ^ (7 * 9) = 9223372036854775808 := by decide
      rw [e] at hlt
      omega
    have hl := digs_len f r
    simp only [getR]
    rw [if_neg (by omega)]
    by_cases h : r ≥ 128
    · cases f with
      | zero =>
        have : (128 : Int) ^ (0 + 1) = 128 := by decide
        omega
      | succ f =>
        have hp : (128 : Int) ^ (f + 1 + 1) = 128 ^ (f + 1) * 128 := Int.pow_succ ..
        have hd : digs (f + 1) r = (r % 128 + 128) :: digs f (r / 128) := by simp only [digs]; rw [if_pos h]
        rw [hd] at hb hs ⊢
        simp only [List.length_cons, bl, List.cons.injEq] at hb hs ⊢
        obtain ⟨hb0, hb1⟩ := hb
        obtain ⟨g0, g1, g2, g3⟩ := get_step (i := i) (c := r % 128) (by omega) (by omega) (by omega) (by omega) h0 h1
        have he : u + (bt t (a + i) - 128) * 2 ^ (7 * i) + r / 128 * 2 ^ (7 * (i + 1)) = u + r * 2 ^ (7 * i) := by
          rw [hb0, pow_step, show r % 128 + 128 - 128 = r % 128 by omega, show r * 2 ^ (7 * i) = (r % 128 + 128 * (r / 128)) * 2 ^ (7 * i) by rw [show r % 128 + 128 * (r / 128) = r by omega], Int.add_mul, Int.mul_comm 128 (r / 128), Int.mul_assoc]
          omega
        rw [if_neg (by omega), if_neg (by omega), ih (i + 1) f _ (r / 128) (by omega) (by rw [hb0, show r % 128 + 128 - 128 = r % 128 by omega]; omega) (by rw [hb0, show r % 128 + 128 - 128 = r % 128 by omega]; exact g3) (by omega) (by omega) (by rw [he]; exact hlt) (by omega)
          (by rw [show a + ((i + 1 : Nat) : Int) = a + i + 1 by omega]; exact hb1) (by omega), he]
        simp only [Prod.mk.injEq, and_true, true_and]
        omega
    · have hd : digs f r = [r] := by
        cases f with
        | zero => rfl
        | succ f => simp only [digs]; rw [if_neg h]
      rw [hd] at hb hs ⊢
      simp only [List.length_cons, List.length_nil, bl, List.cons.injEq, and_true] at hb hs ⊢
      rw [hb, if_neg (by omega), if_pos (by omega), if_neg (by omega)]
      rfl
/-- The encoding of a number is accepted. -/
theorem getN_enc {t : ByteArray} {n : Int} {a : Nat} (h0 : -9223372036854775808 ≤ n) (h1 : n ≤ 9223372036854775807) (hs : a + (numT n).size ≤ t.size) (h : t.extract a (a + (numT n).size) = numT n) : getN t (a : Int) = (n, (a : Int) + (numT n).size, 0) := by
  have hb := fold_rng h0 h1
  have hp := p128_10
  have hz : (numT n).size = (digs 9 (foldN n)).length := by rw [numT_digs h0 h1, strOfNums_len]
  have e : bl t (a : Int) (digs 9 (foldN n)).length = digs 9 (foldN n) := by
    refine strOfNums_inj (bl_rng _ _) (digs_rng 9 _ hb.1 (by omega)) ?_
    rw [bl_extract _ a (by omega), ← hz, h, numT_digs h0 h1]
  have := getR_enc (t := t) (a := (a : Int)) (by omega) 10 0 9 0 (foldN n) (by omega) (by omega) (by decide) hb.1 (by omega) (by simpa using hb.2) (by omega) (by simpa using e) (by omega)
  unfold getN
  rw [this, hz]
  simp only [Nat.mul_zero, Int.pow_zero, Int.mul_one, Int.zero_add, unf_fold, Int.cast_ofNat_Int, Int.add_zero]
theorem ext_ext {t : ByteArray} {a b c d : Nat} (h : b + d ≤ c) (hc : c ≤ t.size) (hbd : a ≤ d) : (t.extract b c).extract a d = t.extract (b + a) (b + d) := by
  rw [ByteArray.extract_extract]
  congr 1
  omega
theorem app_ext0 {x y : ByteArray} : (x ++ y).extract 0 x.size = x := by
  rw [ByteArray.extract_append]
  simp
theorem app_ext1 {x y : ByteArray} : (x ++ y).extract x.size (x.size + y.size) = y := by
  rw [ByteArray.extract_append]
  have : x.extract x.size (x.size + y.size) = ByteArray.empty := by
    apply ByteArray.ext
    apply Array.toList_inj.1
    rw [ByteArray.data_extract, Array.toList_extract, List.extract_eq_take_drop, show x.data.toList.drop x.size = [] from List.drop_of_length_le (Nat.le_of_eq Array.length_toList : x.data.toList.length ≤ x.data.size)]
    simp
  rw [this]
  simp
/-- The encoding of a text is accepted. -/
theorem getT_enc {t s : ByteArray} {a : Nat} (hz : s.size ≤ 20000) (hs : a + (textT s).size ≤ t.size) (h : t.extract a (a + (textT s).size) = textT s) : getT t (a : Int) = (s, (a : Int) + (textT s).size, 0) := by
  have e : (textT s).size = (numT (s.size : Int)).size + s.size := by unfold textT; rw [ByteArray.size_append]
  have h1 : t.extract a (a + (numT (s.size : Int)).size) = numT (s.size : Int) := by
    have := congrArg (fun x => x.extract 0 (numT (s.size : Int)).size) h
    rw [ext_ext (by omega) (by omega) (by omega), Nat.add_zero] at this
    rw [this]
    unfold textT
    exact app_ext0
  have h2 : t.extract (a + (numT (s.size : Int)).size) (a + (textT s).size) = s := by
    have := congrArg (fun x => x.extract (numT (s.size : Int)).size ((numT (s.size : Int)).size + s.size)) h
    rw [ext_ext (by omega) (by omega) (by omega)] at this
    rw [e, this]
    unfold textT
    exact app_ext1
  have hg := getN_enc (t := t) (n := (s.size : Int)) (a := a) (by omega) (by omega) (by omega) h1
  unfold getT
  rw [hg]
  simp only [if_true]
  rw [if_pos (by omega), if_neg (by omega)]
  simp only [Prod.mk.injEq, and_true]
  refine ⟨?_, by omega⟩
  rw [show ((a : Int) + ((numT (s.size : Int)).size : Int)).toNat = a + (numT (s.size : Int)).size by omega, show ((a : Int) + ((numT (s.size : Int)).size : Int) + (s.size : Int)).toNat = a + (textT s).size by omega]
  exact h2

end Go.Proofs.YtbediildfabhnaaDoor.Q
