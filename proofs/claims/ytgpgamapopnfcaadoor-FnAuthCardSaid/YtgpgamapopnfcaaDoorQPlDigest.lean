/- The digest of both programs is the same. No program in sight but the printed functions. -/
import Derived.Test.YtgpgamapopnfcaaDoorQx1
import Derived.Test.YtgpgamapopnfcaaDoorQx7
import Derived.Test.YtgpgamapopnfcaaDoorQx8
import Derived.Test.YtgpgamapopnfcaaDoorQx9
import Derived.Test.YtgpgamapopnfcaaDoorQx10
import Derived.Test.YtgpgamapopnfcaaDoorQx15
namespace Go.Proofs.YtgpgamapopnfcaaDoor.Q
open Go Go.RowKit Go.Proofs.YtgpgamapopnfcaaDoor.HB Go.Proofs.YtgpgamapopnfcaaDoorW.PrintWords
set_option linter.unusedVariables false
set_option linter.unusedSimpArgs false
/-! ### the digest's block: both programs' rounds are the same -/
theorem bor_comm (k : IntKind) (x y : Int) : Go.bits .or k x y = Go.bits .or k y x := by simp [Go.bits, BitVec.or_comm]
def rt (x k : Int) : Int := Go.bits .or .u32 (shr .u32 x k) (shl .u32 x (32 - k))
theorem turn_spec (x k : Int) (h0 : 0 ≤ k) (h1 : k ≤ 32) : spec_l02Turn.f x k = some (rt x k) := by
  have e : IntKind.u64.wrap (32 - k) = 32 - k := by
    simp only [IntKind.wrap, IntKind.signed, IntKind.bits]
    simp
    omega
  unfold spec_l02Turn.f rt
  rw [e, if_pos h0, if_pos (by omega)]
theorem turn_impl (x k m : Int) (hm : Go.bits .and .u64 (IntKind.u64.wrap (wrap64 (-k))) 31 = m) (hk : k + m = 32) (h0 : 0 ≤ m) (h1 : 0 ≤ k) : impl_turned.f x k = some (rt x k) := by
  have e : IntKind.u64.wrap (32 - m) = k := by
    have : 32 - m = k := by omega
    rw [this]
    simp only [IntKind.wrap, IntKind.signed, IntKind.bits]
    simp
    omega
  unfold impl_turned.f bits_RotateLeft32.f rt
  rw [hm, if_pos h0, e, if_pos h1, Option.bind_some, bor_comm, show 32 - k = m by omega]
def wrd (b : ByteArray) (i : Nat) : Int :=
  Go.bits .or .u32 (Go.bits .or .u32 (Go.bits .or .u32 ((((bt b ((4 * i : Nat) : Int)) % 4294967296) * 16777216) % 4294967296) ((((bt b ((4 * i + 1 : Nat) : Int)) % 4294967296) * 65536) % 4294967296)) ((((bt b ((4 * i + 2 : Nat) : Int)) % 4294967296) * 256) % 4294967296)) ((bt b ((4 * i + 3 : Nat) : Int)) % 4294967296)
theorem bt_extract (b : ByteArray) (i j : Nat) (h : i + j < b.size) : bt (b.extract i b.size) (j : Int) = bt b ((i + j : Nat) : Int) := by
  have h1 : (j : Int).toNat < (b.extract i b.size).size := by simp; omega
  have h2 : ((i + j : Nat) : Int).toNat < b.size := by rw [Int.toNat_natCast]; exact h
  rw [← bt_at _ _ h1, ← bt_at _ _ h2]
  congr 2
  simp only [Int.toNat_natCast, ByteArray.getElem_extract]
theorem word_impl (b : ByteArray) (i : Nat) (hb : b.size = 64) (h : i < 16) : impl_bigWord.f (b.extract (4 * i) b.size) = some (wrd b i) := by
  have hs : ((b.extract (4 * i) b.size).size : Int) = 64 - 4 * i := by simp; omega
  unfold impl_bigWord.f wrd
  rw [hs, if_pos (by omega), if_pos (by omega), if_pos (by omega), if_pos (by omega)]
  have e0 := bt_extract b (4 * i) 0 (by omega)
  have e1 := bt_extract b (4 * i) 1 (by omega)
  have e2 := bt_extract b (4 * i) 2 (by omega)
  have e3 := bt_extract b (4 * i) 3 (by omega)
  rw [Nat.add_zero] at e0
  rw [← e0, ← e1, ← e2, ← e3]
  rfl
def nxt (L : List Int) (i : Nat) : Int := db_next L i (rt (rd L ((i - 15 : Nat) : Int)) 7) (rt (rd L ((i - 15 : Nat) : Int)) 18) (rt (rd L ((i - 2 : Nat) : Int)) 17) (rt (rd L ((i - 2 : Nat) : Int)) 19)
def wW (b : ByteArray) : Nat → Nat → List Int → List Int
  | 0, _, L => L
  | d + 1, i, L => wW b d (i + 1) (L.set i (if i < 16 then wrd b i else nxt L i))
theorem wW_len (b : ByteArray) : ∀ (d i : Nat) (L : List Int), (wW b d i L).length = L.length
  | 0, _, _ => rfl
  | d + 1, i, L => by rw [wW, wW_len b d]; simp
theorem wW_add (b : ByteArray) : ∀ (d e i : Nat) (L : List Int), wW b (d + e) i L = wW b e (i + d) (wW b d i L)
  | 0, e, i, L => by rw [Nat.zero_add]; rfl
  | d + 1, e, i, L => by rw [show d + 1 + e = (d + e) + 1 by omega, wW, wW_add b d e, wW, show i + 1 + d = i + (d + 1) by omega]
theorem rots_impl (L : List Int) (i : Nat) : db_rots L i = some (rt (rd L ((i - 15 : Nat) : Int)) 7, rt (rd L ((i - 15 : Nat) : Int)) 18, rt (rd L ((i - 2 : Nat) : Int)) 17, rt (rd L ((i - 2 : Nat) : Int)) 19) := by
  unfold db_rots
  rw [turn_impl _ 7 25 (by decide +kernel) (by decide) (by decide) (by decide), turn_impl _ 18 14 (by decide +kernel) (by decide) (by decide) (by decide), turn_impl _ 17 15 (by decide +kernel) (by decide) (by decide) (by decide), turn_impl _ 19 13 (by decide +kernel) (by decide) (by decide) (by decide)]
  rfl
theorem W_impl (b : ByteArray) (hb : b.size = 64) : ∀ (d i : Nat) (L : List Int), db_W b d i L = some (wW b d i L)
  | 0, _, _ => rfl
  | d + 1, i, L => by
    rw [db_W, wW]
    by_cases h : i < 16
    · rw [if_pos h, if_pos h, word_impl b i hb h, Option.bind_some]; exact W_impl b hb d _ _
    · rw [if_neg h, if_neg h, rots_impl, Option.bind_some]; exact W_impl b hb d _ _
theorem wr (x : Int) (h0 : -9223372036854775808 ≤ x) (h1 : x ≤ 9223372036854775807) : wrap64 x = x := by unfold wrap64; omega
theorem W_spec0 (S : List Int) (b : ByteArray) (hb : b.size = 64) : ∀ (d i k : Nat) (L : List Int), d + i = 16 → L.length = 64 → spec_l02Block.l0 (k + d + 1) S b L (i : Int) = spec_l02Block.l1 k S (wW b d i L) 16
  | 0, i, k, L, h, hl => by
    obtain rfl : i = 16 := by omega
    rw [spec_l02Block.l0, if_neg (by decide)]; rfl
  | d + 1, i, k, L, h, hl => by
    have e0 : wrap64 (4 * (i : Int)) = ((4 * i : Nat) : Int) := by rw [wr] <;> omega
    have e1 : wrap64 (((4 * i : Nat) : Int) + 1) = ((4 * i + 1 : Nat) : Int) := by rw [wr] <;> omega
    have e2 : wrap64 (((4 * i : Nat) : Int) + 2) = ((4 * i + 2 : Nat) : Int) := by rw [wr] <;> omega
    have e3 : wrap64 (((4 * i : Nat) : Int) + 3) = ((4 * i + 3 : Nat) : Int) := by rw [wr] <;> omega
    have e4 : wrap64 ((i : Int) + 1) = ((i + 1 : Nat) : Int) := by rw [wr] <;> omega
    rw [spec_l02Block.l0, e0, e1, e2, e3, e4, hb, hl]
    clear e0 e1 e2 e3 e4
    rw [if_pos (by omega), if_pos (by omega), if_pos (by omega), if_pos (by omega), if_pos (by omega), if_pos (by omega), if_pos (by omega), if_pos (by omega), if_pos (by omega), if_pos (by omega), if_pos (by omega)]
    rw [show k + (d + 1) = k + d + 1 by omega, wW, if_pos (by omega), Int.toNat_natCast]
    exact W_spec0 S b hb d (i + 1) k _ (by omega) (by simpa using hl)

theorem W_spec1 (s0 s1 s2 s3 s4 s5 s6 s7 : Int) (b : ByteArray) : ∀ (d i k : Nat) (L : List Int), d + i = 64 → 16 ≤ i → L.length = 64 → spec_l02Block.l1 (k + d + 1) [s0, s1, s2, s3, s4, s5, s6, s7] L (i : Int) = spec_l02Block.l2 k [s0, s1, s2, s3, s4, s5, s6, s7] (wW b d i L) (s0 % 4294967296) (s1 % 4294967296) (s2 % 4294967296) (s3 % 4294967296) (s4 % 4294967296) (s5 % 4294967296) (s6 % 4294967296) (s7 % 4294967296) db_keys 0
  | 0, i, k, L, h, _, hl => by
    obtain rfl : i = 64 := by omega
    rw [spec_l02Block.l1, if_neg (by decide), if_pos (by simp), if_pos (by simp), if_pos (by simp), if_pos (by simp), if_pos (by simp), if_pos (by simp), if_pos (by simp), if_pos (by simp)]
    rfl
  | d + 1, i, k, L, h, hi, hl => by
    have e15 : wrap64 ((i : Int) - 15) = ((i - 15 : Nat) : Int) := by rw [wr] <;> omega
    have e2 : wrap64 ((i : Int) - 2) = ((i - 2 : Nat) : Int) := by rw [wr] <;> omega
    have e16 : wrap64 ((i : Int) - 16) = ((i - 16 : Nat) : Int) := by rw [wr] <;> omega
    have e7 : wrap64 ((i : Int) - 7) = ((i - 7 : Nat) : Int) := by rw [wr] <;> omega
    have e1 : wrap64 ((i : Int) + 1) = ((i + 1 : Nat) : Int) := by rw [wr] <;> omega
    rw [spec_l02Block.l1, e15, e2, e16, e7, e1, hl]
    clear e15 e2 e16 e7 e1
    rw [turn_spec _ 7 (by decide) (by decide), turn_spec _ 18 (by decide) (by decide), turn_spec _ 17 (by decide) (by decide), turn_spec _ 19 (by decide) (by decide)]
    rw [if_pos (by omega), if_pos (by omega), if_pos (by omega), if_pos (by omega), if_pos (by omega), if_pos (by omega), if_pos (by omega), Option.bind_some, Option.bind_some, if_pos (by omega), if_pos (by omega), Option.bind_some, Option.bind_some, if_pos (by omega), if_pos (by omega)]
    rw [show k + (d + 1) = k + d + 1 by omega, wW, if_neg (by omega), Int.toNat_natCast]
    exact W_spec1 s0 s1 s2 s3 s4 s5 s6 s7 b d (i + 1) k _ (by omega) (by omega) (by simpa using hl)
def tt2 (a b c : Int) : Int := Go.bits .xor .u32 (Go.bits .xor .u32 (rt a 2) (rt a 13)) (rt a 22) + Go.bits .xor .u32 (Go.bits .xor .u32 (Go.bits .and .u32 a b) (Go.bits .and .u32 a c)) (Go.bits .and .u32 b c)
def rnd (W : List Int) : Nat → Nat → Int → Int → Int → Int → Int → Int → Int → Int → List Int
  | 0, _, a, b, c, d, e, f, g, h => [a, b, c, d, e, f, g, h]
  | n + 1, i, a, b, c, d, e, f, g, h => rnd W n (i + 1) ((db_t1 W i e f g h (rt e 6) (rt e 11) (rt e 25) + tt2 a b c) % 4294967296) a b c ((d + db_t1 W i e f g h (rt e 6) (rt e 11) (rt e 25)) % 4294967296) e f g
theorem rnd_form (W : List Int) : ∀ (n i : Nat) (a b c d e f g h : Int), ∃ v0 v1 v2 v3 v4 v5 v6 v7, rnd W n i a b c d e f g h = [v0, v1, v2, v3, v4, v5, v6, v7]
  | 0, _, a, b, c, d, e, f, g, h => ⟨a, b, c, d, e, f, g, h, rfl⟩
  | n + 1, i, a, b, c, d, e, f, g, h => by rw [rnd]; exact rnd_form W n _ _ _ _ _ _ _ _ _
theorem R_impl (W : List Int) : ∀ (n i : Nat) (a b c d e f g h : Int), db_R W n i a b c d e f g h = some (rnd W n i a b c d e f g h)
  | 0, _, a, b, c, d, e, f, g, h => rfl
  | n + 1, i, a, b, c, d, e, f, g, h => by
    rw [db_R, turn_impl _ 6 26 (by decide +kernel) (by decide) (by decide) (by decide), turn_impl _ 11 21 (by decide +kernel) (by decide) (by decide) (by decide), turn_impl _ 25 7 (by decide +kernel) (by decide) (by decide) (by decide), turn_impl _ 2 30 (by decide +kernel) (by decide) (by decide) (by decide), turn_impl _ 13 19 (by decide +kernel) (by decide) (by decide) (by decide), turn_impl _ 22 10 (by decide +kernel) (by decide) (by decide) (by decide)]
    simp only [Option.bind_some]
    rw [R_impl W n, rnd, show db_t2 a b c (rt a 2) (rt a 13) (rt a 22) = tt2 a b c % 4294967296 from rfl, Int.add_emod_emod]
theorem R_spec (S W : List Int) (hW : W.length = 64) : ∀ (n i k : Nat) (a b c d e f g h : Int), n + i = 64 → spec_l02Block.l2 (k + n + 1) S W a b c d e f g h db_keys (i : Int) = spec_l02Block.l3 k S (rnd W n i a b c d e f g h) [] 0
  | 0, i, k, a, b, c, d, e, f, g, h, hi => by
    obtain rfl : i = 64 := by omega
    rw [spec_l02Block.l2, if_neg (by decide)]; rfl
  | n + 1, i, k, a, b, c, d, e, f, g, h, hi => by
    have e1 : wrap64 ((i : Int) + 1) = ((i + 1 : Nat) : Int) := by rw [wr] <;> omega
    rw [spec_l02Block.l2, e1, hW, db_keys_len]
    clear e1
    rw [turn_spec _ 6 (by decide) (by decide), turn_spec _ 11 (by decide) (by decide), turn_spec _ 25 (by decide) (by decide), turn_spec _ 2 (by decide) (by decide), turn_spec _ 13 (by decide) (by decide), turn_spec _ 22 (by decide) (by decide)]
    rw [if_pos (by omega), Option.bind_some, Option.bind_some, Option.bind_some, if_pos (by omega), if_pos (by omega), if_pos (by omega), Option.bind_some, Option.bind_some, Option.bind_some]
    rw [show k + (n + 1) = k + n + 1 by omega, rnd]
    refine Eq.trans ?_ (R_spec S W hW n (i + 1) k _ _ _ _ _ _ _ _ (by omega))
    simp only [db_t1, tt2]
    rw [Int.emod_add_emod, Int.add_emod_emod]
def sum8 (S V : List Int) : List Int := [(rd S 0 + rd V 0) % 4294967296, (rd S 1 + rd V 1) % 4294967296, (rd S 2 + rd V 2) % 4294967296, (rd S 3 + rd V 3) % 4294967296, (rd S 4 + rd V 4) % 4294967296, (rd S 5 + rd V 5) % 4294967296, (rd S 6 + rd V 6) % 4294967296, (rd S 7 + rd V 7) % 4294967296]
theorem A_impl (s0 s1 s2 s3 s4 s5 s6 s7 v0 v1 v2 v3 v4 v5 v6 v7 : Int) : db_A [v0, v1, v2, v3, v4, v5, v6, v7] 8 0 [s0, s1, s2, s3, s4, s5, s6, s7] = sum8 [s0, s1, s2, s3, s4, s5, s6, s7] [v0, v1, v2, v3, v4, v5, v6, v7] := rfl
theorem A_spec (k : Nat) (s0 s1 s2 s3 s4 s5 s6 s7 v0 v1 v2 v3 v4 v5 v6 v7 : Int) : spec_l02Block.l3 (k + 9) [s0, s1, s2, s3, s4, s5, s6, s7] [v0, v1, v2, v3, v4, v5, v6, v7] [] 0 = some (sum8 [s0, s1, s2, s3, s4, s5, s6, s7] [v0, v1, v2, v3, v4, v5, v6, v7]) := by
  simp [spec_l02Block.l3, wr, sum8, rd]
/-- What a block makes of a state. -/
def blk (S : List Int) (b : ByteArray) : List Int := sum8 S (rnd (wW b 64 0 (List.replicate 64 0)) 64 0 (rd S 0) (rd S 1) (rd S 2) (rd S 3) (rd S 4) (rd S 5) (rd S 6) (rd S 7))
def Ok8 (S : List Int) : Prop := ∃ s0 s1 s2 s3 s4 s5 s6 s7, S = [s0, s1, s2, s3, s4, s5, s6, s7] ∧ s0 % 4294967296 = s0 ∧ s1 % 4294967296 = s1 ∧ s2 % 4294967296 = s2 ∧ s3 % 4294967296 = s3 ∧ s4 % 4294967296 = s4 ∧ s5 % 4294967296 = s5 ∧ s6 % 4294967296 = s6 ∧ s7 % 4294967296 = s7
theorem sum8_ok (S V : List Int) : Ok8 (sum8 S V) := ⟨_, _, _, _, _, _, _, _, rfl, by simp⟩
theorem blk_impl (S : List Int) (b : ByteArray) (hb : b.size = 64) (h : Ok8 S) : impl_digestBlock.f S b = some (blk S b) := by
  obtain ⟨s0, s1, s2, s3, s4, s5, s6, s7, rfl, _⟩ := h
  unfold impl_digestBlock.f
  rw [if_pos hb]
  simp only
  rw [W_impl b hb, Option.bind_some, R_impl, Option.bind_some]
  obtain ⟨v0, v1, v2, v3, v4, v5, v6, v7, hv⟩ := rnd_form (wW b 64 0 (List.replicate 64 0)) 64 0 s0 s1 s2 s3 s4 s5 s6 s7
  rw [hv, A_impl]
  show _ = some (sum8 _ (rnd (wW b 64 0 (List.replicate 64 0)) 64 0 s0 s1 s2 s3 s4 s5 s6 s7))
  rw [hv]
theorem blk_spec (S : List Int) (b : ByteArray) (hb : b.size = 64) (h : Ok8 S) : spec_l02Block.f 300 S b = some (blk S b) := by
  obtain ⟨s0, s1, s2, s3, s4, s5, s6, s7, rfl, h0, h1, h2, h3, h4, h5, h6, h7⟩ := h
  unfold spec_l02Block.f
  rw [if_pos (by decide)]
  refine (W_spec0 [s0, s1, s2, s3, s4, s5, s6, s7] b hb 16 0 283 _ rfl (by simp)).trans ?_
  refine (W_spec1 s0 s1 s2 s3 s4 s5 s6 s7 b 48 16 234 _ rfl (by decide) (by rw [wW_len]; simp)).trans ?_
  rw [← wW_add b 16 48 0, h0, h1, h2, h3, h4, h5, h6, h7]
  refine (R_spec [s0, s1, s2, s3, s4, s5, s6, s7] _ (by rw [wW_len]; simp) 64 0 169 _ _ _ _ _ _ _ _ rfl).trans ?_
  obtain ⟨v0, v1, v2, v3, v4, v5, v6, v7, hv⟩ := rnd_form (wW b 64 0 (List.replicate 64 0)) 64 0 s0 s1 s2 s3 s4 s5 s6 s7
  show spec_l02Block.l3 (160 + 9) _ (rnd (wW b 64 0 (List.replicate 64 0)) 64 0 s0 s1 s2 s3 s4 s5 s6 s7) [] 0 = some (sum8 _ (rnd (wW b 64 0 (List.replicate 64 0)) 64 0 s0 s1 s2 s3 s4 s5 s6 s7))
  rw [hv]
  exact A_spec 160 s0 s1 s2 s3 s4 s5 s6 s7 v0 v1 v2 v3 v4 v5 v6 v7

/-! ### the whole digest -/
theorem byt_append (a b : ByteArray) : byt (a ++ b) = byt a ++ byt b := by simp [byt, ByteArray.data_append]
theorem str_byt (s : ByteArray) : strOfNums (byt s) = s := by
  apply ByteArray.ext
  simp [strOfNums, byt, List.map_map, Function.comp_def]
theorem byt_str : ∀ (L : List Int), (∀ x ∈ L, 0 ≤ x ∧ x < 256) → byt (strOfNums L) = L := by
  intro L h
  simp only [byt, strOfNums, List.map_map]
  rw [List.map_congr_left (g := id)]
  · simp
  · intro x hx
    obtain ⟨h0, h1⟩ := h x hx
    simp
    omega
theorem str_append (a b : List Int) : strOfNums (a ++ b) = strOfNums a ++ strOfNums b := by
  apply ByteArray.ext
  simp [strOfNums, ByteArray.data_append]
theorem str_size (L : List Int) : (strOfNums L).size = L.length := by simp [strOfNums, ByteArray.size]
theorem byt_extract (t : ByteArray) (a b : Nat) : byt (t.extract a b) = ((byt t).drop a).take (b - a) := by
  simp [byt, ByteArray.data_extract, List.map_drop, List.map_take]
def fold : Nat → List Int → List Int → List Int
  | 0, S, _ => S
  | n + 1, S, B => fold n (blk S (strOfNums (B.take 64))) (B.drop 64)
theorem blk_ok (S : List Int) (b : ByteArray) : Ok8 (blk S b) := sum8_ok _ _
theorem fold_ok : ∀ (n : Nat) (S B : List Int), Ok8 S → Ok8 (fold n S B)
  | 0, _, _, h => h
  | n + 1, S, B, h => fold_ok n _ _ (blk_ok _ _)
theorem L_impl : ∀ (n f : Nat) (S : List Int) (t : ByteArray), Ok8 S → t.size = 64 * n → n ≤ f → dg_L f S t = some (fold n S (byt t))
  | 0, 0, S, t, _, h, _ => by rw [dg_L, if_pos (by omega)]; rfl
  | 0, f + 1, S, t, _, h, _ => by rw [dg_L, if_pos (by omega)]; rfl
  | n + 1, 0, S, t, _, h, hf => by omega
  | n + 1, f + 1, S, t, ho, h, hf => by
    rw [dg_L, if_neg (by omega), if_pos (by omega), blk_impl S _ (by simp; omega) ho, Option.bind_some]
    rw [L_impl n f _ _ (blk_ok _ _) (by simp; omega) (by omega), fold]
    have e1 : t.extract 0 64 = strOfNums ((byt t).take 64) := by rw [← str_byt (t.extract 0 64), byt_extract]; rfl
    have e2 : byt (t.extract 64 t.size) = (byt t).drop 64 := by
      rw [byt_extract, List.take_of_length_le (by rw [List.length_drop, byt_length]; omega)]
    rw [e1, e2]
set_option maxRecDepth 20000 in
theorem B_spec (B : List Int) : ∀ (n f i : Nat) (S : List Int), Ok8 S → B.length = i + 64 * n → n < f → al_B B f i S = some (fold n S (B.drop i))
  | 0, 0, i, S, _, h, hf => by omega
  | n + 1, 0, i, S, _, h, hf => by omega
  | 0, f + 1, i, S, _, h, _ => by rw [al_B, if_neg (by omega)]; rfl
  | n + 1, f + 1, i, S, ho, h, hf => by
    rw [al_B, if_pos (by omega), if_pos (by omega), blk_spec S _ (by rw [str_size, List.length_take, List.length_drop]; omega) ho, Option.bind_some]
    rw [B_spec B n f (i + 64) _ (blk_ok _ _) (by omega) (by omega), fold, List.drop_drop]
theorem pad_spec : ∀ (z n : Nat) (L : List Int), (L.length + z) % 64 = 56 → z < n → z < 64 → al_pad n L = some (L ++ List.replicate z 0)
  | 0, n + 1, L, h, _, _ => by rw [al_pad, if_pos (by omega)]; simp
  | z + 1, n + 1, L, h, hn, hz => by
    rw [al_pad, if_neg (by omega), pad_spec z n _ (by rw [List.length_append, List.length_singleton]; omega) (by omega) (by omega), List.append_assoc]
    rfl
def be8 (v : Int) : List Int := [v / 72057594037927936 % 256, v / 281474976710656 % 256, v / 1099511627776 % 256, v / 4294967296 % 256, v / 16777216 % 256, v / 65536 % 256, v / 256 % 256, v % 256]
def be4 (v : Int) : List Int := [v / 16777216 % 256, v / 65536 % 256, v / 256 % 256, v % 256]
theorem len_spec (v : Int) (L : List Int) : al_len v 8 L = L ++ be8 v := by
  simp [al_len, be8]
theorem big8 (v : Int) : impl_bigBytes.f 20 v 8 = some (strOfNums (be8 v)) := by
  simp [impl_bigBytes.f, impl_bigBytes.l0, wr, be8, List.replicate, Int.ediv_ediv_of_nonneg]
theorem big4 (v : Int) : impl_bigBytes.f 20 v 4 = some (strOfNums (be4 v)) := by
  simp [impl_bigBytes.f, impl_bigBytes.l0, wr, be4, List.replicate, Int.ediv_ediv_of_nonneg]
theorem O_both (S : List Int) (hS : ∀ i : Nat, rd S (i : Int) % 4294967296 = rd S (i : Int)) : ∀ (n i : Nat) (L : List Int), L.length + 4 * n ≤ 1000 → dg_O S n i (strOfNums L) = some (strOfNums (al_O S n i L))
  | 0, _, _, _ => rfl
  | n + 1, i, L, h => by
    have hw : IntKind.u64.wrap (rd S (i : Int)) = rd S (i : Int) := by
      have := hS i
      simp only [IntKind.wrap, IntKind.signed, IntKind.bits]
      simp
      omega
    rw [dg_O, hw, big4, Option.bind_some, if_pos (by rw [str_size, str_size]; simp [be4]; omega), ← str_append, O_both S hS n (i + 1) _ (by simp [be4]; omega)]
    rfl
/-- The digest of a text. -/
def dig (s : ByteArray) : ByteArray :=
  let z := ((119 - (s.size : Int)) % 64).toNat
  let B := byt s ++ [128] ++ List.replicate z 0 ++ be8 (8 * (s.size : Int))
  strOfNums (al_O (fold (B.length / 64) dg_start B) 8 0 [])
theorem start_ok : Ok8 dg_start := ⟨_, _, _, _, _, _, _, _, rfl, by decide⟩
theorem ok_rd {S : List Int} (h : Ok8 S) (i : Nat) : rd S (i : Int) % 4294967296 = rd S (i : Int) := by
  obtain ⟨s0, s1, s2, s3, s4, s5, s6, s7, rfl, h0, h1, h2, h3, h4, h5, h6, h7⟩ := h
  match i with
  | 0 => exact h0
  | 1 => exact h1
  | 2 => exact h2
  | 3 => exact h3
  | 4 => exact h4
  | 5 => exact h5
  | 6 => exact h6
  | 7 => exact h7
  | n + 8 => unfold rd; rw [Int.toNat_natCast]; rfl
theorem ok_len {S : List Int} (h : Ok8 S) : S.length = 8 := by obtain ⟨s0, s1, s2, s3, s4, s5, s6, s7, rfl, _⟩ := h; rfl
theorem al_O_len (S : List Int) : ∀ (n i : Nat) (o : List Int), (al_O S n i o).length = o.length + 4 * n
  | 0, _, _ => by simp [al_O]
  | n + 1, i, o => by rw [al_O, al_O_len S n]; simp; omega
theorem dig_size (s : ByteArray) : (dig s).size = 32 := by
  simp only [dig, str_size, al_O_len]; rfl
theorem all_spec (s : ByteArray) (h : s.size ≤ 1000000) : spec_l02All.f s = some (dig s) := by
  obtain ⟨z, hz⟩ : ∃ z, z = ((119 - (s.size : Int)) % 64).toNat := ⟨_, rfl⟩
  unfold spec_l02All.f dig
  rw [if_pos h, pad_spec z 65 (byt s ++ [128]) (by rw [List.length_append, byt_length, List.length_singleton]; omega) (by omega) (by omega), Option.bind_some]
  show (al_B (al_len (8 * (s.size : Int)) 8 _) 20000 0 dg_start).bind _ = _
  rw [len_spec, ← hz]
  obtain ⟨B, hB⟩ : ∃ B, B = byt s ++ [128] ++ List.replicate z 0 ++ be8 (8 * (s.size : Int)) := ⟨_, rfl⟩
  have hl : B.length = s.size + 9 + z := by rw [hB]; simp [byt_length, be8]; omega
  rw [← hB, B_spec B (B.length / 64) 20000 0 dg_start start_ok (by omega) (by omega), Option.bind_some, List.drop_zero, if_pos (ok_len (fold_ok _ _ _ start_ok))]
  subst hB
  rfl
theorem dig_impl (s : ByteArray) (h : s.size ≤ 1000000) : impl_digest.f s = some (dig s) := by
  obtain ⟨z, hz⟩ : ∃ z, z = ((119 - (s.size : Int)) % 64).toNat := ⟨_, rfl⟩
  have hw : IntKind.u64.wrap (8 * IntKind.u64.wrap (s.size : Int)) = 8 * (s.size : Int) := by
    simp only [IntKind.wrap, IntKind.signed, IntKind.bits]
    simp
    omega
  have hrep : ∀ c, Lib.repeatL [0] c = List.replicate c 0 := by
    intro c
    induction c with
    | zero => rfl
    | succ c ih => rw [Lib.repeatL, ih]; rfl
  unfold impl_digest.f strings_Repeat.f dig
  have hs1 : (⟨#[0]⟩ : ByteArray).size = 1 := rfl
  rw [if_pos (by omega), if_pos (by omega), if_pos (by omega), hs1, if_pos (by omega), Option.bind_some, hw, big8, Option.bind_some, ← hz]
  have hzs : (⟨(Lib.repeatL (⟨#[0]⟩ : ByteArray).data.toList z).toArray⟩ : ByteArray).size = z := by
    show (Lib.repeatL [0] z).toArray.size = z
    rw [hrep]; simp
  have hzb : byt ⟨(Lib.repeatL (⟨#[0]⟩ : ByteArray).data.toList z).toArray⟩ = List.replicate z 0 := by
    show ((Lib.repeatL [0] z).toArray.toList.map _) = _
    rw [hrep]; simp
  have h8 : byt (strOfNums (be8 (8 * (s.size : Int)))) = be8 (8 * (s.size : Int)) := byt_str _ (by
    intro x hx
    simp only [be8, List.mem_cons, List.not_mem_nil, or_false] at hx
    rcases hx with rfl | rfl | rfl | rfl | rfl | rfl | rfl | rfl <;> omega)
  have h128 : byt (⟨#[128]⟩ : ByteArray) = [128] := rfl
  have h8s : (strOfNums (be8 (8 * (s.size : Int)))).size = 8 := by rw [str_size]; rfl
  rw [if_pos (by omega), if_pos (by omega)]
  obtain ⟨zb, hzb'⟩ : ∃ zb : ByteArray, zb = ⟨(Lib.repeatL (⟨#[0]⟩ : ByteArray).data.toList z).toArray⟩ := ⟨_, rfl⟩
  rw [← hzb'] at hzs hzb ⊢
  have hsz : (((s ++ ⟨#[128]⟩) ++ zb) ++ strOfNums (be8 (8 * (s.size : Int)))).size = s.size + 9 + z := by
    rw [ByteArray.size_append, ByteArray.size_append, ByteArray.size_append, hzs, h8s]
    have : (⟨#[128]⟩ : ByteArray).size = 1 := rfl
    omega
  have hby : byt (((s ++ ⟨#[128]⟩) ++ zb) ++ strOfNums (be8 (8 * (s.size : Int)))) = byt s ++ [128] ++ List.replicate z 0 ++ be8 (8 * (s.size : Int)) := by
    rw [byt_append, byt_append, byt_append, hzb, h8, h128]
  obtain ⟨B, hB⟩ : ∃ B, B = byt s ++ [128] ++ List.replicate z 0 ++ be8 (8 * (s.size : Int)) := ⟨_, rfl⟩
  have hl : B.length = s.size + 9 + z := by rw [hB]; simp [byt_length, be8]; omega
  rw [L_impl (B.length / 64) _ dg_start _ start_ok (by rw [hsz]; omega) (by rw [hsz]; omega), Option.bind_some, hby, ← hB, if_pos (ok_len (fold_ok _ _ _ start_ok))]
  refine (O_both _ (ok_rd (fold_ok _ _ _ start_ok)) 8 0 [] (by simp)).trans ?_
  subst hB
  rfl
end Go.Proofs.YtgpgamapopnfcaaDoor.Q
