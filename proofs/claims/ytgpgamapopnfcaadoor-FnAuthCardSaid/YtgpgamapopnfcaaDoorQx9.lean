/- Printed by a program of this session (wip/mp.py over the kit's print.py): functions of the translation as plain Lean functions, and that the machine's calls do what these say. -/
import Derived.Test.YtgpgamapopnfcaaDoorQx0
import Derived.Test.YtgpgamapopnfcaaDoorQx1
namespace Go.Proofs.YtgpgamapopnfcaaDoor.Q
open Go.RowKit Go.Proofs.YtgpgamapopnfcaaDoor.HB Go.Proofs.YtgpgamapopnfcaaDoorW.PrintWords Go.Proofs.YtgpgamapopnfcaaDoorW.PrintLast Go.Proofs.YtgpgamapopnfcaaDoorW.PrintMore
attribute [local go_sem] max2_int min2_int max_two min_two max_three min_three max_four min_four   -- for this text's walks alone
set_option linter.unusedVariables false
set_option linter.unusedSimpArgs false

/-! ### impl_digestBlock: function 59 (by hand) -/
def db_rots (L : List Int) (i : Nat) : Option (Int × Int × Int × Int) := (impl_turned.f (rd L ((i - 15 : Nat) : Int)) 7).bind fun t1 => (impl_turned.f (rd L ((i - 15 : Nat) : Int)) 18).bind fun t2 => (impl_turned.f (rd L ((i - 2 : Nat) : Int)) 17).bind fun t3 => (impl_turned.f (rd L ((i - 2 : Nat) : Int)) 19).bind fun t4 => some (t1, t2, t3, t4)
def db_next (L : List Int) (i : Nat) (t1 t2 t3 t4 : Int) : Int :=
  (rd L ((i - 16 : Nat) : Int) + Go.bits .xor .u32 (Go.bits .xor .u32 t1 t2) (rd L ((i - 15 : Nat) : Int) / 8) + rd L ((i - 7 : Nat) : Int) + Go.bits .xor .u32 (Go.bits .xor .u32 t3 t4) (rd L ((i - 2 : Nat) : Int) / 1024)) % 4294967296
def db_W (b : ByteArray) : Nat → Nat → List Int → Option (List Int)
  | 0, _, L => some L
  | d + 1, i, L => if i < 16 then (impl_bigWord.f (b.extract (4 * i) b.size)).bind fun x => db_W b d (i + 1) (L.set i x)
    else (db_rots L i).bind fun t => db_W b d (i + 1) (L.set i (db_next L i t.1 t.2.1 t.2.2.1 t.2.2.2))
abbrev cu (L : List Int) : Array Value := (L.map (Value.int .u32)).toArray
theorem cu_cell {w : World} {g t : Nat} {L : List Int} (h : w.heap[g]? = some (.cells (cu L) t (0, 0))) (i : Int) (h0 : 0 ≤ i) (h1 : i < (L.length : Int)) : w.cell? ⟨g, i.toNat, none⟩ = some (.int .u32 (rd L i)) := by
  refine (blk_cell h _).trans ?_
  have : i.toNat < L.length := by omega
  simp [rd, List.getD, this]
theorem cu_set {w : World} {g t : Nat} {L : List Int} (h : w.heap[g]? = some (.cells (cu L) t (0, 0))) (i : Nat) (x : Int) : (w.setCell ⟨g, i, none⟩ (.int .u32 x)).heap[g]? = some (.cells (cu (L.set i x)) t (0, 0)) := by
  refine blk_put h i _ ?_
  simp [cu, List.map_set]
def db_keys : List Int := [1116352408, 1899447441, 3049323471, 3921009573, 961987163, 1508970993, 2453635748, 2870763221, 3624381080, 310598401, 607225278, 1426881987, 1925078388, 2162078206, 2614888103, 3248222580, 3835390401, 4022224774, 264347078, 604807628, 770255983, 1249150122, 1555081692, 1996064986, 2554220882, 2821834349, 2952996808, 3210313671, 3336571891, 3584528711, 113926993, 338241895, 666307205, 773529912, 1294757372, 1396182291, 1695183700, 1986661051, 2177026350, 2456956037, 2730485921, 2820302411, 3259730800, 3345764771, 3516065817, 3600352804, 4094571909, 275423344, 430227734, 506948616, 659060556, 883997877, 958139571, 1322822218, 1537002063, 1747873779, 1955562222, 2024104815, 2227730452, 2361852424, 2428436474, 2756734187, 3204031479, 3329325298]
theorem db_keys_len : db_keys.length = 64 := by decide
theorem tab_keys {w : World} (h : Tab w) : ∃ t, w.heap[1]? = some (.cells (cu db_keys) t (0, 0)) := h.2
def db_t1 (W : List Int) (i : Nat) (e f g h r1 r2 r3 : Int) : Int := (h + Go.bits .xor .u32 (Go.bits .xor .u32 r1 r2) r3 + Go.bits .xor .u32 (Go.bits .and .u32 e f) (Go.bits .and .u32 (Go.bits .xor .u32 4294967295 e) g) + rd db_keys (i : Int) + rd W (i : Int)) % 4294967296
def db_t2 (a b c r4 r5 r6 : Int) : Int := (Go.bits .xor .u32 (Go.bits .xor .u32 r4 r5) r6 + Go.bits .xor .u32 (Go.bits .xor .u32 (Go.bits .and .u32 a b) (Go.bits .and .u32 a c)) (Go.bits .and .u32 b c)) % 4294967296
def db_R (W : List Int) : Nat → Nat → Int → Int → Int → Int → Int → Int → Int → Int → Option (List Int)
  | 0, _, a, b, c, d, e, f, g, h => some [a, b, c, d, e, f, g, h]
  | n + 1, i, a, b, c, d, e, f, g, h => (impl_turned.f e 6).bind fun r1 => (impl_turned.f e 11).bind fun r2 => (impl_turned.f e 25).bind fun r3 => (impl_turned.f a 2).bind fun r4 => (impl_turned.f a 13).bind fun r5 => (impl_turned.f a 22).bind fun r6 =>
    db_R W n (i + 1) ((db_t1 W i e f g h r1 r2 r3 + db_t2 a b c r4 r5 r6) % 4294967296) a b c ((d + db_t1 W i e f g h r1 r2 r3) % 4294967296) e f g
def db_A (V : List Int) : Nat → Nat → List Int → List Int
  | 0, _, S => S
  | n + 1, i, S => db_A V n (i + 1) (S.set i ((rd S (i : Int) + rd V (i : Int)) % 4294967296))
def impl_digestBlock.f (S : List Int) (b : ByteArray) : Option (List Int) := if b.size = 64 then match S with
  | [s0, s1, s2, s3, s4, s5, s6, s7] => (db_W b 64 0 (List.replicate 64 0)).bind fun W => (db_R W 64 0 s0 s1 s2 s3 s4 s5 s6 s7).bind fun V => some (db_A V 8 0 [s0, s1, s2, s3, s4, s5, s6, s7])
  | _ => none else none
set_option maxHeartbeats 4000000 in
set_option maxRecDepth 100000 in
theorem impl_digestBlock.calls (g : Nat) (S : List Int) (b : ByteArray) (S' : List Int) (w0 w : World) (hB : Below w0.heap.size w0 w) (hg0 : w0.heap.size ≤ g) (hG : w.heap[g]? = some (.cells (cu S) 70 (0, 0))) (hT : Tab w0) (h : impl_digestBlock.f S b = some S') :
    Calls Tryd.prog 59 #[.pointer (some ⟨g, 0, none⟩), .string b] w fun e w' => e = .returned (.tuple #[]) ∧ w'.heap[g]? = some (.cells (cu S') 70 (0, 0)) ∧ Below w0.heap.size w0 w' := by
  have hu87 := Tryd.underlying87
  have hu70 := Tryd.underlying70
  have BKg := Aside0.mk hG
  have HB := Aside0.mk hB
  have HH := Aside0.mk h
  have TAB := Aside0.mk hT
  have GG := Aside0.mk hg0
  clear hG hB h hT hg0
  obtain ⟨s0, s1, s2, s3, s4, s5, s6, s7, Wd, V, rfl, HZ, HW, HV, rfl⟩ : ∃ s0 s1 s2 s3 s4 s5 s6 s7 Wd V, S = [s0, s1, s2, s3, s4, s5, s6, s7] ∧ Aside0 (b.size = 64) ∧ Aside0 (db_W b 64 0 (List.replicate 64 0) = some Wd) ∧ Aside0 (db_R Wd 64 0 s0 s1 s2 s3 s4 s5 s6 s7 = some V) ∧ S' = db_A V 8 0 [s0, s1, s2, s3, s4, s5, s6, s7] := by
    have := HH.out
    unfold impl_digestBlock.f at this
    by_cases hz : b.size = 64
    · rw [if_pos hz] at this
      split at this
      · obtain ⟨Wd, h1, h2⟩ := Option.bind_eq_some_iff.mp this
        obtain ⟨V, h2, h3⟩ := Option.bind_eq_some_iff.mp h2
        exact ⟨_, _, _, _, _, _, _, _, Wd, V, rfl, ⟨hz⟩, ⟨h1⟩, ⟨h2⟩, (Option.some.inj h3).symm⟩
      · cases this
    · rw [if_neg hz] at this; cases this
  clear HH
  go_enter Tryd.func59, Tryd.ntmps59
  go_wp2_with (first | ((with_reducible refine gate_dst (N := 4) rfl ?_); refine box_event (by rfl) (N := 4) (by rfl) (cs := cu (List.replicate 64 0)) (t := 87) (by first | (go_simp; done) | (go_simp; rfl)) ?_; intro gw hg w1 hbox hb1; have NB := Aside0.mk ((by rw [hg]; exact Nat.ne_of_lt (blk_lt (g := g) BKg.out)) : g ≠ gw); have GE := Aside0.mk ((by rw [hg]; exact HB.out.size) : w0.heap.size ≤ gw); have _ := Aside0.mk (blk_below (g := g) BKg.out hb1); have _ := Aside0.mk (below_step HB.out hb1); clear BKg HB; rename_i BKg HB; have BKw := Aside0.mk hbox; clear hbox hg hb1))
  go_loopg [23] 65 (fun kq v23 w' => ∃ (i : Nat) (L : List Int), v23 = .int .i64 (i : Int) ∧ Aside0 (kq + i = 65) ∧ Aside0 (i ≤ 64) ∧ Aside0 (L.length = 64) ∧ Aside0 (db_W b (64 - i) i L = some Wd) ∧ Aside0 (w'.heap[g]? = some (.cells (cu [s0, s1, s2, s3, s4, s5, s6, s7]) 70 (0, 0))) ∧ Aside0 (w'.heap[gw]? = some (.cells (cu L) 87 (0, 0))) ∧ Aside0 (Below w0.heap.size w0 w'))
  case atStart => exact ⟨0, List.replicate 64 0, rfl, ⟨rfl⟩, ⟨by decide⟩, ⟨by simp⟩, HW, BKg, BKw, HB⟩
  case round =>
    clear HW BKg BKw HB
    obtain ⟨i, L, rfl, HK, HI, HL, HW, BKg, BKw, HB⟩ := hrel
    cases gk with
    | zero => exact absurd HK.out (by have := HI.out; omega)
    | succ k1 =>
    by_cases hlt : i < 64
    · have c1 : decide ((i : Int) < 64) = true := decide_eq_true (by omega)
      have G0 : decide (0 ≤ (i : Int)) = true := decide_eq_true (by omega)
      obtain ⟨d, hd⟩ : ∃ d, 64 - i = d + 1 := ⟨63 - i, by omega⟩
      by_cases h16 : i < 16
      · have c2 : decide ((i : Int) < 16) = true := decide_eq_true (by omega)
        have e4 : IntKind.i64.wrap (4 * (i : Int)) = ((4 * i : Nat) : Int) := by rw [i64_w]; unfold wrap64; omega
        have e4' : wrap64 (4 * (i : Int)) = ((4 * i : Nat) : Int) := by unfold wrap64; omega
        obtain ⟨x, A1, A2⟩ : ∃ x, Aside0 (impl_bigWord.f (b.extract (4 * i) b.size) = some x) ∧ Aside0 (db_W b d (i + 1) (L.set i x) = some Wd) := by
          have := HW.out; rw [hd] at this; simp only [db_W] at this; rw [if_pos h16] at this
          obtain ⟨x, h1, h2⟩ := Option.bind_eq_some_iff.mp this
          exact ⟨x, ⟨h1⟩, ⟨h2⟩⟩
        have p1 : decide (4 * i ≤ b.size) = true := decide_eq_true (by have := HZ.out; omega)
        have p2 : (4 * (i : Int) ≤ (b.size : Int)) = True := eq_true (by have := HZ.out; omega)
        have p3 : decide (4 * (i : Int) ≤ (b.size : Int)) = true := decide_eq_true (by have := HZ.out; omega)
        have hcw := cu_cell BKw.out (i : Int) (by omega) (by have := HL.out; omega)
        simp only [Int.toNat_natCast] at hcw
        have hfw := blk_frozen BKw.out i
        have HD := Aside0.mk hd
        clear HW hd
        go_wp2_with (first | (go_at_call 66; (with_reducible refine (impl_bigWord.calls (b.extract (4 * i) b.size) x _ A1.out).mono ?_); rintro e w' ⟨rfl, ⟨nd, rfl⟩⟩))
        go_roundg k1
        case measure => omega
        case rel => exact ⟨i + 1, L.set i x, rfl, ⟨by have := HK.out; omega⟩, ⟨by omega⟩, ⟨by rw [List.length_set]; exact HL.out⟩, ⟨by rw [show 64 - (i + 1) = d by have := HD.out; omega]; exact A2.out⟩, ⟨blk_far (blk_drewN BKg.out nd) NB.out _⟩, ⟨cu_set (blk_drewN BKw.out nd) i x⟩, ⟨below_set (pw_below_drewN HB.out nd) GE.out⟩⟩
      · obtain ⟨j, rfl⟩ : ∃ j, i = j + 16 := ⟨i - 16, by omega⟩
        have c2 : decide (((j + 16 : Nat) : Int) < 16) = false := decide_eq_false (by omega)
        obtain ⟨t1, t2, t3, t4, A1, A2, A3, A4, A5⟩ : ∃ t1 t2 t3 t4, Aside0 (impl_turned.f (rd L ((j + 1 : Nat) : Int)) 7 = some t1) ∧ Aside0 (impl_turned.f (rd L ((j + 1 : Nat) : Int)) 18 = some t2) ∧ Aside0 (impl_turned.f (rd L ((j + 14 : Nat) : Int)) 17 = some t3) ∧ Aside0 (impl_turned.f (rd L ((j + 14 : Nat) : Int)) 19 = some t4) ∧ Aside0 (db_W b d (j + 17) (L.set (j + 16) (db_next L (j + 16) t1 t2 t3 t4)) = some Wd) := by
          have := HW.out; rw [hd] at this; simp only [db_W] at this; rw [if_neg h16] at this
          obtain ⟨x, h1, h2⟩ := Option.bind_eq_some_iff.mp this
          unfold db_rots at h1
          obtain ⟨t1, g1, h1⟩ := Option.bind_eq_some_iff.mp h1
          obtain ⟨t2, g2, h1⟩ := Option.bind_eq_some_iff.mp h1
          obtain ⟨t3, g3, h1⟩ := Option.bind_eq_some_iff.mp h1
          obtain ⟨t4, g4, h1⟩ := Option.bind_eq_some_iff.mp h1
          obtain rfl := Option.some.inj h1
          exact ⟨t1, t2, t3, t4, ⟨g1⟩, ⟨g2⟩, ⟨g3⟩, ⟨g4⟩, ⟨h2⟩⟩
        have HD := Aside0.mk hd
        clear HW hd
        have q0 := cu_cell BKw.out ((j : Nat) : Int) (by omega) (by have := HL.out; omega)
        have q1 := cu_cell BKw.out ((j + 1 : Nat) : Int) (by omega) (by have := HL.out; omega)
        have q9 := cu_cell BKw.out ((j + 9 : Nat) : Int) (by omega) (by have := HL.out; omega)
        have q14 := cu_cell BKw.out ((j + 14 : Nat) : Int) (by omega) (by have := HL.out; omega)
        have q16 := cu_cell BKw.out ((j + 16 : Nat) : Int) (by omega) (by have := HL.out; omega)
        simp only [Int.toNat_natCast] at q0 q1 q9 q14 q16
        have hfw := blk_frozen BKw.out (j + 16)
        have b0 : decide (j < 48) = true := decide_eq_true (by omega)
        have b1 : (j : Int) < 48 := by omega
        obtain ⟨x0, hx0⟩ : ∃ x, x = rd L ((j : Nat) : Int) := ⟨_, rfl⟩
        obtain ⟨x1, hx1⟩ : ∃ x, x = rd L ((j + 1 : Nat) : Int) := ⟨_, rfl⟩
        obtain ⟨x9, hx9⟩ : ∃ x, x = rd L ((j + 9 : Nat) : Int) := ⟨_, rfl⟩
        obtain ⟨x14, hx14⟩ : ∃ x, x = rd L ((j + 14 : Nat) : Int) := ⟨_, rfl⟩
        rw [← hx0] at q0
        rw [← hx1] at q1 A1 A2
        rw [← hx9] at q9
        rw [← hx14] at q14 A3 A4
        have hn : (x0 + Go.bits .xor .u32 (Go.bits .xor .u32 t1 t2) (x1 / 8) + x9 + Go.bits .xor .u32 (Go.bits .xor .u32 t3 t4) (x14 / 1024)) % 4294967296 = db_next L (j + 16) t1 t2 t3 t4 := by
          unfold db_next
          rw [show j + 16 - 16 = j by omega, show j + 16 - 15 = j + 1 by omega, show j + 16 - 7 = j + 9 by omega, show j + 16 - 2 = j + 14 by omega, ← hx0, ← hx1, ← hx9, ← hx14]
        have HN := Aside0.mk hn
        clear hn hx0 hx1 hx9 hx14
        go_wp2
        go_quiet (fail)
        go_wp2_with (first | (go_at_call 67; (with_reducible refine (impl_turned.calls x1 7 t1 _ A1.out).mono ?_); rintro e w' ⟨rfl, ⟨nd, rfl⟩⟩) | (go_at_call 67; (with_reducible refine (impl_turned.calls x1 18 t2 _ A2.out).mono ?_); rintro e w' ⟨rfl, ⟨nd, rfl⟩⟩) | (go_at_call 67; (with_reducible refine (impl_turned.calls x14 17 t3 _ A3.out).mono ?_); rintro e w' ⟨rfl, ⟨nd, rfl⟩⟩) | (go_at_call 67; (with_reducible refine (impl_turned.calls x14 19 t4 _ A4.out).mono ?_); rintro e w' ⟨rfl, ⟨nd, rfl⟩⟩))
        go_region
        all_goals try go_wp2
        go_roundg k1
        case measure => omega
        case rel => exact ⟨j + 17, L.set (j + 16) (db_next L (j + 16) t1 t2 t3 t4), by rw [show ((j + 17 : Nat) : Int) = (j : Int) + 16 + 1 by omega], ⟨by have := HK.out; omega⟩, ⟨by omega⟩, ⟨by rw [List.length_set]; exact HL.out⟩, ⟨by rw [show 64 - (j + 17) = d by have := HD.out; omega]; exact A5.out⟩, ⟨blk_far (blk_drewN BKg.out _) NB.out _⟩, ⟨by rw [HN.out]; exact cu_set (blk_drewN BKw.out _) (j + 16) _⟩, ⟨below_set (pw_below_drewN HB.out _) GE.out⟩⟩
    · obtain rfl : i = 64 := by have := HI.out; omega
      have c1 : decide ((64 : Int) < 64) = false := by decide
      obtain rfl : L = Wd := by have := HW.out; exact Option.some.inj this
      clear HW HK HI hlt
      obtain ⟨ty, hk0⟩ := tab_keys (tabB TAB.out (Below.refl _ _))
      have hk1 := Aside0.mk hk0
      clear hk0
      have r0 : wr.cell? ⟨g, 0, none⟩ = some (.int .u32 s0) := (blk_cell BKg.out 0).trans rfl
      have r1 : wr.cell? ⟨g, 1, none⟩ = some (.int .u32 s1) := (blk_cell BKg.out 1).trans rfl
      have r2 : wr.cell? ⟨g, 2, none⟩ = some (.int .u32 s2) := (blk_cell BKg.out 2).trans rfl
      have r3 : wr.cell? ⟨g, 3, none⟩ = some (.int .u32 s3) := (blk_cell BKg.out 3).trans rfl
      have r4 : wr.cell? ⟨g, 4, none⟩ = some (.int .u32 s4) := (blk_cell BKg.out 4).trans rfl
      have r5 : wr.cell? ⟨g, 5, none⟩ = some (.int .u32 s5) := (blk_cell BKg.out 5).trans rfl
      have r6 : wr.cell? ⟨g, 6, none⟩ = some (.int .u32 s6) := (blk_cell BKg.out 6).trans rfl
      have r7 : wr.cell? ⟨g, 7, none⟩ = some (.int .u32 s7) := (blk_cell BKg.out 7).trans rfl
      go_wp2
      go_quiet (fail)
      go_wp2
      clear r0 r1 r2 r3 r4 r5 r6 r7
      go_loopg [10, 11, 12, 13, 14, 15, 16, 17, 107] 65 (fun kq v10 v11 v12 v13 v14 v15 v16 v17 v107 w' => ∃ (i : Nat) (x1 x2 x3 x4 x5 x6 x7 x8 : Int), v10 = .int .u32 x1 ∧ v11 = .int .u32 x2 ∧ v12 = .int .u32 x3 ∧ v13 = .int .u32 x4 ∧ v14 = .int .u32 x5 ∧ v15 = .int .u32 x6 ∧ v16 = .int .u32 x7 ∧ v17 = .int .u32 x8 ∧ v107 = .int .i64 (i : Int) ∧ Aside0 (kq + i = 65) ∧ Aside0 (i ≤ 64) ∧ Aside0 (db_R L (64 - i) i x1 x2 x3 x4 x5 x6 x7 x8 = some V) ∧ Aside0 (w'.heap[g]? = some (.cells (cu [s0, s1, s2, s3, s4, s5, s6, s7]) 70 (0, 0))) ∧ Aside0 (w'.heap[gw]? = some (.cells (cu L) 87 (0, 0))) ∧ Aside0 (Below w0.heap.size w0 w'))
      case atStart => exact ⟨0, s0, s1, s2, s3, s4, s5, s6, s7, rfl, rfl, rfl, rfl, rfl, rfl, rfl, rfl, rfl, ⟨rfl⟩, ⟨by decide⟩, HV, ⟨blk_drewN BKg.out _⟩, ⟨blk_drewN BKw.out _⟩, ⟨pw_below_drewN HB.out _⟩⟩
      case round =>
        clear HV BKg BKw HB
        obtain ⟨i, x1, x2, x3, x4, x5, x6, x7, x8, rfl, rfl, rfl, rfl, rfl, rfl, rfl, rfl, rfl, HK, HI, HV, BKg, BKw, HB⟩ := hrel
        cases gk with
        | zero => exact absurd HK.out (by have := HI.out; omega)
        | succ k2 =>
        by_cases hlt : i < 64
        · have c1 : decide ((i : Int) < 64) = true := decide_eq_true (by omega)
          have G0 : decide (0 ≤ (i : Int)) = true := decide_eq_true (by omega)
          have G1 : (i : Int) < 64 := by omega
          obtain ⟨n, hn⟩ : ∃ n, 64 - i = n + 1 := ⟨63 - i, by omega⟩
          obtain ⟨r1, r2, r3, r4, r5, r6, A1, A2, A3, A4, A5, A6, A7⟩ : ∃ r1 r2 r3 r4 r5 r6, Aside0 (impl_turned.f x5 6 = some r1) ∧ Aside0 (impl_turned.f x5 11 = some r2) ∧ Aside0 (impl_turned.f x5 25 = some r3) ∧ Aside0 (impl_turned.f x1 2 = some r4) ∧ Aside0 (impl_turned.f x1 13 = some r5) ∧ Aside0 (impl_turned.f x1 22 = some r6) ∧ Aside0 (db_R L n (i + 1) ((db_t1 L i x5 x6 x7 x8 r1 r2 r3 + db_t2 x1 x2 x3 r4 r5 r6) % 4294967296) x1 x2 x3 ((x4 + db_t1 L i x5 x6 x7 x8 r1 r2 r3) % 4294967296) x5 x6 x7 = some V) := by
            have := HV.out; rw [hn] at this; simp only [db_R] at this
            obtain ⟨r1, g1, this⟩ := Option.bind_eq_some_iff.mp this
            obtain ⟨r2, g2, this⟩ := Option.bind_eq_some_iff.mp this
            obtain ⟨r3, g3, this⟩ := Option.bind_eq_some_iff.mp this
            obtain ⟨r4, g4, this⟩ := Option.bind_eq_some_iff.mp this
            obtain ⟨r5, g5, this⟩ := Option.bind_eq_some_iff.mp this
            obtain ⟨r6, g6, this⟩ := Option.bind_eq_some_iff.mp this
            exact ⟨r1, r2, r3, r4, r5, r6, ⟨g1⟩, ⟨g2⟩, ⟨g3⟩, ⟨g4⟩, ⟨g5⟩, ⟨g6⟩, ⟨this⟩⟩
          have HN := Aside0.mk hn
          clear HV hn
          obtain ⟨ty2, hk2⟩ := tab_keys (tabB TAB.out HB.out)
          have q1 := cu_cell hk2 (i : Int) (by omega) (by rw [db_keys_len]; omega)
          have q2 := cu_cell BKw.out (i : Int) (by omega) (by have := HL.out; omega)
          simp only [Int.toNat_natCast] at q1 q2
          obtain ⟨y1, hy1⟩ : ∃ y, y = rd db_keys (i : Int) := ⟨_, rfl⟩
          obtain ⟨y2, hy2⟩ : ∃ y, y = rd L (i : Int) := ⟨_, rfl⟩
          rw [← hy1] at q1
          rw [← hy2] at q2
          have HY1 := Aside0.mk hy1
          have HY2 := Aside0.mk hy2
          clear hk2 hy1 hy2
          have hmx32 : IntKind.u32.max = 4294967295 := by decide
          go_wp2
          go_quiet (first | (go_at_call 67; (with_reducible refine (impl_turned.calls x5 6 r1 _ A1.out).mono ?_); rintro e w' ⟨rfl, ⟨nd, rfl⟩⟩; (try first | exact ⟨rfl, _, dD⟩ | exact ⟨rfl, _, dA⟩)) | (go_at_call 67; (with_reducible refine (impl_turned.calls x5 11 r2 _ A2.out).mono ?_); rintro e w' ⟨rfl, ⟨nd, rfl⟩⟩; (try first | exact ⟨rfl, _, dD⟩ | exact ⟨rfl, _, dA⟩)) | (go_at_call 67; (with_reducible refine (impl_turned.calls x5 25 r3 _ A3.out).mono ?_); rintro e w' ⟨rfl, ⟨nd, rfl⟩⟩; (try first | exact ⟨rfl, _, dD⟩ | exact ⟨rfl, _, dA⟩)) | (go_at_call 67; (with_reducible refine (impl_turned.calls x1 2 r4 _ A4.out).mono ?_); rintro e w' ⟨rfl, ⟨nd, rfl⟩⟩; (try first | exact ⟨rfl, _, dD⟩ | exact ⟨rfl, _, dA⟩)) | (go_at_call 67; (with_reducible refine (impl_turned.calls x1 13 r5 _ A5.out).mono ?_); rintro e w' ⟨rfl, ⟨nd, rfl⟩⟩; (try first | exact ⟨rfl, _, dD⟩ | exact ⟨rfl, _, dA⟩)) | (go_at_call 67; (with_reducible refine (impl_turned.calls x1 22 r6 _ A6.out).mono ?_); rintro e w' ⟨rfl, ⟨nd, rfl⟩⟩; (try first | exact ⟨rfl, _, dD⟩ | exact ⟨rfl, _, dA⟩)))
          go_wp2_with (first | (go_at_call 67; (with_reducible refine (impl_turned.calls x5 6 r1 _ A1.out).mono ?_); rintro e w' ⟨rfl, ⟨nd, rfl⟩⟩) | (go_at_call 67; (with_reducible refine (impl_turned.calls x5 11 r2 _ A2.out).mono ?_); rintro e w' ⟨rfl, ⟨nd, rfl⟩⟩) | (go_at_call 67; (with_reducible refine (impl_turned.calls x5 25 r3 _ A3.out).mono ?_); rintro e w' ⟨rfl, ⟨nd, rfl⟩⟩) | (go_at_call 67; (with_reducible refine (impl_turned.calls x1 2 r4 _ A4.out).mono ?_); rintro e w' ⟨rfl, ⟨nd, rfl⟩⟩) | (go_at_call 67; (with_reducible refine (impl_turned.calls x1 13 r5 _ A5.out).mono ?_); rintro e w' ⟨rfl, ⟨nd, rfl⟩⟩) | (go_at_call 67; (with_reducible refine (impl_turned.calls x1 22 r6 _ A6.out).mono ?_); rintro e w' ⟨rfl, ⟨nd, rfl⟩⟩))
          go_roundg k2
          case measure => omega
          case rel =>
            refine ⟨i + 1, (db_t1 L i x5 x6 x7 x8 r1 r2 r3 + db_t2 x1 x2 x3 r4 r5 r6) % 4294967296, x1, x2, x3, (x4 + db_t1 L i x5 x6 x7 x8 r1 r2 r3) % 4294967296, x5, x6, x7, ?_, rfl, rfl, rfl, ?_, rfl, rfl, rfl, rfl, ⟨by have := HK.out; omega⟩, ⟨by omega⟩, ⟨by rw [show 64 - (i + 1) = n by have := HN.out; omega]; exact A7.out⟩, ⟨blk_drewN BKg.out _⟩, ⟨blk_drewN BKw.out _⟩, ⟨pw_below_drewN HB.out _⟩⟩
            · congr 1
              unfold db_t1 db_t2
              rw [← HY1.out, ← HY2.out, Int.emod_add_emod, Int.add_emod_emod]
            · congr 1
              unfold db_t1
              rw [← HY1.out, ← HY2.out, Int.add_emod_emod]
        · obtain rfl : i = 64 := by have := HI.out; omega
          have c1 : decide ((64 : Int) < 64) = false := by decide
          have HV2 : Aside0 ([x1, x2, x3, x4, x5, x6, x7, x8] = V) := ⟨by have := HV.out; exact Option.some.inj this⟩
          clear HV HK HI hlt BKw HL
          go_wp2
          go_loopg [179] 9 (fun kq v179 w' => ∃ (i : Nat) (S : List Int), v179 = .int .i64 (i : Int) ∧ Aside0 (kq + i = 9) ∧ Aside0 (i ≤ 8) ∧ Aside0 (S.length = 8) ∧ Aside0 (db_A V (8 - i) i S = db_A V 8 0 [s0, s1, s2, s3, s4, s5, s6, s7]) ∧ Aside0 (w'.heap[g]? = some (.cells (cu S) 70 (0, 0))) ∧ Aside0 (Below w0.heap.size w0 w'))
          case atStart => exact ⟨0, [s0, s1, s2, s3, s4, s5, s6, s7], rfl, ⟨rfl⟩, ⟨by decide⟩, ⟨rfl⟩, ⟨rfl⟩, BKg, HB⟩
          case round =>
            clear BKg HB
            obtain ⟨i, S, rfl, HK, HI, HL, HA, BKg, HB⟩ := hrel
            cases gk with
            | zero => exact absurd HK.out (by have := HI.out; omega)
            | succ k3 =>
            by_cases hlt : i < 8
            · have c1 : decide ((i : Int) < 8) = true := decide_eq_true (by omega)
              have G0 : decide (0 ≤ (i : Int)) = true := decide_eq_true (by omega)
              have G1 : (i : Int) < 8 := by omega
              have q1 := cu_cell BKg.out (i : Int) (by omega) (by have := HL.out; omega)
              simp only [Int.toNat_natCast] at q1
              obtain ⟨y1, hy1⟩ : ∃ y, y = rd S (i : Int) := ⟨_, rfl⟩
              rw [← hy1] at q1
              have HY1 := Aside0.mk hy1
              have hfg := blk_frozen BKg.out i
              clear hy1
              have hix : ∀ w_ : World, Sem.run Tryd.prog (Instr.index 70 (.agg #[.int .u32 x1, .int .u32 x2, .int .u32 x3, .int .u32 x4, .int .u32 x5, .int .u32 x6, .int .u32 x7, .int .u32 x8]) (.int .i64 (i : Int))) w_ = .ok (.int .u32 (rd V (i : Int))) w_ := by
                intro w_
                rw [← HV2.out]
                obtain rfl | rfl | rfl | rfl | rfl | rfl | rfl | rfl : i = 0 ∨ i = 1 ∨ i = 2 ∨ i = 3 ∨ i = 4 ∨ i = 5 ∨ i = 6 ∨ i = 7 := by omega
                all_goals kernel_rfl
              obtain ⟨y2, hy2⟩ : ∃ y, y = rd V (i : Int) := ⟨_, rfl⟩
              rw [← hy2] at hix
              have HY2 := Aside0.mk hy2
              clear hy2
              go_wp2
              go_region
              all_goals try go_wp2
              go_roundg k3
              case measure => omega
              case rel =>
                refine ⟨i + 1, S.set i ((rd S (i : Int) + rd V (i : Int)) % 4294967296), rfl, ⟨by have := HK.out; omega⟩, ⟨by omega⟩, ⟨by rw [List.length_set]; exact HL.out⟩, ⟨?_⟩, ⟨?_⟩, ⟨below_drew1 (below_set HB.out GG.out)⟩⟩
                · rw [← HA.out, show 8 - i = (8 - (i + 1)) + 1 by omega]
                  rfl
                · rw [HY1.out, HY2.out]
                  exact blk_drew (cu_set BKg.out i _)
            · obtain rfl : i = 8 := by have := HI.out; omega
              have c1 : decide ((8 : Int) < 8) = false := by decide
              clear hlt
              go_wp2
              go_end0
              exact ⟨rfl, by rw [← HA.out]; exact BKg.out, HB.out⟩


end Go.Proofs.YtgpgamapopnfcaaDoor.Q
