/- Printed by a program of this session (wip/mp.py over the kit's print.py): functions of the translation as plain Lean functions, and that the machine's calls do what these say. -/
import Derived.Test.YtgpgamapopnfcaaDoorQx0
import Derived.Test.YtgpgamapopnfcaaDoorQx1
import Derived.Test.YtgpgamapopnfcaaDoorQx8
import Derived.Test.YtgpgamapopnfcaaDoorQx9
namespace Go.Proofs.YtgpgamapopnfcaaDoor.Q
open Go.RowKit Go.Proofs.YtgpgamapopnfcaaDoor.HB Go.Proofs.YtgpgamapopnfcaaDoorW.PrintWords Go.Proofs.YtgpgamapopnfcaaDoorW.PrintLast Go.Proofs.YtgpgamapopnfcaaDoorW.PrintMore
attribute [local go_sem] max2_int min2_int max_two min_two max_three min_three max_four min_four   -- for this text's walks alone
set_option linter.unusedVariables false
set_option linter.unusedSimpArgs false

/-! ### impl_digest: function 51 (by hand) -/
def dg_start : List Int := [1779033703, 3144134277, 1013904242, 2773480762, 1359893119, 2600822924, 528734635, 1541459225]
def dg_L : Nat → List Int → ByteArray → Option (List Int)
  | 0, S, t => if t.size = 0 then some S else none
  | n + 1, S, t => if t.size = 0 then some S else if 64 ≤ t.size then (impl_digestBlock.f S (t.extract 0 64)).bind fun S' => dg_L n S' (t.extract 64 t.size) else none
def dg_O (S : List Int) : Nat → Nat → ByteArray → Option ByteArray
  | 0, _, o => some o
  | n + 1, i, o => (impl_bigBytes.f 20 (IntKind.u64.wrap (rd S (i : Int))) 4).bind fun x => if o.size + x.size ≤ 1000 then dg_O S n (i + 1) (o ++ x) else none
def impl_digest.f (a0 : ByteArray) : Option ByteArray := if a0.size ≤ 1152921504606846976 then
    (strings_Repeat.f ⟨#[0]⟩ ((119 - (a0.size : Int)) % 64)).bind fun z => (impl_bigBytes.f 20 (IntKind.u64.wrap (8 * IntKind.u64.wrap (a0.size : Int))) 8).bind fun l8 =>
    if z.size ≤ 1000 then if l8.size ≤ 1000 then (dg_L (((a0 ++ ⟨#[128]⟩) ++ z) ++ l8).size dg_start (((a0 ++ ⟨#[128]⟩) ++ z) ++ l8)).bind fun S => if S.length = 8 then dg_O S 8 0 ⟨#[]⟩ else none else none else none else none
set_option maxHeartbeats 4000000 in
set_option maxRecDepth 100000 in
theorem impl_digest.calls (a0 : ByteArray) (r : ByteArray) (w : World) (hT : Tab w) (h : impl_digest.f a0 = some r) :
    Calls Tryd.prog 51 #[.string a0] w fun e w' => e = .returned (.string r) ∧ Below w.heap.size w w' := by
  have hu70 := Tryd.underlying70
  have TAB := Aside0.mk hT
  have HB := Aside0.mk (Below.refl w.heap.size w)
  obtain ⟨z, l8, S, HS, A1, A2, Z1, Z2, A3, S8, A4⟩ : ∃ z l8 S, Aside0 (a0.size ≤ 1152921504606846976) ∧ Aside0 (strings_Repeat.f ⟨#[0]⟩ ((119 - (a0.size : Int)) % 64) = some z) ∧ Aside0 (impl_bigBytes.f 20 (IntKind.u64.wrap (8 * IntKind.u64.wrap (a0.size : Int))) 8 = some l8) ∧ Aside0 (z.size ≤ 1000) ∧ Aside0 (l8.size ≤ 1000) ∧
      Aside0 (dg_L (((a0 ++ ⟨#[128]⟩) ++ z) ++ l8).size dg_start (((a0 ++ ⟨#[128]⟩) ++ z) ++ l8) = some S) ∧ Aside0 (S.length = 8) ∧ Aside0 (dg_O S 8 0 ⟨#[]⟩ = some r) := by
    unfold impl_digest.f at h
    by_cases c1 : a0.size ≤ 1152921504606846976
    · rw [if_pos c1] at h
      obtain ⟨z, h1, h⟩ := Option.bind_eq_some_iff.mp h
      obtain ⟨l8, h2, h⟩ := Option.bind_eq_some_iff.mp h
      by_cases c2 : z.size ≤ 1000
      · rw [if_pos c2] at h
        by_cases c3 : l8.size ≤ 1000
        · rw [if_pos c3] at h
          obtain ⟨S, h3, h⟩ := Option.bind_eq_some_iff.mp h
          by_cases c4 : S.length = 8
          · rw [if_pos c4] at h
            exact ⟨z, l8, S, ⟨c1⟩, ⟨h1⟩, ⟨h2⟩, ⟨c2⟩, ⟨c3⟩, ⟨h3⟩, ⟨c4⟩, ⟨h⟩⟩
          · rw [if_neg c4] at h; cases h
        · rw [if_neg c3] at h; cases h
      · rw [if_neg c2] at h; cases h
    · rw [if_neg c1] at h; cases h
  clear h
  obtain ⟨⟨ty0, hk⟩, _⟩ := hT
  have r0 : w.cell? ⟨0, 0, none⟩ = some (.int .u32 1779033703) := (blk_cell hk 0).trans rfl
  have r1 : w.cell? ⟨0, 1, none⟩ = some (.int .u32 3144134277) := (blk_cell hk 1).trans rfl
  have r2 : w.cell? ⟨0, 2, none⟩ = some (.int .u32 1013904242) := (blk_cell hk 2).trans rfl
  have r3 : w.cell? ⟨0, 3, none⟩ = some (.int .u32 2773480762) := (blk_cell hk 3).trans rfl
  have r4 : w.cell? ⟨0, 4, none⟩ = some (.int .u32 1359893119) := (blk_cell hk 4).trans rfl
  have r5 : w.cell? ⟨0, 5, none⟩ = some (.int .u32 2600822924) := (blk_cell hk 5).trans rfl
  have r6 : w.cell? ⟨0, 6, none⟩ = some (.int .u32 528734635) := (blk_cell hk 6).trans rfl
  have r7 : w.cell? ⟨0, 7, none⟩ = some (.int .u32 1541459225) := (blk_cell hk 7).trans rfl
  clear hk
  have s1 : (9223372036854775807 < a0.size + 1) = False := eq_false (by have := HS.out; omega)
  have s2 : (9223372036854775807 < a0.size + 1 + z.size) = False := eq_false (by have := HS.out; have := Z1.out; omega)
  have s3 : (9223372036854775807 < a0.size + 1 + z.size + l8.size) = False := eq_false (by have := HS.out; have := Z1.out; have := Z2.out; omega)
  go_enter Tryd.func51, Tryd.ntmps51
  go_wp2_with (first | ((with_reducible refine gate_dst (N := 3) rfl ?_); refine box_event (by rfl) (N := 3) (by rfl) (cs := cu [0, 0, 0, 0, 0, 0, 0, 0]) (t := 70) (by first | (go_simp; done) | (go_simp; rfl)) ?_; intro g hg w1 hbox hb1; have GE := Aside0.mk ((by rw [hg]; exact HB.out.size) : w.heap.size ≤ g); have n1_ := Aside0.mk (below_step HB.out hb1); clear HB; have HB := n1_; clear n1_; have BKg := Aside0.mk hbox; have f0 := blk_frozen hbox 0; have f1 := blk_frozen hbox 1; have f2 := blk_frozen hbox 2; have f3 := blk_frozen hbox 3; have f4 := blk_frozen hbox 4; have f5 := blk_frozen hbox 5; have f6 := blk_frozen hbox 6; have f7 := blk_frozen hbox 7; have c0 := (blk_cell hbox 0).trans rfl; have c1 := (blk_cell hbox 1).trans rfl; have c2 := (blk_cell hbox 2).trans rfl; have c3 := (blk_cell hbox 3).trans rfl; have c4 := (blk_cell hbox 4).trans rfl; have c5 := (blk_cell hbox 5).trans rfl; have c6 := (blk_cell hbox 6).trans rfl; have c7 := (blk_cell hbox 7).trans rfl; clear hbox hg hb1) | (go_at_call 57; (with_reducible refine (strings_Repeat.calls _ _ z _ A1.out).mono ?_); rintro e w2 ⟨rfl, hb⟩; have _ := Aside0.mk (blk_below (g := g) (o := .cells (cu dg_start) 70 (0, 0)) (by refine blk_put (cs := #[.int .u32 1779033703, .int .u32 3144134277, .int .u32 1013904242, .int .u32 2773480762, .int .u32 1359893119, .int .u32 2600822924, .int .u32 528734635, .int .u32 0]) ?_ 7 _ rfl; refine blk_put (cs := #[.int .u32 1779033703, .int .u32 3144134277, .int .u32 1013904242, .int .u32 2773480762, .int .u32 1359893119, .int .u32 2600822924, .int .u32 0, .int .u32 0]) ?_ 6 _ rfl; refine blk_put (cs := #[.int .u32 1779033703, .int .u32 3144134277, .int .u32 1013904242, .int .u32 2773480762, .int .u32 1359893119, .int .u32 0, .int .u32 0, .int .u32 0]) ?_ 5 _ rfl; refine blk_put (cs := #[.int .u32 1779033703, .int .u32 3144134277, .int .u32 1013904242, .int .u32 2773480762, .int .u32 0, .int .u32 0, .int .u32 0, .int .u32 0]) ?_ 4 _ rfl; refine blk_put (cs := #[.int .u32 1779033703, .int .u32 3144134277, .int .u32 1013904242, .int .u32 0, .int .u32 0, .int .u32 0, .int .u32 0, .int .u32 0]) ?_ 3 _ rfl; refine blk_put (cs := #[.int .u32 1779033703, .int .u32 3144134277, .int .u32 0, .int .u32 0, .int .u32 0, .int .u32 0, .int .u32 0, .int .u32 0]) ?_ 2 _ rfl; refine blk_put (cs := #[.int .u32 1779033703, .int .u32 0, .int .u32 0, .int .u32 0, .int .u32 0, .int .u32 0, .int .u32 0, .int .u32 0]) ?_ 1 _ rfl; refine blk_put (cs := #[.int .u32 0, .int .u32 0, .int .u32 0, .int .u32 0, .int .u32 0, .int .u32 0, .int .u32 0, .int .u32 0]) ?_ 0 _ rfl; exact BKg.out) hb); have _ := Aside0.mk (below_step (below_set (below_set (below_set (below_set (below_set (below_set (below_set (below_set HB.out GE.out) GE.out) GE.out) GE.out) GE.out) GE.out) GE.out) GE.out) hb); clear BKg HB hb f0 f1 f2 f3 f4 f5 f6 f7 c0 c1 c2 c3 c4 c5 c6 c7; rename_i BKg HB) | (go_at_call 58; (with_reducible refine (impl_bigBytes.calls 20 _ 8 l8 _ A2.out).mono ?_); rintro e w3 ⟨rfl, hb⟩; have _ := Aside0.mk (blk_below (g := g) BKg.out hb); have _ := Aside0.mk (below_step HB.out hb); clear BKg HB hb; rename_i BKg HB))
  clear r0 r1 r2 r3 r4 r5 r6 r7 s1 s2 s3 A1 A2
  go_loopg [5] ((((a0 ++ ⟨#[128]⟩) ++ z) ++ l8).size + 1) (fun kq v5 w' => ∃ (n : Nat) (Sx : List Int) (t : ByteArray), v5 = .string t ∧ Aside0 (kq = n + 1) ∧ Aside0 (dg_L n Sx t = some S) ∧ Aside0 (w'.heap[g]? = some (.cells (cu Sx) 70 (0, 0))) ∧ Aside0 (Below w.heap.size w w'))
  case atStart => exact ⟨_, dg_start, _, rfl, ⟨rfl⟩, A3, BKg, HB⟩
  case round =>
    clear A3 BKg HB
    obtain ⟨n, Sx, t, rfl, HK, HL, BKg, HB⟩ := hrel
    cases gk with
    | zero => exact absurd HK.out (by omega)
    | succ k1 =>
    by_cases hz : t.size = 0
    · obtain rfl : t = ⟨#[]⟩ := ByteArray.ext (Array.eq_empty_of_size_eq_zero hz)
      obtain rfl : Sx = S := by
        have := HL.out
        cases n with
        | zero => simp only [dg_L] at this; rw [if_pos hz] at this; exact Option.some.inj this
        | succ n => simp only [dg_L] at this; rw [if_pos hz] at this; exact Option.some.inj this
      clear HL HK hz
      obtain ⟨x0, x1, x2, x3, x4, x5, x6, x7, rfl⟩ : ∃ x0 x1 x2 x3 x4 x5 x6 x7, Sx = [x0, x1, x2, x3, x4, x5, x6, x7] := by
        have := S8.out
        match Sx, this with
        | [x0, x1, x2, x3, x4, x5, x6, x7], _ => exact ⟨_, _, _, _, _, _, _, _, rfl⟩
      have r0 : wr.cell? ⟨g, 0, none⟩ = some (.int .u32 x0) := (blk_cell BKg.out 0).trans rfl
      have r1 : wr.cell? ⟨g, 1, none⟩ = some (.int .u32 x1) := (blk_cell BKg.out 1).trans rfl
      have r2 : wr.cell? ⟨g, 2, none⟩ = some (.int .u32 x2) := (blk_cell BKg.out 2).trans rfl
      have r3 : wr.cell? ⟨g, 3, none⟩ = some (.int .u32 x3) := (blk_cell BKg.out 3).trans rfl
      have r4 : wr.cell? ⟨g, 4, none⟩ = some (.int .u32 x4) := (blk_cell BKg.out 4).trans rfl
      have r5 : wr.cell? ⟨g, 5, none⟩ = some (.int .u32 x5) := (blk_cell BKg.out 5).trans rfl
      have r6 : wr.cell? ⟨g, 6, none⟩ = some (.int .u32 x6) := (blk_cell BKg.out 6).trans rfl
      have r7 : wr.cell? ⟨g, 7, none⟩ = some (.int .u32 x7) := (blk_cell BKg.out 7).trans rfl
      go_wp2
      clear r0 r1 r2 r3 r4 r5 r6 r7
      go_loopg [6, 34] 9 (fun kq v6 v34 w' => ∃ (i : Nat) (o : ByteArray), v6 = .string o ∧ v34 = .int .i64 (i : Int) ∧ Aside0 (kq + i = 9) ∧ Aside0 (i ≤ 8) ∧ Aside0 (dg_O [x0, x1, x2, x3, x4, x5, x6, x7] (8 - i) i o = some r) ∧ Aside0 (Below w.heap.size w w'))
      case atStart => exact ⟨0, ⟨#[]⟩, rfl, rfl, ⟨rfl⟩, ⟨by decide⟩, A4, HB⟩
      case round =>
        clear A4 HB BKg
        obtain ⟨i, o, rfl, rfl, HK, HI, HO, HB⟩ := hrel
        cases gk with
        | zero => exact absurd HK.out (by have := HI.out; omega)
        | succ k2 =>
        by_cases hlt : i < 8
        · have c1 : decide ((i : Int) < 8) = true := decide_eq_true (by omega)
          have G0 : decide (0 ≤ (i : Int)) = true := decide_eq_true (by omega)
          have G1 : (i : Int) < 8 := by omega
          obtain ⟨m, hm⟩ : ∃ m, 8 - i = m + 1 := ⟨7 - i, by omega⟩
          have hix : ∀ w_ : World, Sem.run Tryd.prog (Instr.index 70 (.agg #[.int .u32 x0, .int .u32 x1, .int .u32 x2, .int .u32 x3, .int .u32 x4, .int .u32 x5, .int .u32 x6, .int .u32 x7]) (.int .i64 (i : Int))) w_ = .ok (.int .u32 (rd [x0, x1, x2, x3, x4, x5, x6, x7] (i : Int))) w_ := by
            intro w_
            obtain rfl | rfl | rfl | rfl | rfl | rfl | rfl | rfl : i = 0 ∨ i = 1 ∨ i = 2 ∨ i = 3 ∨ i = 4 ∨ i = 5 ∨ i = 6 ∨ i = 7 := by omega
            all_goals kernel_rfl
          obtain ⟨x, A1, L1, A2⟩ : ∃ x, Aside0 (impl_bigBytes.f 20 (IntKind.u64.wrap (rd [x0, x1, x2, x3, x4, x5, x6, x7] (i : Int))) 4 = some x) ∧ Aside0 (o.size + x.size ≤ 1000) ∧ Aside0 (dg_O [x0, x1, x2, x3, x4, x5, x6, x7] m (i + 1) (o ++ x) = some r) := by
            have := HO.out; rw [hm] at this; simp only [dg_O] at this
            obtain ⟨x, h1, h2⟩ := Option.bind_eq_some_iff.mp this
            by_cases h3 : o.size + x.size ≤ 1000
            · rw [if_pos h3] at h2; exact ⟨x, ⟨h1⟩, ⟨h3⟩, ⟨h2⟩⟩
            · rw [if_neg h3] at h2; cases h2
          obtain ⟨y, hy⟩ : ∃ y, y = rd [x0, x1, x2, x3, x4, x5, x6, x7] (i : Int) := ⟨_, rfl⟩
          rw [← hy] at hix A1
          have HM := Aside0.mk hm
          clear hy HO hm
          have s1 : (9223372036854775807 < o.size + x.size) = False := eq_false (by have := L1.out; omega)
          go_wp2_with (first | (go_at_call 58; (with_reducible refine (impl_bigBytes.calls 20 _ 4 x _ A1.out).mono ?_); rintro e w3 ⟨rfl, hb⟩; have n1_ := Aside0.mk (below_step HB.out hb); clear HB hb; have HB := n1_; clear n1_))
          go_roundg k2
          case measure => omega
          case rel => exact ⟨i + 1, o ++ x, rfl, rfl, ⟨by have := HK.out; omega⟩, ⟨by omega⟩, ⟨by rw [show 8 - (i + 1) = m by have := HM.out; omega]; exact A2.out⟩, HB⟩
        · obtain rfl : i = 8 := by have := HI.out; omega
          have c1 : decide ((8 : Int) < 8) = false := by decide
          obtain rfl : o = r := by have := HO.out; exact Option.some.inj this
          clear hlt HO HI HK
          go_wp2
          go_ret
          exact ⟨rfl, HB.out⟩
    · obtain ⟨m, S', rfl, G64, A1, A2⟩ : ∃ m S', n = m + 1 ∧ Aside0 (64 ≤ t.size) ∧ Aside0 (impl_digestBlock.f Sx (t.extract 0 64) = some S') ∧ Aside0 (dg_L m S' (t.extract 64 t.size) = some S) := by
        have := HL.out
        cases n with
        | zero => simp only [dg_L] at this; rw [if_neg hz] at this; cases this
        | succ m =>
          simp only [dg_L] at this; rw [if_neg hz] at this
          by_cases h64 : 64 ≤ t.size
          · rw [if_pos h64] at this
            obtain ⟨S', h1, h2⟩ := Option.bind_eq_some_iff.mp this
            exact ⟨m, S', rfl, ⟨h64⟩, ⟨h1⟩, ⟨h2⟩⟩
          · rw [if_neg h64] at this; cases this
      have hne : t.toList ≠ [] := by
        intro e; apply hz
        rw [Go.ByteArray.toList_eq] at e
        show t.data.size = 0
        rw [← Array.length_toList, e]; rfl
      have n1 : (t.toList == ([] : List UInt8)) = false := by simpa using hne
      have n2 : (t.toList != ([] : List UInt8)) = true := by simpa using hne
      have n3 : (t.toList = ([] : List UInt8)) = False := eq_false hne
      have p1 : decide (64 ≤ t.size) = true := decide_eq_true G64.out
      have p2 : (64 ≤ t.size) = True := eq_true G64.out
      have p3 : decide ((64 : Int) ≤ (t.size : Int)) = true := decide_eq_true (by have := G64.out; omega)
      have p4 : ((64 : Int) ≤ (t.size : Int)) = True := eq_true (by have := G64.out; omega)
      clear HL hz hne
      go_wp2_with (first | (go_at_call 59; (with_reducible refine (impl_digestBlock.calls g Sx _ S' w _ HB.out GE.out BKg.out TAB.out A1.out).mono ?_); rintro e w4 ⟨rfl, hg, hb⟩; have _ := Aside0.mk hg; have _ := Aside0.mk hb; clear BKg HB hg hb; rename_i BKg HB))
      go_roundg k1
      case measure => omega
      case rel => exact ⟨m, S', _, rfl, ⟨by have := HK.out; omega⟩, A2, BKg, HB⟩


/-! ### impl_pairKey: function 35 -/

def impl_pairKey.f (a0 : ByteArray) (a1 : Int) (a2 : Int) : Option (ByteArray) := (some (([(wrap64 (48 + (mn a1 a2))) % 256, (wrap64 (48 + (mx a1 a2))) % 256] : List Int) : List Int)).bind fun y101 => (if a0.size + (strOfNums y101).size ≤ 9223372036854775807 then ((impl_digest.f (a0 ++ (strOfNums y101))).bind fun t104 => (some t104)) else (none))
set_option maxHeartbeats 60000000 in
set_option maxRecDepth 100000 in
theorem impl_pairKey.calls (a0 : ByteArray) (a1 : Int) (a2 : Int) (r : ByteArray) (w : World) (hT : Tab w) (h : impl_pairKey.f a0 a1 a2 = some r) :
    Calls Tryd.prog 35 #[.string a0, .int .i64 a1, .int .i64 a2] w fun e w' => e = .returned (.string r) ∧ Below w.heap.size w w' := by
 have TAB := AM hT
 clear hT
 have HB := AM (Below.refl w.heap.size w)
 have H : ((some (([(wrap64 (48 + (mn a1 a2))) % 256, (wrap64 (48 + (mx a1 a2))) % 256] : List Int) : List Int)).bind fun y101 => (if a0.size + (strOfNums y101).size ≤ 9223372036854775807 then ((impl_digest.f (a0 ++ (strOfNums y101))).bind fun t104 => (some t104)) else (none))) = some r := h
 clear h
 obtain ⟨ji4, hji4⟩ : ∃ j_ : Int, (mn a1 a2) = j_ := ⟨_, rfl⟩
 replace H : ((some (([(wrap64 (48 + (ji4))) % 256, (wrap64 (48 + (mx a1 a2))) % 256] : List Int) : List Int)).bind fun y101 => (if a0.size + (strOfNums y101).size ≤ 9223372036854775807 then ((impl_digest.f (a0 ++ (strOfNums y101))).bind fun t104 => (some t104)) else (none))) = some r := by first | (rw [hji4] at H; exact H) | (simp only [hji4] at H ⊢; exact H)
 have hji4_ : (if a2 < a1 then a2 else a1) = ji4 := hji4
 obtain ⟨ji5, hji5⟩ : ∃ j_ : Int, (mx a1 a2) = j_ := ⟨_, rfl⟩
 replace H : ((some (([(wrap64 (48 + (ji4))) % 256, (wrap64 (48 + (ji5))) % 256] : List Int) : List Int)).bind fun y101 => (if a0.size + (strOfNums y101).size ≤ 9223372036854775807 then ((impl_digest.f (a0 ++ (strOfNums y101))).bind fun t104 => (some t104)) else (none))) = some r := by first | (rw [hji5] at H; exact H) | (simp only [hji5] at H ⊢; exact H)
 have hji5_ : (if a1 < a2 then a2 else a1) = ji5 := hji5
 obtain ⟨y101, hy101⟩ : ∃ y_ : List Int, y_ = (([(wrap64 (48 + (ji4))) % 256, (wrap64 (48 + (ji5))) % 256] : List Int)) := ⟨_, rfl⟩
 replace H : (if a0.size + (strOfNums y101).size ≤ 9223372036854775807 then ((impl_digest.f (a0 ++ (strOfNums y101))).bind fun t104 => (some t104)) else (none)) = some r := by first | (rw [hy101]; with_reducible exact H) | (have H2_ := (Option.bind_some _ _).symm.trans H; rw [hy101]; with_reducible exact H2_) | (have H2_ := (Option.bind_some _ _).symm.trans H; with_reducible exact H2_) | with_reducible exact H | (rw [hy101]; exact H) | exact H
 have Ny101 := AM hy101
 clear hy101
 by_cases c6 : a0.size + (strOfNums y101).size ≤ 9223372036854775807
 ·
  rw [if_pos c6] at H
  have c6b0 := eq_true c6
  have c6b1 : decide (a0.size + (strOfNums y101).size ≤ 9223372036854775807) = true := decide_eq_true c6
  try have c6b2 : (9223372036854775807 < a0.size + (strOfNums y101).size) = False := eq_false (Nat.not_lt.2 c6)
  replace H := Option.bind_eq_some_iff.mp H
  obtain ⟨t104, A70, H⟩ := H
  replace H : (some t104) = some r := H
  have A7 := AM A70
  clear A70
  obtain rfl := Option.some.inj H
  go_enter Tryd.func35, Tryd.ntmps35
  go_wp2_with (first | ((with_reducible refine gate_dst (N := 18) rfl ?_); refine Kd.R_lit (Kd.int .u8) _ 5 ?hg (N := 18) ?hd (xs := ([(wrap64 (48 + (ji4))) % 256, (wrap64 (48 + (ji5))) % 256] : List Int)) (inner := [.int .u8 ((wrap64 (48 + (ji4))) % 256), .int .u8 ((wrap64 (48 + (ji5))) % 256)]) (ok := fun _ => True) (okp := fun _ => True) ?hr ?hp (fun _ hk => hk) trivial (Below.refl _ _) (Nat.le_refl _) (by simp) ?_; (case hd => rfl); (case hg => rfl); (case hr => first | (go_simp; done) | (go_simp; rfl)); (case hp => exact (Reps.one (show Kd.M (Kd.int .u8) _ _ _ ((wrap64 (48 + (ji4))) % 256) [.int .u8 ((wrap64 (48 + (ji4))) % 256)] from rfl) (Reps.one (show Kd.M (Kd.int .u8) _ _ _ ((wrap64 (48 + (ji5))) % 256) [.int .u8 ((wrap64 (48 + (ji5))) % 256)] from rfl) (Reps.none _ _)))); intro v102 w8 ho9 hb hg_ hnew_; clear hg_ hnew_; (first | rw [← Ny101.out] at ho9 | (simp only [Int.reduceToNat] at ho9; rw [← Ny101.out] at ho9)); have _ := AM (Kd.R_lower ho9 (bZ (bX HB.out))); have _ := AM (below_step (bX HB.out) hb); clear HB; rename_i HO103 HB; clear hb ho9; have hcv10 := own_string (P := Tryd.prog) Tryd.underlying31 Tryd.underlying5 Tryd.underlying9 (Kd.own_of_R HO103.out)) | ((with_reducible refine gate_callee (f := 51) rfl ?_); refine goesL_ (some 21) rfl rfl Tryd.func51 (by kernel_rfl) rfl #[.string (a0 ++ (strOfNums y101))] rfl (by (try simp only [mA, mB, mC]); first | done | rfl | (simp only [mD, mE]; rfl)) ?_; (with_reducible refine (impl_digest.calls (a0 ++ (strOfNums y101)) t104 _ ?sideT A7.out).mono ?_); (case sideT => exact tabB TAB.out (bX HB.out)); rintro e w11 ⟨rfl, hb⟩; refine ⟨_, rfl, ?_⟩; have _ := AM (Kd.R_below (rX HO103.out) hb); have _ := AM (below_step (bX HB.out) hb); clear HO103 HB; rename_i HO103 HB; (try clear hb); (try clear hk)))
  go_ret
  exact ⟨by first | rfl | (simp [errW_none, errW_some] <;> rfl) | (simp only [← hji4, ← hji5]; first | rfl | (simp [errW_none, errW_some] <;> rfl)) | (simp [*, errW_none, errW_some] <;> rfl), bX HB.out⟩
 rw [if_neg c6] at H
 exact absurd H (by simp)

end Go.Proofs.YtgpgamapopnfcaaDoor.Q
