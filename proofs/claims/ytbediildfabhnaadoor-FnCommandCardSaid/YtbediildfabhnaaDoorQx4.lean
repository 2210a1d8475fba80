/- Printed by a program of this session (wip/mp.py over the kit's print.py): functions of the translation as plain Lean functions, and that the machine's calls do what these say. -/
import Derived.Test.YtbediildfabhnaaDoorQx0
import Derived.Test.YtbediildfabhnaaDoorQx2
import Derived.Test.YtbediildfabhnaaDoorQx3
namespace Go.Proofs.YtbediildfabhnaaDoor.Q
open Go.RowKit Go.Proofs.YtbediildfabhnaaDoor.HB Go.Proofs.YtbediildfabhnaaDoorW.PrintWords Go.Proofs.YtbediildfabhnaaDoorW.PrintLast Go.Proofs.YtbediildfabhnaaDoorW.PrintMore
attribute [local go_sem] max2_int min2_int max_two min_two max_three min_three max_four min_four   -- for this text's walks alone
set_option linter.unusedVariables false
set_option linter.unusedSimpArgs false

/-! ### spec_DrawCommandBytes: function 4 -/

def spec_DrawCommandBytes.f (k : Nat) (l0 : List Int) : Option (Int × Int × Int × ByteArray × ByteArray × ByteArray × Int) := (spec_l01Source.f k l0).bind fun bt102 => ((spec_l01Src_l06Command.f k bt102.1 bt102.2.1 bt102.2.2.1 bt102.2.2.2).bind fun bt107 => (some (bt107.1, bt107.2.1, bt107.2.2.1, bt107.2.2.2.1, bt107.2.2.2.2.1, bt107.2.2.2.2.2.1, bt107.2.2.2.2.2.2.1)))
theorem spec_DrawCommandBytes.mono : ∀ a0 k, LeO (spec_DrawCommandBytes.f k a0) (spec_DrawCommandBytes.f (k + 1) a0) := by
  intro a0 k
  unfold spec_DrawCommandBytes.f
  repeat' first
      | (with_reducible exact spec_l01Source.mono _ _)
      | (with_reducible exact spec_l01Src_l06Command.mono _ _ _ _ _)
      | (with_reducible exact LeO.refl _)
      | (with_reducible exact LeO.none _)
      | (with_reducible refine LeO.ite ?_ ?_)
      | (with_reducible refine LeO.bind ?_ (fun _ => ?_))
      | exact spec_l01Source.mono _ _
      | exact spec_l01Src_l06Command.mono _ _ _ _ _
      | exact LeO.none _
      | refine LeO.ite ?_ ?_
      | refine LeO.bind ?_ (fun _ => ?_)
theorem bI51_106_spec_DrawCommandBytes {n : Nat} {w W W' : World} (h : Below n w W) (f : Below n w W → Below n w W' := by intro h_; repeat (first | (with_reducible first | exact h_ | apply bA | apply bN | apply bD | refine bS ?_ (IsS51.ge HI106.out) | refine bS ?_ (Aside0.out (by assumption))) | exact h_)) : Below n w W' := f h
theorem iX51_6_spec_DrawCommandBytes {p q : Prop} (h : p) (f : p → q := by intro h_; repeat (first | (with_reducible first | exact h_ | apply IsS51.alloc | apply IsS51.drewN | apply IsS51.drew | apply IsS51.set_1 | apply IsS51.set_2 | apply IsS51.set_3 | refine IsS51.far ?_ (Aside0.out (by assumption)) _ | apply IsS51.far | exact Aside0.out (by assumption)) | exact h_)) : q := f h
set_option maxHeartbeats 60000000 in
set_option maxRecDepth 100000 in
theorem spec_DrawCommandBytes.calls (k : Nat) (A0 : Option Addr) (c0 : Nat) (l0 : List Int) (r1 : Int) (r2 : Int) (r3 : Int) (r4 : ByteArray) (r5 : ByteArray) (r6 : ByteArray) (r7 : Int) (w : World) (hr0 : Kd.C (Kd.int .u8) w A0 l0.length l0) (hc0 : l0.length ≤ c0) (h : spec_DrawCommandBytes.f k l0 = some (r1, r2, r3, r4, r5, r6, r7)) :
    Calls Tryd.prog 4 #[.slice A0 l0.length c0] w fun e w' => e = .returned (.agg #[.int .i64 r1, .int .i64 r2, .int .i64 r3, .string r4, .string r5, .string r6, .int .i64 r7]) ∧ Below w.heap.size w w' := by
 have hu24 := Tryd.underlying24
 have HR0 := AM hr0
 have HC0 := AM hc0
 clear hr0 hc0
 have HB := AM (Below.refl w.heap.size w)
 have H : ((spec_l01Source.f k l0).bind fun bt102 => ((spec_l01Src_l06Command.f k bt102.1 bt102.2.1 bt102.2.2.1 bt102.2.2.2).bind fun bt107 => (some (bt107.1, bt107.2.1, bt107.2.2.1, bt107.2.2.2.1, bt107.2.2.2.2.1, bt107.2.2.2.2.2.1, bt107.2.2.2.2.2.2.1)))) = some (r1, r2, r3, r4, r5, r6, r7) := h
 clear h
 replace H := Option.bind_eq_some_iff.mp H
 obtain ⟨⟨t102, t103, t104, t105⟩, A20, H⟩ := H
 try dsimp only at H
 have A2 := AM A20
 clear A20
 replace H := Option.bind_eq_some_iff.mp H
 obtain ⟨⟨t107, t108, t109, t110, t111, t112, t113, t114, t115, t116⟩, A30, H⟩ := H
 try dsimp only at H
 have A3 := AM A30
 clear A30
 simp only [Option.some.injEq, Prod.mk.injEq] at H
 obtain ⟨rfl, rfl, rfl, rfl, rfl, rfl, rfl⟩ := H
 go_enter Tryd.func4, Tryd.ntmps4
 go_wp2_with (first | ((with_reducible refine gate_dst (N := 2) rfl ?_); refine box_event (by rfl) (N := 2) (by rfl) (cs := #[.int .i64 0, .int .i64 0, .int .i64 0, .string (⟨#[]⟩ : ByteArray), .string (⟨#[]⟩ : ByteArray), .string (⟨#[]⟩ : ByteArray), .int .i64 0]) (t := 24) (by first | (go_simp; done) | (go_simp; rfl)) ?_; intro gb101 hg w4 hbox hb; have _ := AM (below_step (bX HB.out) hb); have _ := AM (hbox); have n2_ := AM ((by rw [hg]; exact (bZ (bX HB.out)) : w.heap.size ≤ gb101)); clear HB; rename_i HB BK101; have GW101 := n2_; have GE101 := n2_; clear n2_; clear hb hbox hg) | ((with_reducible refine gate_callee (f := 15) rfl ?_); refine goesL_ (some 4) rfl rfl Tryd.func15 (by kernel_rfl) rfl #[.slice A0 l0.length c0] rfl (by (try simp only [mA, mB, mC]); first | done | rfl | (simp only [mD, mE]; rfl)) ?_; (with_reducible refine (spec_l01Source.calls k _ _ l0 t102 t103 t104 t105 w _ ?side1 ?side2 ?side3 A2.out).mono ?_); (case side1 => exact (bX HB.out)); (case side2 => exact HR0.out); (case side3 => exact HC0.out); rintro e w5 ⟨g106, rfl, hi, hb, hb2⟩; refine ⟨_, rfl, ?_⟩; have _ := AM (nB BK101.out hb2); have _ := AM (hb); have _ := AM (hi); have _ := AM (IsS51.ne_blk hi (nB BK101.out hb2) (by decide)); have _ := AM (Ne.symm (IsS51.ne_blk hi (nB BK101.out hb2) (by decide))); clear BK101 HB; rename_i BK101 HB HI106 NB106_101 NB101_106; (try clear hb); (try clear hb2); (try clear hk); (try clear hi)) | ((with_reducible refine gate_callee (f := 16) rfl ?_); refine goesL_ (some 5) rfl rfl Tryd.func16 (by kernel_rfl) rfl #[.pointer (some ⟨g106, 0, none⟩)] rfl (by (try simp only [mA, mB, mC]); first | done | rfl | (simp only [mD, mE]; rfl)) ?_; (with_reducible refine (spec_l01Src_l06Command.calls k g106 t102 t103 t104 t105 t107 t108 t109 t110 t111 t112 t113 t114 t115 t116 w _ ?side1 ?side2 A3.out).mono ?_); (case side1 => exact (iX51_6_spec_DrawCommandBytes HI106.out)); (case side2 => exact (bI51_106_spec_DrawCommandBytes HB.out)); rintro e w6 ⟨rfl, hi, hb, hk⟩; refine ⟨_, rfl, ?_⟩; have _ := AM (kB hk BK101.out NB101_106.out (by simp)); have _ := AM (hb); have _ := AM (hi); clear BK101 HB HI106; rename_i BK101 HB HI106; (try clear hb); (try clear hb2); (try clear hk); (try clear hi); have hnb7 := NB101_106.out; have hnc7 := NB106_101.out; have hcz8 := q7 BK101.out; have hfz8 := fZ BK101.out))
 refine bodyPost_ret (results_cell_row rfl _ _ gb101 24 #[.int .i64 t107, .int .i64 t108, .int .i64 t109, .string t110, .string t111, .string t112, .int .i64 t113] (0, 0) _ rfl (by refine kP (cs := #[.int .i64 t107, .int .i64 t108, .int .i64 t109, .string t110, .string t111, .string t112, .int .i64 0]) 6 ?_; refine kP (cs := #[.int .i64 t107, .int .i64 t108, .int .i64 t109, .string t110, .string t111, .string (⟨#[]⟩ : ByteArray), .int .i64 0]) 5 ?_; refine kP (cs := #[.int .i64 t107, .int .i64 t108, .int .i64 t109, .string t110, .string (⟨#[]⟩ : ByteArray), .string (⟨#[]⟩ : ByteArray), .int .i64 0]) 4 ?_; refine kP (cs := #[.int .i64 t107, .int .i64 t108, .int .i64 t109, .string (⟨#[]⟩ : ByteArray), .string (⟨#[]⟩ : ByteArray), .string (⟨#[]⟩ : ByteArray), .int .i64 0]) 3 ?_; refine kP (cs := #[.int .i64 t107, .int .i64 t108, .int .i64 0, .string (⟨#[]⟩ : ByteArray), .string (⟨#[]⟩ : ByteArray), .string (⟨#[]⟩ : ByteArray), .int .i64 0]) 2 ?_; refine kP (cs := #[.int .i64 t107, .int .i64 0, .int .i64 0, .string (⟨#[]⟩ : ByteArray), .string (⟨#[]⟩ : ByteArray), .string (⟨#[]⟩ : ByteArray), .int .i64 0]) 1 ?_; refine kP (cs := #[.int .i64 0, .int .i64 0, .int .i64 0, .string (⟨#[]⟩ : ByteArray), .string (⟨#[]⟩ : ByteArray), .string (⟨#[]⟩ : ByteArray), .int .i64 0]) 0 ?_; (with_reducible repeat (first | apply kN | apply kD | apply kA)); exact BK101.out) Tryd.underlying24 rfl (by kernel_rfl)) rfl ?_
 exact ⟨by first | rfl | (simp [*, errW_none, errW_some] <;> rfl), bI51_106_spec_DrawCommandBytes HB.out⟩

/-! ### impl_within: function 26 -/

def impl_within.f (a0 : Int) (a1 : Int) (a2 : Int) : Option (Bool) := if a0 ≥ a1 then (some (decide (a0 ≤ a2))) else (some false)
set_option maxHeartbeats 60000000 in
set_option maxRecDepth 100000 in
theorem impl_within.calls (a0 : Int) (a1 : Int) (a2 : Int) (r : Bool) (w : World) (h : impl_within.f a0 a1 a2 = some r) :
    Calls Tryd.prog 26 #[.int .i64 a0, .int .i64 a1, .int .i64 a2] w fun e w' => e = .returned (.bool r) ∧ Drawn0 w w' := by
 have H : (if a0 ≥ a1 then (some (decide (a0 ≤ a2))) else (some false)) = some r := h
 clear h
 by_cases c4 : a0 ≥ a1
 ·
  rw [if_pos c4] at H
  have c4b0 : decide (a1 ≤ a0) = true := decide_eq_true c4
  clear c4
  obtain rfl := Option.some.inj H
  go_enter Tryd.func26, Tryd.ntmps26
  go_wp2
  go_ret
  exact ⟨by first | rfl | (simp; done) | (simp [*]; done), by repeat (first | exact Drawn0.refl _ | apply Drawn0.step)⟩
 rw [if_neg c4] at H
 have c4b0 : decide (a1 ≤ a0) = false := decide_eq_false c4
 clear c4
 obtain rfl := Option.some.inj H
 go_enter Tryd.func26, Tryd.ntmps26
 go_wp2
 go_ret
 exact ⟨by first | rfl | (simp; done) | (simp [*]; done), by repeat (first | exact Drawn0.refl _ | apply Drawn0.step)⟩

/-! ### impl_isName: function 32 -/

def impl_isName.l0 : Nat → ByteArray → Int → Int → Option (Bool)
  | 0, _, _, _ => none
  | k + 1, x0, x7, x8 => if x8 < x7 then (if 0 ≤ x8 then (if x8 < (x0.size : Int) then (if (bt x0 x8) ≥ 97 then (if ((bt x0 x8) ≤ 122) then (impl_isName.l0 k x0 x7 (wrap64 (x8 + 1))) else (if x8 = 0 then (some false) else (if (bt x0 x8) = 95 then (impl_isName.l0 k x0 x7 (wrap64 (x8 + 1))) else (if (bt x0 x8) < 48 then (some false) else (if (bt x0 x8) > 57 then (some false) else (impl_isName.l0 k x0 x7 (wrap64 (x8 + 1)))))))) else (if x8 = 0 then (some false) else (if (bt x0 x8) = 95 then (impl_isName.l0 k x0 x7 (wrap64 (x8 + 1))) else (if (bt x0 x8) < 48 then (some false) else (if (bt x0 x8) > 57 then (some false) else (impl_isName.l0 k x0 x7 (wrap64 (x8 + 1)))))))) else (none)) else (none)) else (if (x0.size : Int) ≥ 1 then (some (decide ((x0.size : Int) ≤ 20))) else (some false))
def impl_isName.f (k : Nat) (a0 : ByteArray) : Option (Bool) := impl_isName.l0 k a0 (a0.size : Int) 0
theorem impl_isName.mono_l : ∀ k, (∀ y0 y1 y2, LeO (impl_isName.l0 k y0 y1 y2) (impl_isName.l0 (k + 1) y0 y1 y2))
  | 0 => fun _ _ _ r h => by simp [impl_isName.l0] at h
  | k + 1 => by
    have ih0 := impl_isName.mono_l k
    · intro y0 y1 y2
      unfold impl_isName.l0
      repeat' first
      | (with_reducible exact ih0 _ _ _)
      | (with_reducible exact LeO.refl _)
      | (with_reducible exact LeO.none _)
      | (with_reducible refine LeO.ite ?_ ?_)
      | (with_reducible refine LeO.bind ?_ (fun _ => ?_))
      | exact ih0 _ _ _
      | exact LeO.none _
      | refine LeO.ite ?_ ?_
      | refine LeO.bind ?_ (fun _ => ?_)
theorem impl_isName.mono : ∀ a0 k, LeO (impl_isName.f k a0) (impl_isName.f (k + 1) a0) := by
  intro a0 k
  have ih0 := impl_isName.mono_l k
  unfold impl_isName.f
  repeat' first
      | (with_reducible exact ih0 _ _ _)
      | (with_reducible exact LeO.refl _)
      | (with_reducible exact LeO.none _)
      | (with_reducible refine LeO.ite ?_ ?_)
      | (with_reducible refine LeO.bind ?_ (fun _ => ?_))
      | exact ih0 _ _ _
      | exact LeO.none _
      | refine LeO.ite ?_ ?_
      | refine LeO.bind ?_ (fun _ => ?_)
set_option maxHeartbeats 60000000 in
set_option maxRecDepth 100000 in
theorem impl_isName.calls (k : Nat) (a0 : ByteArray) (r : Bool) (w : World) (h : impl_isName.f k a0 = some r) :
    Calls Tryd.prog 32 #[.string a0] w fun e w' => e = .returned (.bool r) ∧ Drawn0 w w' := by
 have H : (impl_isName.l0 k a0 (a0.size : Int) 0) = some r := h
 clear h
 have H' := AM H
 clear H
 go_enter Tryd.func32, Tryd.ntmps32
 go_wp2
 go_loopg [8] k (fun kq v8 w' => ∃ (x8_1 : Int), v8 = .int .i64 x8_1 ∧ Aside0 (impl_isName.l0 kq a0 (a0.size : Int) x8_1 = some r) ∧ Aside0 (kq ≤ k) ∧ Drawn0 w w')
 case atStart => exact ⟨(0), (by first | rfl | (simp; done) | (simp [*]; done)), H', ⟨Nat.le_refl _⟩, by repeat (first | exact Drawn0.refl _ | apply Drawn0.step)⟩
 case round =>
  clear H'
  obtain ⟨x8_1, rfl, HA, HK1, ⟨m1, rfl⟩⟩ := hrel
  cases gk with
  | zero => exact absurd HA.out (by simp [impl_isName.l0])
  | succ k1 =>
   have H := HA.out
   clear HA
   simp only [impl_isName.l0] at H
   by_cases c2 : x8_1 < (a0.size : Int)
   ·
    rw [if_pos c2] at H
    have c2b0 : decide (x8_1 < (a0.size : Int)) = true := decide_eq_true c2
    clear c2
    by_cases c3 : 0 ≤ x8_1
    ·
     rw [if_pos c3] at H
     have c3b0 : decide (0 ≤ x8_1) = true := decide_eq_true c3
     clear c3
     by_cases c4 : x8_1 < (a0.size : Int)
     ·
      rw [if_pos c4] at H
      have c4b0 : decide (x8_1 < (a0.size : Int)) = true := decide_eq_true c4
      clear c4
      by_cases c6 : (bt a0 x8_1) ≥ 97
      ·
       rw [if_pos c6] at H
       have c6b0 : decide (97 ≤ (bt a0 x8_1)) = true := decide_eq_true c6
       clear c6
       by_cases c7 : ((bt a0 x8_1) ≤ 122)
       ·
        rw [if_pos c7] at H
        have c7b0 : decide ((bt a0 x8_1) ≤ 122) = true := decide_eq_true c7
        clear c7
        have H' := AM H
        clear H
        have p5 : 0 ≤ (x8_1 : Int) := of_decide_eq_true (by assumption)
        have q5 : x8_1 < (a0.size : Int) := of_decide_eq_true (by assumption)
        have hx5 := bt_at a0 x8_1
        replace p5 := eq_true p5
        replace q5 := eq_true q5
        go_wp2
        go_roundg k1
        case measure => have := HK1.out; omega
        case rel => exact ⟨(wrap64 (x8_1 + 1)), (by first | rfl | (simp; done) | (simp [*]; done)), H', ⟨by have := HK1.out; omega⟩, by repeat (first | exact Drawn0.refl _ | apply Drawn0.step)⟩
       rw [if_neg c7] at H
       have c7b0 : decide ((bt a0 x8_1) ≤ 122) = false := decide_eq_false c7
       clear c7
       by_cases c8 : x8_1 = 0
       ·
        rw [if_pos c8] at H
        have c8b0 : (x8_1 == 0) = true := beq_iff_eq.mpr c8
        have c8b1 : (x8_1 != 0) = false := bne_eq_false_iff_eq.mpr c8
        clear c8
        obtain rfl := Option.some.inj H
        have p5 : 0 ≤ (x8_1 : Int) := of_decide_eq_true (by assumption)
        have q5 : x8_1 < (a0.size : Int) := of_decide_eq_true (by assumption)
        have hx5 := bt_at a0 x8_1
        replace p5 := eq_true p5
        replace q5 := eq_true q5
        go_wp2
        go_ret
        exact ⟨by first | rfl | (simp; done) | (simp [*]; done), by repeat (first | exact Drawn0.refl _ | apply Drawn0.step)⟩
       rw [if_neg c8] at H
       have c8b0 : (x8_1 == 0) = false := beq_eq_false_iff_ne.mpr c8
       have c8b1 : (x8_1 != 0) = true := bne_iff_ne.mpr c8
       by_cases c9 : (bt a0 x8_1) = 95
       ·
        rw [if_pos c9] at H
        have c9b0 : ((bt a0 x8_1) == 95) = true := beq_iff_eq.mpr c9
        have c9b1 : ((bt a0 x8_1) != 95) = false := bne_eq_false_iff_eq.mpr c9
        clear c9
        have H' := AM H
        clear H
        have p5 : 0 ≤ (x8_1 : Int) := of_decide_eq_true (by assumption)
        have q5 : x8_1 < (a0.size : Int) := of_decide_eq_true (by assumption)
        have hx5 := bt_at a0 x8_1
        replace p5 := eq_true p5
        replace q5 := eq_true q5
        go_wp2
        go_roundg k1
        case measure => have := HK1.out; omega
        case rel => exact ⟨(wrap64 (x8_1 + 1)), (by first | rfl | (simp; done) | (simp [*]; done)), H', ⟨by have := HK1.out; omega⟩, by repeat (first | exact Drawn0.refl _ | apply Drawn0.step)⟩
       rw [if_neg c9] at H
       have c9b0 : ((bt a0 x8_1) == 95) = false := beq_eq_false_iff_ne.mpr c9
       have c9b1 : ((bt a0 x8_1) != 95) = true := bne_iff_ne.mpr c9
       by_cases c10 : (bt a0 x8_1) < 48
       ·
        rw [if_pos c10] at H
        have c10b0 : decide ((bt a0 x8_1) < 48) = true := decide_eq_true c10
        clear c10
        obtain rfl := Option.some.inj H
        have p5 : 0 ≤ (x8_1 : Int) := of_decide_eq_true (by assumption)
        have q5 : x8_1 < (a0.size : Int) := of_decide_eq_true (by assumption)
        have hx5 := bt_at a0 x8_1
        replace p5 := eq_true p5
        replace q5 := eq_true q5
        go_wp2
        go_ret
        exact ⟨by first | rfl | (simp; done) | (simp [*]; done), by repeat (first | exact Drawn0.refl _ | apply Drawn0.step)⟩
       rw [if_neg c10] at H
       have c10b0 : decide ((bt a0 x8_1) < 48) = false := decide_eq_false c10
       clear c10
       by_cases c11 : (bt a0 x8_1) > 57
       ·
        rw [if_pos c11] at H
        have c11b0 : decide (57 < (bt a0 x8_1)) = true := decide_eq_true c11
        clear c11
        obtain rfl := Option.some.inj H
        have p5 : 0 ≤ (x8_1 : Int) := of_decide_eq_true (by assumption)
        have q5 : x8_1 < (a0.size : Int) := of_decide_eq_true (by assumption)
        have hx5 := bt_at a0 x8_1
        replace p5 := eq_true p5
        replace q5 := eq_true q5
        go_wp2
        go_ret
        exact ⟨by first | rfl | (simp; done) | (simp [*]; done), by repeat (first | exact Drawn0.refl _ | apply Drawn0.step)⟩
       rw [if_neg c11] at H
       have c11b0 : decide (57 < (bt a0 x8_1)) = false := decide_eq_false c11
       clear c11
       have H' := AM H
       clear H
       have p5 : 0 ≤ (x8_1 : Int) := of_decide_eq_true (by assumption)
       have q5 : x8_1 < (a0.size : Int) := of_decide_eq_true (by assumption)
       have hx5 := bt_at a0 x8_1
       replace p5 := eq_true p5
       replace q5 := eq_true q5
       go_wp2
       go_roundg k1
       case measure => have := HK1.out; omega
       case rel => exact ⟨(wrap64 (x8_1 + 1)), (by first | rfl | (simp; done) | (simp [*]; done)), H', ⟨by have := HK1.out; omega⟩, by repeat (first | exact Drawn0.refl _ | apply Drawn0.step)⟩
      rw [if_neg c6] at H
      have c6b0 : decide (97 ≤ (bt a0 x8_1)) = false := decide_eq_false c6
      clear c6
      by_cases c12 : x8_1 = 0
      ·
       rw [if_pos c12] at H
       have c12b0 : (x8_1 == 0) = true := beq_iff_eq.mpr c12
       have c12b1 : (x8_1 != 0) = false := bne_eq_false_iff_eq.mpr c12
       clear c12
       obtain rfl := Option.some.inj H
       have p5 : 0 ≤ (x8_1 : Int) := of_decide_eq_true (by assumption)
       have q5 : x8_1 < (a0.size : Int) := of_decide_eq_true (by assumption)
       have hx5 := bt_at a0 x8_1
       replace p5 := eq_true p5
       replace q5 := eq_true q5
       go_wp2
       go_ret
       exact ⟨by first | rfl | (simp; done) | (simp [*]; done), by repeat (first | exact Drawn0.refl _ | apply Drawn0.step)⟩
      rw [if_neg c12] at H
      have c12b0 : (x8_1 == 0) = false := beq_eq_false_iff_ne.mpr c12
      have c12b1 : (x8_1 != 0) = true := bne_iff_ne.mpr c12
      by_cases c13 : (bt a0 x8_1) = 95
      ·
       rw [if_pos c13] at H
       have c13b0 : ((bt a0 x8_1) == 95) = true := beq_iff_eq.mpr c13
       have c13b1 : ((bt a0 x8_1) != 95) = false := bne_eq_false_iff_eq.mpr c13
       clear c13
       have H' := AM H
       clear H
       have p5 : 0 ≤ (x8_1 : Int) := of_decide_eq_true (by assumption)
       have q5 : x8_1 < (a0.size : Int) := of_decide_eq_true (by assumption)
       have hx5 := bt_at a0 x8_1
       replace p5 := eq_true p5
       replace q5 := eq_true q5
       go_wp2
       go_roundg k1
       case measure => have := HK1.out; omega
       case rel => exact ⟨(wrap64 (x8_1 + 1)), (by first | rfl | (simp; done) | (simp [*]; done)), H', ⟨by have := HK1.out; omega⟩, by repeat (first | exact Drawn0.refl _ | apply Drawn0.step)⟩
      rw [if_neg c13] at H
      have c13b0 : ((bt a0 x8_1) == 95) = false := beq_eq_false_iff_ne.mpr c13
      have c13b1 : ((bt a0 x8_1) != 95) = true := bne_iff_ne.mpr c13
      by_cases c14 : (bt a0 x8_1) < 48
      ·
       rw [if_pos c14] at H
       have c14b0 : decide ((bt a0 x8_1) < 48) = true := decide_eq_true c14
       clear c14
       obtain rfl := Option.some.inj H
       have p5 : 0 ≤ (x8_1 : Int) := of_decide_eq_true (by assumption)
       have q5 : x8_1 < (a0.size : Int) := of_decide_eq_true (by assumption)
       have hx5 := bt_at a0 x8_1
       replace p5 := eq_true p5
       replace q5 := eq_true q5
       go_wp2
       go_ret
       exact ⟨by first | rfl | (simp; done) | (simp [*]; done), by repeat (first | exact Drawn0.refl _ | apply Drawn0.step)⟩
      rw [if_neg c14] at H
      have c14b0 : decide ((bt a0 x8_1) < 48) = false := decide_eq_false c14
      clear c14
      by_cases c15 : (bt a0 x8_1) > 57
      ·
       rw [if_pos c15] at H
       have c15b0 : decide (57 < (bt a0 x8_1)) = true := decide_eq_true c15
       clear c15
       obtain rfl := Option.some.inj H
       have p5 : 0 ≤ (x8_1 : Int) := of_decide_eq_true (by assumption)
       have q5 : x8_1 < (a0.size : Int) := of_decide_eq_true (by assumption)
       have hx5 := bt_at a0 x8_1
       replace p5 := eq_true p5
       replace q5 := eq_true q5
       go_wp2
       go_ret
       exact ⟨by first | rfl | (simp; done) | (simp [*]; done), by repeat (first | exact Drawn0.refl _ | apply Drawn0.step)⟩
      rw [if_neg c15] at H
      have c15b0 : decide (57 < (bt a0 x8_1)) = false := decide_eq_false c15
      clear c15
      have H' := AM H
      clear H
      have p5 : 0 ≤ (x8_1 : Int) := of_decide_eq_true (by assumption)
      have q5 : x8_1 < (a0.size : Int) := of_decide_eq_true (by assumption)
      have hx5 := bt_at a0 x8_1
      replace p5 := eq_true p5
      replace q5 := eq_true q5
      go_wp2
      go_roundg k1
      case measure => have := HK1.out; omega
      case rel => exact ⟨(wrap64 (x8_1 + 1)), (by first | rfl | (simp; done) | (simp [*]; done)), H', ⟨by have := HK1.out; omega⟩, by repeat (first | exact Drawn0.refl _ | apply Drawn0.step)⟩
     rw [if_neg c4] at H
     exact absurd H (by simp)
    rw [if_neg c3] at H
    exact absurd H (by simp)
   rw [if_neg c2] at H
   have c2b0 : decide (x8_1 < (a0.size : Int)) = false := decide_eq_false c2
   clear c2
   by_cases c16 : (a0.size : Int) ≥ 1
   ·
    rw [if_pos c16] at H
    have c16b0 : decide (1 ≤ (a0.size : Int)) = true := decide_eq_true c16
    have c16b1 : decide (1 ≤ a0.size) = true := decide_eq_true (by omega)
    clear c16
    obtain rfl := Option.some.inj H
    go_wp2
    go_ret
    exact ⟨by first | rfl | (simp; done) | (simp [*]; done), by repeat (first | exact Drawn0.refl _ | apply Drawn0.step)⟩
   rw [if_neg c16] at H
   have c16b0 : decide (1 ≤ (a0.size : Int)) = false := decide_eq_false c16
   have c16b1 : decide (1 ≤ a0.size) = false := decide_eq_false (by omega)
   clear c16
   obtain rfl := Option.some.inj H
   go_wp2
   go_ret
   exact ⟨by first | rfl | (simp; done) | (simp [*]; done), by repeat (first | exact Drawn0.refl _ | apply Drawn0.step)⟩

/-! ### impl_isMessage: function 33 -/

def impl_isMessage.f (a0 : ByteArray) : Option (Bool) := if (a0.size : Int) ≥ 1 then (some (decide ((a0.size : Int) ≤ 40))) else (some false)
set_option maxHeartbeats 60000000 in
set_option maxRecDepth 100000 in
theorem impl_isMessage.calls (a0 : ByteArray) (r : Bool) (w : World) (h : impl_isMessage.f a0 = some r) :
    Calls Tryd.prog 33 #[.string a0] w fun e w' => e = .returned (.bool r) ∧ Drawn0 w w' := by
 have H : (if (a0.size : Int) ≥ 1 then (some (decide ((a0.size : Int) ≤ 40))) else (some false)) = some r := h
 clear h
 by_cases c2 : (a0.size : Int) ≥ 1
 ·
  rw [if_pos c2] at H
  have c2b0 : decide (1 ≤ (a0.size : Int)) = true := decide_eq_true c2
  have c2b1 : decide (1 ≤ a0.size) = true := decide_eq_true (by omega)
  clear c2
  obtain rfl := Option.some.inj H
  go_enter Tryd.func33, Tryd.ntmps33
  go_wp2
  go_ret
  exact ⟨by first | rfl | (simp; done) | (simp [*]; done), by repeat (first | exact Drawn0.refl _ | apply Drawn0.step)⟩
 rw [if_neg c2] at H
 have c2b0 : decide (1 ≤ (a0.size : Int)) = false := decide_eq_false c2
 have c2b1 : decide (1 ≤ a0.size) = false := decide_eq_false (by omega)
 clear c2
 obtain rfl := Option.some.inj H
 go_enter Tryd.func33, Tryd.ntmps33
 go_wp2
 go_ret
 exact ⟨by first | rfl | (simp; done) | (simp [*]; done), by repeat (first | exact Drawn0.refl _ | apply Drawn0.step)⟩

/-! ### impl_isTime: function 34 -/

def impl_isTime.f (a0 : Int) : Option (Bool) := (impl_within.f a0 0 1000000000).bind fun t101 => (some t101)
set_option maxHeartbeats 60000000 in
set_option maxRecDepth 100000 in
theorem impl_isTime.calls (a0 : Int) (r : Bool) (w : World) (h : impl_isTime.f a0 = some r) :
    Calls Tryd.prog 34 #[.int .i64 a0] w fun e w' => e = .returned (.bool r) ∧ Drawn0 w w' := by
 have H : ((impl_within.f a0 0 1000000000).bind fun t101 => (some t101)) = some r := h
 clear h
 replace H := Option.bind_eq_some_iff.mp H
 obtain ⟨t101, A20, H⟩ := H
 replace H : (some t101) = some r := H
 have A2 := AM A20
 clear A20
 obtain rfl := Option.some.inj H
 go_enter Tryd.func34, Tryd.ntmps34
 go_wp2_with (first | ((with_reducible refine gate_callee (f := 26) rfl ?_); refine goesL_ (some 4) rfl rfl Tryd.func26 (by kernel_rfl) rfl #[.int .i64 a0, .int .i64 0, .int .i64 1000000000] rfl (by (try simp only [mA, mB, mC]); first | done | rfl | (simp only [mD, mE]; rfl)) ?_; (with_reducible refine (impl_within.calls a0 0 1000000000 t101 _ A2.out).mono ?_); rintro e w' ⟨rfl, ⟨nd, rfl⟩⟩; refine ⟨_, rfl, ?_⟩))
 go_ret
 exact ⟨by first | rfl | (simp; done) | (simp [*]; done), by repeat (first | exact Drawn0.refl _ | apply Drawn0.step)⟩

/-! ### impl_isCommand: function 17 -/

mutual
def impl_isCommand.j0 : Nat → Bool → Int → Int → Int → ByteArray → ByteArray → ByteArray → Int → Option (Bool)
  | 0, _, _, _, _, _, _, _, _ => none
  | k + 1, x18, x102000, x102001, x102002, x102003, x102004, x102005, x102006 => if x18 = true then (some false) else (if x102002 = 1 then (impl_isCommand.j1 k x102002 (x102002 == 1) x102000 x102001 x102002 x102003 x102004 x102005 x102006) else (impl_isCommand.j1 k x102002 (x102002 == 2) x102000 x102001 x102002 x102003 x102004 x102005 x102006))
def impl_isCommand.j1 : Nat → Int → Bool → Int → Int → Int → ByteArray → ByteArray → ByteArray → Int → Option (Bool)
  | 0, _, _, _, _, _, _, _, _, _ => none
  | k + 1, x20, x21, x102000, x102001, x102002, x102003, x102004, x102005, x102006 => if x21 = true then (if x102004.toList = ([] : List UInt8) then (if x102005.toList = ([] : List UInt8) then (some (x102006 == 0)) else (some false)) else (some false)) else (if x20 = 3 then ((impl_isMessage.f x102005).bind fun t105 => (if t105 = true then (if x102004.toList = ([] : List UInt8) then (some (x102006 == 0)) else (some false)) else (some false))) else (if x20 = 4 then (impl_isCommand.j2 k x20 (x20 == 4) x102000 x102001 x102002 x102003 x102004 x102005 x102006) else (if x20 = 5 then (impl_isCommand.j2 k x20 (x20 == 5) x102000 x102001 x102002 x102003 x102004 x102005 x102006) else (impl_isCommand.j2 k x20 (x20 == 6) x102000 x102001 x102002 x102003 x102004 x102005 x102006))))
def impl_isCommand.j2 : Nat → Int → Bool → Int → Int → Int → ByteArray → ByteArray → ByteArray → Int → Option (Bool)
  | 0, _, _, _, _, _, _, _, _, _ => none
  | k + 1, x20, x52, x102000, x102001, x102002, x102003, x102004, x102005, x102006 => if x52 = true then ((impl_isName.f k x102004).bind fun t106 => (if t106 = true then (if x102005.toList = ([] : List UInt8) then ((impl_isTime.f x102006).bind fun t107 => (some t107)) else (some false)) else (some false))) else (if x20 = 7 then (if x102004.toList = ([] : List UInt8) then (if x102005.toList = ([] : List UInt8) then ((impl_within.f x102006 0 20).bind fun t108 => (some t108)) else (some false)) else (some false)) else (some false))
end
def impl_isCommand.f (k : Nat) (a0_0 : Int) (a0_1 : Int) (a0_2 : Int) (a0_3 : ByteArray) (a0_4 : ByteArray) (a0_5 : ByteArray) (a0_6 : Int) : Option (Bool) := (impl_within.f a0_0 1 9).bind fun t102 => (if t102 = true then ((impl_within.f a0_1 1 1000000000).bind fun t103 => (if t103 = true then ((impl_isName.f k a0_3).bind fun t104 => (impl_isCommand.j0 k (!t104) a0_0 a0_1 a0_2 a0_3 a0_4 a0_5 a0_6)) else (impl_isCommand.j0 k true a0_0 a0_1 a0_2 a0_3 a0_4 a0_5 a0_6))) else (impl_isCommand.j0 k true a0_0 a0_1 a0_2 a0_3 a0_4 a0_5 a0_6))
theorem impl_isCommand.mono_l : ∀ k, (∀ y0 y1 y2 y3 y4 y5 y6 y7, LeO (impl_isCommand.j0 k y0 y1 y2 y3 y4 y5 y6 y7) (impl_isCommand.j0 (k + 1) y0 y1 y2 y3 y4 y5 y6 y7)) ∧ (∀ y0 y1 y2 y3 y4 y5 y6 y7 y8, LeO (impl_isCommand.j1 k y0 y1 y2 y3 y4 y5 y6 y7 y8) (impl_isCommand.j1 (k + 1) y0 y1 y2 y3 y4 y5 y6 y7 y8)) ∧ (∀ y0 y1 y2 y3 y4 y5 y6 y7 y8, LeO (impl_isCommand.j2 k y0 y1 y2 y3 y4 y5 y6 y7 y8) (impl_isCommand.j2 (k + 1) y0 y1 y2 y3 y4 y5 y6 y7 y8))
  | 0 => ⟨fun _ _ _ _ _ _ _ _ r h => by simp [impl_isCommand.j0] at h, fun _ _ _ _ _ _ _ _ _ r h => by simp [impl_isCommand.j1] at h, fun _ _ _ _ _ _ _ _ _ r h => by simp [impl_isCommand.j2] at h⟩
  | k + 1 => by
    obtain ⟨ih0, ih1, ih2⟩ := impl_isCommand.mono_l k
    refine ⟨?_, ?_, ?_⟩
    · intro y0 y1 y2 y3 y4 y5 y6 y7
      unfold impl_isCommand.j0
      repeat' first
      | (with_reducible exact ih0 _ _ _ _ _ _ _ _)
      | (with_reducible exact ih1 _ _ _ _ _ _ _ _ _)
      | (with_reducible exact ih2 _ _ _ _ _ _ _ _ _)
      | (with_reducible exact impl_isName.mono _ _)
      | (with_reducible exact LeO.refl _)
      | (with_reducible exact LeO.none _)
      | (with_reducible refine LeO.ite ?_ ?_)
      | (with_reducible refine LeO.bind ?_ (fun _ => ?_))
      | exact ih0 _ _ _ _ _ _ _ _
      | exact ih1 _ _ _ _ _ _ _ _ _
      | exact ih2 _ _ _ _ _ _ _ _ _
      | exact impl_isName.mono _ _
      | exact LeO.none _
      | refine LeO.ite ?_ ?_
      | refine LeO.bind ?_ (fun _ => ?_)
    · intro y0 y1 y2 y3 y4 y5 y6 y7 y8
      unfold impl_isCommand.j1
      repeat' first
      | (with_reducible exact ih0 _ _ _ _ _ _ _ _)
      | (with_reducible exact ih1 _ _ _ _ _ _ _ _ _)
      | (with_reducible exact ih2 _ _ _ _ _ _ _ _ _)
      | (with_reducible exact impl_isName.mono _ _)
      | (with_reducible exact LeO.refl _)
      | (with_reducible exact LeO.none _)
      | (with_reducible refine LeO.ite ?_ ?_)
      | (with_reducible refine LeO.bind ?_ (fun _ => ?_))
      | exact ih0 _ _ _ _ _ _ _ _
      | exact ih1 _ _ _ _ _ _ _ _ _
      | exact ih2 _ _ _ _ _ _ _ _ _
      | exact impl_isName.mono _ _
      | exact LeO.none _
      | refine LeO.ite ?_ ?_
      | refine LeO.bind ?_ (fun _ => ?_)
    · intro y0 y1 y2 y3 y4 y5 y6 y7 y8
      unfold impl_isCommand.j2
      repeat' first
      | (with_reducible exact ih0 _ _ _ _ _ _ _ _)
      | (with_reducible exact ih1 _ _ _ _ _ _ _ _ _)
      | (with_reducible exact ih2 _ _ _ _ _ _ _ _ _)
      | (with_reducible exact impl_isName.mono _ _)
      | (with_reducible exact LeO.refl _)
      | (with_reducible exact LeO.none _)
      | (with_reducible refine LeO.ite ?_ ?_)
      | (with_reducible refine LeO.bind ?_ (fun _ => ?_))
      | exact ih0 _ _ _ _ _ _ _ _
      | exact ih1 _ _ _ _ _ _ _ _ _
      | exact ih2 _ _ _ _ _ _ _ _ _
      | exact impl_isName.mono _ _
      | exact LeO.none _
      | refine LeO.ite ?_ ?_
      | refine LeO.bind ?_ (fun _ => ?_)
theorem impl_isCommand.mono : ∀ a0 a1 a2 a3 a4 a5 a6 k, LeO (impl_isCommand.f k a0 a1 a2 a3 a4 a5 a6) (impl_isCommand.f (k + 1) a0 a1 a2 a3 a4 a5 a6) := by
  intro a0 a1 a2 a3 a4 a5 a6 k
  obtain ⟨ih0, ih1, ih2⟩ := impl_isCommand.mono_l k
  unfold impl_isCommand.f
  repeat' first
      | (with_reducible exact ih0 _ _ _ _ _ _ _ _)
      | (with_reducible exact ih1 _ _ _ _ _ _ _ _ _)
      | (with_reducible exact ih2 _ _ _ _ _ _ _ _ _)
      | (with_reducible exact impl_isName.mono _ _)
      | (with_reducible exact LeO.refl _)
      | (with_reducible exact LeO.none _)
      | (with_reducible refine LeO.ite ?_ ?_)
      | (with_reducible refine LeO.bind ?_ (fun _ => ?_))
      | exact ih0 _ _ _ _ _ _ _ _
      | exact ih1 _ _ _ _ _ _ _ _ _
      | exact ih2 _ _ _ _ _ _ _ _ _
      | exact impl_isName.mono _ _
      | exact LeO.none _
      | refine LeO.ite ?_ ?_
      | refine LeO.bind ?_ (fun _ => ?_)
set_option maxHeartbeats 60000000 in
set_option maxRecDepth 100000 in
theorem impl_isCommand.calls (k : Nat) (a0_0 : Int) (a0_1 : Int) (a0_2 : Int) (a0_3 : ByteArray) (a0_4 : ByteArray) (a0_5 : ByteArray) (a0_6 : Int) (r : Bool) (w : World) (h : impl_isCommand.f k a0_0 a0_1 a0_2 a0_3 a0_4 a0_5 a0_6 = some r) :
    Calls Tryd.prog 17 #[.agg #[.int .i64 a0_0, .int .i64 a0_1, .int .i64 a0_2, .string a0_3, .string a0_4, .string a0_5, .int .i64 a0_6]] w fun e w' => e = .returned (.bool r) ∧ Below w.heap.size w w' := by
 have hu24 := Tryd.underlying24
 have HB := AM (Below.refl w.heap.size w)
 have H : ((impl_within.f a0_0 1 9).bind fun t102 => (if t102 = true then ((impl_within.f a0_1 1 1000000000).bind fun t103 => (if t103 = true then ((impl_isName.f k a0_3).bind fun t104 => (impl_isCommand.j0 k (!t104) a0_0 a0_1 a0_2 a0_3 a0_4 a0_5 a0_6)) else (impl_isCommand.j0 k true a0_0 a0_1 a0_2 a0_3 a0_4 a0_5 a0_6))) else (impl_isCommand.j0 k true a0_0 a0_1 a0_2 a0_3 a0_4 a0_5 a0_6))) = some r := h
 clear h
 have HC2 := AM H
 clear H
 go_enter Tryd.func17, Tryd.ntmps17
 go_upto_region 1 with (first | ((with_reducible refine gate_dst (N := 1) rfl ?_); refine box_event (by rfl) (N := 1) (by rfl) (cs := #[.int .i64 a0_0, .int .i64 a0_1, .int .i64 a0_2, .string a0_3, .string a0_4, .string a0_5, .int .i64 a0_6]) (t := 24) (by first | (go_simp; done) | (go_simp; rfl)) ?_; intro gb101 hg w3 hbox hb; have _ := AM (below_step (bX HB.out) hb); have _ := AM (hbox); have n2_ := AM ((by rw [hg]; exact (bZ (bX HB.out)) : w.heap.size ≤ gb101)); clear HB; rename_i HB BK101; have GW101 := n2_; have GE101 := n2_; clear n2_; clear hb hbox hg))
 (try simp only [Act.put, List.setIfInBounds_toArray, List.set_cons_zero, List.set_cons_succ])
 go_cut [18] (fun v18 wc => ∃ (kq : Nat) (x18_1 : Bool), v18 = .bool x18_1 ∧ Aside0 (impl_isCommand.j0 kq x18_1 a0_0 a0_1 a0_2 a0_3 a0_4 a0_5 a0_6 = some r) ∧ Aside0 (kq ≤ k) ∧ Aside0 (wc.heap[gb101]? = some (.cells #[.int .i64 a0_0, .int .i64 a0_1, .int .i64 a0_2, .string a0_3, .string a0_4, .string a0_5, .int .i64 a0_6] 24 (0, 0))) ∧ Aside0 (Below w.heap.size w wc))
 case first =>
  have H := HC2.out
  clear HC2
  replace H := Option.bind_eq_some_iff.mp H
  obtain ⟨t102, A40, H⟩ := H
  replace H : (if t102 = true then ((impl_within.f a0_1 1 1000000000).bind fun t103 => (if t103 = true then ((impl_isName.f k a0_3).bind fun t104 => (impl_isCommand.j0 k (!t104) a0_0 a0_1 a0_2 a0_3 a0_4 a0_5 a0_6)) else (impl_isCommand.j0 k true a0_0 a0_1 a0_2 a0_3 a0_4 a0_5 a0_6))) else (impl_isCommand.j0 k true a0_0 a0_1 a0_2 a0_3 a0_4 a0_5 a0_6)) = some r := H
  have A4 := AM A40
  clear A40
  by_cases c5 : t102 = true
  ·
   subst c5
   have H1 : ((impl_within.f a0_1 1 1000000000).bind fun t103 => (if t103 = true then ((impl_isName.f k a0_3).bind fun t104 => (impl_isCommand.j0 k (!t104) a0_0 a0_1 a0_2 a0_3 a0_4 a0_5 a0_6)) else (impl_isCommand.j0 k true a0_0 a0_1 a0_2 a0_3 a0_4 a0_5 a0_6))) = some r := by rw [if_pos rfl] at H; exact H
   clear H
   have H := H1
   clear H1
   replace H := Option.bind_eq_some_iff.mp H
   obtain ⟨t103, A60, H⟩ := H
   replace H : (if t103 = true then ((impl_isName.f k a0_3).bind fun t104 => (impl_isCommand.j0 k (!t104) a0_0 a0_1 a0_2 a0_3 a0_4 a0_5 a0_6)) else (impl_isCommand.j0 k true a0_0 a0_1 a0_2 a0_3 a0_4 a0_5 a0_6)) = some r := H
   have A6 := AM A60
   clear A60
   by_cases c7 : t103 = true
   ·
    subst c7
    have H1 : ((impl_isName.f k a0_3).bind fun t104 => (impl_isCommand.j0 k (!t104) a0_0 a0_1 a0_2 a0_3 a0_4 a0_5 a0_6)) = some r := by rw [if_pos rfl] at H; exact H
    clear H
    have H := H1
    clear H1
    replace H := Option.bind_eq_some_iff.mp H
    obtain ⟨t104, A80, H⟩ := H
    replace H : (impl_isCommand.j0 k (!t104) a0_0 a0_1 a0_2 a0_3 a0_4 a0_5 a0_6) = some r := H
    have A8 := AM A80
    clear A80
    have H' := AM H
    clear H
    have hcz9 := q7 BK101.out
    have hfz9 := fZ BK101.out
    go_wp2_with (first | ((with_reducible refine gate_callee (f := 26) rfl ?_); refine goesL_ (some 5) rfl rfl Tryd.func26 (by kernel_rfl) rfl #[.int .i64 a0_0, .int .i64 1, .int .i64 9] rfl (by (try simp only [mA, mB, mC]); first | done | rfl | (simp only [mD, mE]; rfl)) ?_; (with_reducible refine (impl_within.calls a0_0 1 9 true _ A4.out).mono ?_); rintro e w' ⟨rfl, ⟨nd, rfl⟩⟩; refine ⟨_, rfl, ?_⟩) | (go_at_call 26; (with_reducible refine (impl_within.calls a0_1 1 1000000000 true _ A6.out).mono ?_); rintro e w' ⟨rfl, ⟨nd, rfl⟩⟩) | (go_at_call 32; (with_reducible refine (impl_isName.calls k a0_3 t104 _ A8.out).mono ?_); rintro e w' ⟨rfl, ⟨nd, rfl⟩⟩))
    go_meet
    case rel => exact ⟨_, (!t104), (by first | rfl | (simp; done) | (simp [*]; done)), H', ⟨by first | omega | exact Nat.le_refl _⟩, ⟨kX BK101.out⟩, ⟨bX HB.out⟩⟩
   replace c7 := Bool.eq_false_iff.mpr c7
   subst c7
   have H1 : (impl_isCommand.j0 k true a0_0 a0_1 a0_2 a0_3 a0_4 a0_5 a0_6) = some r := by rw [if_neg (show ¬ (false = true) by decide)] at H; exact H
   clear H
   have H := H1
   clear H1
   have H' := AM H
   clear H
   have hcz10 := q7 BK101.out
   have hfz10 := fZ BK101.out
   go_wp2_with (first | ((with_reducible refine gate_callee (f := 26) rfl ?_); refine goesL_ (some 5) rfl rfl Tryd.func26 (by kernel_rfl) rfl #[.int .i64 a0_0, .int .i64 1, .int .i64 9] rfl (by (try simp only [mA, mB, mC]); first | done | rfl | (simp only [mD, mE]; rfl)) ?_; (with_reducible refine (impl_within.calls a0_0 1 9 true _ A4.out).mono ?_); rintro e w' ⟨rfl, ⟨nd, rfl⟩⟩; refine ⟨_, rfl, ?_⟩) | (go_at_call 26; (with_reducible refine (impl_within.calls a0_1 1 1000000000 false _ A6.out).mono ?_); rintro e w' ⟨rfl, ⟨nd, rfl⟩⟩))
   go_meet
   case rel => exact ⟨_, (true), (by first | rfl | (simp; done) | (simp [*]; done)), H', ⟨by first | omega | exact Nat.le_refl _⟩, ⟨kX BK101.out⟩, ⟨bX HB.out⟩⟩
  replace c5 := Bool.eq_false_iff.mpr c5
  subst c5
  have H1 : (impl_isCommand.j0 k true a0_0 a0_1 a0_2 a0_3 a0_4 a0_5 a0_6) = some r := by rw [if_neg (show ¬ (false = true) by decide)] at H; exact H
  clear H
  have H := H1
  clear H1
  have H' := AM H
  clear H
  have hcz11 := q7 BK101.out
  have hfz11 := fZ BK101.out
  go_wp2_with (first | ((with_reducible refine gate_callee (f := 26) rfl ?_); refine goesL_ (some 5) rfl rfl Tryd.func26 (by kernel_rfl) rfl #[.int .i64 a0_0, .int .i64 1, .int .i64 9] rfl (by (try simp only [mA, mB, mC]); first | done | rfl | (simp only [mD, mE]; rfl)) ?_; (with_reducible refine (impl_within.calls a0_0 1 9 false _ A4.out).mono ?_); rintro e w' ⟨rfl, ⟨nd, rfl⟩⟩; refine ⟨_, rfl, ?_⟩))
  go_meet
  case rel => exact ⟨_, (true), (by first | rfl | (simp; done) | (simp [*]; done)), H', ⟨by first | omega | exact Nat.le_refl _⟩, ⟨kX BK101.out⟩, ⟨bX HB.out⟩⟩
 case rest =>
  clear HC2
  (try clear c1); (try clear c2); (try clear p2); (try clear c5); (try clear c7); (try clear hcz10); (try clear hcz11); (try clear hcz9); (try clear hfz10); (try clear hfz11); (try clear hfz9)
  obtain ⟨kq, x18_1, rfl, HA, HJ1, BK101, HB⟩ := hcut
  cases kq with
  | zero => exact absurd HA.out (by simp [impl_isCommand.j0])
  | succ kj1 =>
   have H := HA.out
   clear HA
   simp only [impl_isCommand.j0] at H
   by_cases c12 : x18_1 = true
   ·
    subst c12
    have H1 : (some false) = some r := by rw [if_pos rfl] at H; exact H
    clear H
    have H := H1
    clear H1
    obtain rfl := Option.some.inj H
    go_wp2
    go_ret
    exact ⟨by first | rfl | (simp [*, errW_none, errW_some] <;> rfl), bX HB.out⟩
   replace c12 := Bool.eq_false_iff.mpr c12
   subst c12
   have H1 : (if a0_2 = 1 then (impl_isCommand.j1 kj1 a0_2 (a0_2 == 1) a0_0 a0_1 a0_2 a0_3 a0_4 a0_5 a0_6) else (impl_isCommand.j1 kj1 a0_2 (a0_2 == 2) a0_0 a0_1 a0_2 a0_3 a0_4 a0_5 a0_6)) = some r := by rw [if_neg (show ¬ (false = true) by decide)] at H; exact H
   clear H
   have H := H1
   clear H1
   have HC13 := AM H
   clear H
   have hcz14 := q7 BK101.out
   have hfz14 := fZ BK101.out
   go_upto_if 21 with (fail)
   go_cut [21] (fun v21 wc => ∃ (kq : Nat) (x21_12 : Bool), v21 = .bool x21_12 ∧ Aside0 (impl_isCommand.j1 kq a0_2 x21_12 a0_0 a0_1 a0_2 a0_3 a0_4 a0_5 a0_6 = some r) ∧ Aside0 (kq ≤ kj1) ∧ Aside0 (wc.heap[gb101]? = some (.cells #[.int .i64 a0_0, .int .i64 a0_1, .int .i64 a0_2, .string a0_3, .string a0_4, .string a0_5, .int .i64 a0_6] 24 (0, 0))) ∧ Aside0 (Below w.heap.size w wc))
   case first =>
    have H := HC13.out
    clear HC13
    by_cases c15 : a0_2 = 1
    ·
     rw [if_pos c15] at H
     have c15b0 : (a0_2 == 1) = true := beq_iff_eq.mpr c15
     have c15b1 : (a0_2 != 1) = false := bne_eq_false_iff_eq.mpr c15
     clear c15
     (first | rw [c15b0] | (simp only [i64_w, i32_w]; rw [c15b0]) | skip)
     have H' := AM H
     clear H
     go_wp2
     go_meet
     case rel => exact ⟨_, ((a0_2 == 1)), (by first | rfl | (simp; done) | (simp [*]; done)), H', ⟨by have := HJ1.out; first | omega | exact Nat.le_refl _⟩, ⟨kX BK101.out⟩, ⟨bX HB.out⟩⟩
    rw [if_neg c15] at H
    have c15b0 : (a0_2 == 1) = false := beq_eq_false_iff_ne.mpr c15
    have c15b1 : (a0_2 != 1) = true := bne_iff_ne.mpr c15
    (first | rw [c15b0] | (simp only [i64_w, i32_w]; rw [c15b0]) | skip)
    have H' := AM H
    clear H
    go_wp2
    go_meet
    case rel => exact ⟨_, ((a0_2 == 2)), (by first | rfl | (simp; done) | (simp [*]; done)), H', ⟨by have := HJ1.out; first | omega | exact Nat.le_refl _⟩, ⟨kX BK101.out⟩, ⟨bX HB.out⟩⟩
   case rest =>
    clear HC13
    (try clear c1); (try clear c2); (try clear p2); (try clear c5); (try clear c7); (try clear c12); (try clear c15); (try clear c15b0); (try clear c15b1); (try clear hcz10); (try clear hcz11); (try clear hcz14); (try clear hcz9); (try clear hfz10); (try clear hfz11); (try clear hfz14); (try clear hfz9)
    obtain ⟨kq, x21_12, rfl, HA, HJ12, BK101, HB⟩ := hcut
    cases kq with
    | zero => exact absurd HA.out (by simp [impl_isCommand.j1])
    | succ kj12 =>
     have H := HA.out
     clear HA
     simp only [impl_isCommand.j1] at H
     by_cases c16 : x21_12 = true
     ·
      subst c16
      have H1 : (if a0_4.toList = ([] : List UInt8) then (if a0_5.toList = ([] : List UInt8) then (some (a0_6 == 0)) else (some false)) else (some false)) = some r := by rw [if_pos rfl] at H; exact H
      clear H
      have H := H1
      clear H1
      by_cases c17 : a0_4.toList = ([] : List UInt8)
      ·
       rw [if_pos c17] at H
       have c17b0 : (a0_4.toList == ([] : List UInt8)) = true := beq_iff_eq.mpr c17
       have c17b1 : (a0_4.toList != ([] : List UInt8)) = false := bne_eq_false_iff_eq.mpr c17
       clear c17
       by_cases c18 : a0_5.toList = ([] : List UInt8)
       ·
        rw [if_pos c18] at H
        have c18b0 : (a0_5.toList == ([] : List UInt8)) = true := beq_iff_eq.mpr c18
        have c18b1 : (a0_5.toList != ([] : List UInt8)) = false := bne_eq_false_iff_eq.mpr c18
        clear c18
        obtain rfl := Option.some.inj H
        have hcz19 := q7 BK101.out
        have hfz19 := fZ BK101.out
        go_wp2
        go_ret
        exact ⟨by first | rfl | (simp [*, errW_none, errW_some] <;> rfl), bX HB.out⟩
       rw [if_neg c18] at H
       have c18b0 : (a0_5.toList == ([] : List UInt8)) = false := beq_eq_false_iff_ne.mpr c18
       have c18b1 : (a0_5.toList != ([] : List UInt8)) = true := bne_iff_ne.mpr c18
       obtain rfl := Option.some.inj H
       have hcz20 := q7 BK101.out
       have hfz20 := fZ BK101.out
       go_wp2
       go_ret
       exact ⟨by first | rfl | (simp [*, errW_none, errW_some] <;> rfl), bX HB.out⟩
      rw [if_neg c17] at H
      have c17b0 : (a0_4.toList == ([] : List UInt8)) = false := beq_eq_false_iff_ne.mpr c17
      have c17b1 : (a0_4.toList != ([] : List UInt8)) = true := bne_iff_ne.mpr c17
      obtain rfl := Option.some.inj H
      have hcz21 := q7 BK101.out
      have hfz21 := fZ BK101.out
      go_wp2
      go_ret
      exact ⟨by first | rfl | (simp [*, errW_none, errW_some] <;> rfl), bX HB.out⟩
     replace c16 := Bool.eq_false_iff.mpr c16
     subst c16
     have H1 : (if a0_2 = 3 then ((impl_isMessage.f a0_5).bind fun t105 => (if t105 = true then (if a0_4.toList = ([] : List UInt8) then (some (a0_6 == 0)) else (some false)) else (some false))) else (if a0_2 = 4 then (impl_isCommand.j2 kj12 a0_2 (a0_2 == 4) a0_0 a0_1 a0_2 a0_3 a0_4 a0_5 a0_6) else (if a0_2 = 5 then (impl_isCommand.j2 kj12 a0_2 (a0_2 == 5) a0_0 a0_1 a0_2 a0_3 a0_4 a0_5 a0_6) else (impl_isCommand.j2 kj12 a0_2 (a0_2 == 6) a0_0 a0_1 a0_2 a0_3 a0_4 a0_5 a0_6)))) = some r := by rw [if_neg (show ¬ (false = true) by decide)] at H; exact H
     clear H
     have H := H1
     clear H1
     by_cases c22 : a0_2 = 3
     ·
      rw [if_pos c22] at H
      have c22b0 : (a0_2 == 3) = true := beq_iff_eq.mpr c22
      have c22b1 : (a0_2 != 3) = false := bne_eq_false_iff_eq.mpr c22
      clear c22
      replace H := Option.bind_eq_some_iff.mp H
      obtain ⟨t105, A230, H⟩ := H
      replace H : (if t105 = true then (if a0_4.toList = ([] : List UInt8) then (some (a0_6 == 0)) else (some false)) else (some false)) = some r := H
      have A23 := AM A230
      clear A230
      by_cases c24 : t105 = true
      ·
       subst c24
       have H1 : (if a0_4.toList = ([] : List UInt8) then (some (a0_6 == 0)) else (some false)) = some r := by rw [if_pos rfl] at H; exact H
       clear H
       have H := H1
       clear H1
       by_cases c25 : a0_4.toList = ([] : List UInt8)
       ·
        rw [if_pos c25] at H
        have c25b0 : (a0_4.toList == ([] : List UInt8)) = true := beq_iff_eq.mpr c25
        have c25b1 : (a0_4.toList != ([] : List UInt8)) = false := bne_eq_false_iff_eq.mpr c25
        clear c25
        obtain rfl := Option.some.inj H
        have hcz26 := q7 BK101.out
        have hfz26 := fZ BK101.out
        go_wp2_with (first | ((with_reducible refine gate_callee (f := 33) rfl ?_); refine goesL_ (some 41) rfl rfl Tryd.func33 (by kernel_rfl) rfl #[.string a0_5] rfl (by (try simp only [mA, mB, mC]); first | done | rfl | (simp only [mD, mE]; rfl)) ?_; (with_reducible refine (impl_isMessage.calls a0_5 true _ A23.out).mono ?_); rintro e w' ⟨rfl, ⟨nd, rfl⟩⟩; refine ⟨_, rfl, ?_⟩))
        go_ret
        exact ⟨by first | rfl | (simp [*, errW_none, errW_some] <;> rfl), bX HB.out⟩
       rw [if_neg c25] at H
       have c25b0 : (a0_4.toList == ([] : List UInt8)) = false := beq_eq_false_iff_ne.mpr c25
       have c25b1 : (a0_4.toList != ([] : List UInt8)) = true := bne_iff_ne.mpr c25
       obtain rfl := Option.some.inj H
       have hcz27 := q7 BK101.out
       have hfz27 := fZ BK101.out
       go_wp2_with (first | ((with_reducible refine gate_callee (f := 33) rfl ?_); refine goesL_ (some 41) rfl rfl Tryd.func33 (by kernel_rfl) rfl #[.string a0_5] rfl (by (try simp only [mA, mB, mC]); first | done | rfl | (simp only [mD, mE]; rfl)) ?_; (with_reducible refine (impl_isMessage.calls a0_5 true _ A23.out).mono ?_); rintro e w' ⟨rfl, ⟨nd, rfl⟩⟩; refine ⟨_, rfl, ?_⟩))
       go_ret
       exact ⟨by first | rfl | (simp [*, errW_none, errW_some] <;> rfl), bX HB.out⟩
      replace c24 := Bool.eq_false_iff.mpr c24
      subst c24
      have H1 : (some false) = some r := by rw [if_neg (show ¬ (false = true) by decide)] at H; exact H
      clear H
      have H := H1
      clear H1
      obtain rfl := Option.some.inj H
      have hcz28 := q7 BK101.out
      have hfz28 := fZ BK101.out
      go_wp2_with (first | ((with_reducible refine gate_callee (f := 33) rfl ?_); refine goesL_ (some 41) rfl rfl Tryd.func33 (by kernel_rfl) rfl #[.string a0_5] rfl (by (try simp only [mA, mB, mC]); first | done | rfl | (simp only [mD, mE]; rfl)) ?_; (with_reducible refine (impl_isMessage.calls a0_5 false _ A23.out).mono ?_); rintro e w' ⟨rfl, ⟨nd, rfl⟩⟩; refine ⟨_, rfl, ?_⟩))
      go_ret
      exact ⟨by first | rfl | (simp [*, errW_none, errW_some] <;> rfl), bX HB.out⟩
     rw [if_neg c22] at H
     have c22b0 : (a0_2 == 3) = false := beq_eq_false_iff_ne.mpr c22
     have c22b1 : (a0_2 != 3) = true := bne_iff_ne.mpr c22
     have HC29 := AM H
     clear H
     go_upto_if 52 with (fail)
     go_cut [52] (fun v52 wc => ∃ (kq : Nat) (x52_28 : Bool), v52 = .bool x52_28 ∧ Aside0 (impl_isCommand.j2 kq a0_2 x52_28 a0_0 a0_1 a0_2 a0_3 a0_4 a0_5 a0_6 = some r) ∧ Aside0 (kq ≤ kj12) ∧ Aside0 (wc.heap[gb101]? = some (.cells #[.int .i64 a0_0, .int .i64 a0_1, .int .i64 a0_2, .string a0_3, .string a0_4, .string a0_5, .int .i64 a0_6] 24 (0, 0))) ∧ Aside0 (Below w.heap.size w wc))
     case first =>
      have H := HC29.out
      clear HC29
      by_cases c30 : a0_2 = 4
      ·
       rw [if_pos c30] at H
       have c30b0 : (a0_2 == 4) = true := beq_iff_eq.mpr c30
       have c30b1 : (a0_2 != 4) = false := bne_eq_false_iff_eq.mpr c30
       clear c30
       (first | rw [c30b0] | (simp only [i64_w, i32_w]; rw [c30b0]) | skip)
       have H' := AM H
       clear H
       go_wp2
       go_meet
       case rel => exact ⟨_, ((a0_2 == 4)), (by first | rfl | (simp; done) | (simp [*]; done)), H', ⟨by have := HJ1.out; have := HJ12.out; first | omega | exact Nat.le_refl _⟩, ⟨kX BK101.out⟩, ⟨bX HB.out⟩⟩
      rw [if_neg c30] at H
      have c30b0 : (a0_2 == 4) = false := beq_eq_false_iff_ne.mpr c30
      have c30b1 : (a0_2 != 4) = true := bne_iff_ne.mpr c30
      (first | rw [c30b0] | (simp only [i64_w, i32_w]; rw [c30b0]) | skip)
      by_cases c31 : a0_2 = 5
      ·
       rw [if_pos c31] at H
       have c31b0 : (a0_2 == 5) = true := beq_iff_eq.mpr c31
       have c31b1 : (a0_2 != 5) = false := bne_eq_false_iff_eq.mpr c31
       clear c31
       have H' := AM H
       clear H
       go_wp2
       go_meet
       case rel => exact ⟨_, ((a0_2 == 5)), (by first | rfl | (simp; done) | (simp [*]; done)), H', ⟨by have := HJ1.out; have := HJ12.out; first | omega | exact Nat.le_refl _⟩, ⟨kX BK101.out⟩, ⟨bX HB.out⟩⟩
      rw [if_neg c31] at H
      have c31b0 : (a0_2 == 5) = false := beq_eq_false_iff_ne.mpr c31
      have c31b1 : (a0_2 != 5) = true := bne_iff_ne.mpr c31
      have H' := AM H
      clear H
      go_wp2
      go_meet
      case rel => exact ⟨_, ((a0_2 == 6)), (by first | rfl | (simp; done) | (simp [*]; done)), H', ⟨by have := HJ1.out; have := HJ12.out; first | omega | exact Nat.le_refl _⟩, ⟨kX BK101.out⟩, ⟨bX HB.out⟩⟩
     case rest =>
      clear HC29
      (try clear c1); (try clear c2); (try clear p2); (try clear c3); (try clear c5); (try clear c7); (try clear c12); (try clear c15); (try clear c15b0); (try clear c15b1); (try clear c16); (try clear c17); (try clear c17b0); (try clear c17b1); (try clear c18); (try clear c18b0); (try clear c18b1); (try clear c22); (try clear c22b0); (try clear c22b1); (try clear c24); (try clear c25); (try clear c25b0); (try clear c25b1); (try clear c26); (try clear c30); (try clear c30b0); (try clear c30b1); (try clear c31); (try clear c31b0); (try clear c31b1); (try clear hcz10); (try clear hcz11); (try clear hcz14); (try clear hcz19); (try clear hcz20); (try clear hcz21); (try clear hcz26); (try clear hcz27); (try clear hcz28); (try clear hcz9); (try clear hfz10); (try clear hfz11); (try clear hfz14); (try clear hfz19); (try clear hfz20); (try clear hfz21); (try clear hfz26); (try clear hfz27); (try clear hfz28); (try clear hfz9)
      obtain ⟨kq, x52_28, rfl, HA, HJ28, BK101, HB⟩ := hcut
      cases kq with
      | zero => exact absurd HA.out (by simp [impl_isCommand.j2])
      | succ kj28 =>
       have H := HA.out
       clear HA
       simp only [impl_isCommand.j2] at H
       by_cases c32 : x52_28 = true
       ·
        subst c32
        have H1 : ((impl_isName.f kj28 a0_4).bind fun t106 => (if t106 = true then (if a0_5.toList = ([] : List UInt8) then ((impl_isTime.f a0_6).bind fun t107 => (some t107)) else (some false)) else (some false))) = some r := by rw [if_pos rfl] at H; exact H
        clear H
        have H := H1
        clear H1
        replace H := Option.bind_eq_some_iff.mp H
        obtain ⟨t106, A330, H⟩ := H
        replace H : (if t106 = true then (if a0_5.toList = ([] : List UInt8) then ((impl_isTime.f a0_6).bind fun t107 => (some t107)) else (some false)) else (some false)) = some r := H
        have A33 := AM A330
        clear A330
        by_cases c34 : t106 = true
        ·
         subst c34
         have H1 : (if a0_5.toList = ([] : List UInt8) then ((impl_isTime.f a0_6).bind fun t107 => (some t107)) else (some false)) = some r := by rw [if_pos rfl] at H; exact H
         clear H
         have H := H1
         clear H1
         by_cases c35 : a0_5.toList = ([] : List UInt8)
         ·
          rw [if_pos c35] at H
          have c35b0 : (a0_5.toList == ([] : List UInt8)) = true := beq_iff_eq.mpr c35
          have c35b1 : (a0_5.toList != ([] : List UInt8)) = false := bne_eq_false_iff_eq.mpr c35
          clear c35
          replace H := Option.bind_eq_some_iff.mp H
          obtain ⟨t107, A360, H⟩ := H
          replace H : (some t107) = some r := H
          have A36 := AM A360
          clear A360
          obtain rfl := Option.some.inj H
          have hcz37 := q7 BK101.out
          have hfz37 := fZ BK101.out
          go_wp2_with (first | ((with_reducible refine gate_callee (f := 32) rfl ?_); refine goesL_ (some 58) rfl rfl Tryd.func32 (by kernel_rfl) rfl #[.string a0_4] rfl (by (try simp only [mA, mB, mC]); first | done | rfl | (simp only [mD, mE]; rfl)) ?_; (with_reducible refine (impl_isName.calls kj28 a0_4 true _ A33.out).mono ?_); rintro e w' ⟨rfl, ⟨nd, rfl⟩⟩; refine ⟨_, rfl, ?_⟩) | (go_at_call 34; (with_reducible refine (impl_isTime.calls a0_6 t107 _ A36.out).mono ?_); rintro e w' ⟨rfl, ⟨nd, rfl⟩⟩))
          go_ret
          exact ⟨by first | rfl | (simp [*, errW_none, errW_some] <;> rfl), bX HB.out⟩
         rw [if_neg c35] at H
         have c35b0 : (a0_5.toList == ([] : List UInt8)) = false := beq_eq_false_iff_ne.mpr c35
         have c35b1 : (a0_5.toList != ([] : List UInt8)) = true := bne_iff_ne.mpr c35
         obtain rfl := Option.some.inj H
         have hcz38 := q7 BK101.out
         have hfz38 := fZ BK101.out
         go_wp2_with (first | ((with_reducible refine gate_callee (f := 32) rfl ?_); refine goesL_ (some 58) rfl rfl Tryd.func32 (by kernel_rfl) rfl #[.string a0_4] rfl (by (try simp only [mA, mB, mC]); first | done | rfl | (simp only [mD, mE]; rfl)) ?_; (with_reducible refine (impl_isName.calls kj28 a0_4 true _ A33.out).mono ?_); rintro e w' ⟨rfl, ⟨nd, rfl⟩⟩; refine ⟨_, rfl, ?_⟩))
         go_ret
         exact ⟨by first | rfl | (simp [*, errW_none, errW_some] <;> rfl), bX HB.out⟩
        replace c34 := Bool.eq_false_iff.mpr c34
        subst c34
        have H1 : (some false) = some r := by rw [if_neg (show ¬ (false = true) by decide)] at H; exact H
        clear H
        have H := H1
        clear H1
        obtain rfl := Option.some.inj H
        have hcz39 := q7 BK101.out
        have hfz39 := fZ BK101.out
        go_wp2_with (first | ((with_reducible refine gate_callee (f := 32) rfl ?_); refine goesL_ (some 58) rfl rfl Tryd.func32 (by kernel_rfl) rfl #[.string a0_4] rfl (by (try simp only [mA, mB, mC]); first | done | rfl | (simp only [mD, mE]; rfl)) ?_; (with_reducible refine (impl_isName.calls kj28 a0_4 false _ A33.out).mono ?_); rintro e w' ⟨rfl, ⟨nd, rfl⟩⟩; refine ⟨_, rfl, ?_⟩))
        go_ret
        exact ⟨by first | rfl | (simp [*, errW_none, errW_some] <;> rfl), bX HB.out⟩
       replace c32 := Bool.eq_false_iff.mpr c32
       subst c32
       have H1 : (if a0_2 = 7 then (if a0_4.toList = ([] : List UInt8) then (if a0_5.toList = ([] : List UInt8) then ((impl_within.f a0_6 0 20).bind fun t108 => (some t108)) else (some false)) else (some false)) else (some false)) = some r := by rw [if_neg (show ¬ (false = true) by decide)] at H; exact H
       clear H
       have H := H1
       clear H1
       by_cases c40 : a0_2 = 7
       ·
        rw [if_pos c40] at H
        have c40b0 : (a0_2 == 7) = true := beq_iff_eq.mpr c40
        have c40b1 : (a0_2 != 7) = false := bne_eq_false_iff_eq.mpr c40
        clear c40
        by_cases c41 : a0_4.toList = ([] : List UInt8)
        ·
         rw [if_pos c41] at H
         have c41b0 : (a0_4.toList == ([] : List UInt8)) = true := beq_iff_eq.mpr c41
         have c41b1 : (a0_4.toList != ([] : List UInt8)) = false := bne_eq_false_iff_eq.mpr c41
         clear c41
         by_cases c42 : a0_5.toList = ([] : List UInt8)
         ·
          rw [if_pos c42] at H
          have c42b0 : (a0_5.toList == ([] : List UInt8)) = true := beq_iff_eq.mpr c42
          have c42b1 : (a0_5.toList != ([] : List UInt8)) = false := bne_eq_false_iff_eq.mpr c42
          clear c42
          replace H := Option.bind_eq_some_iff.mp H
          obtain ⟨t108, A430, H⟩ := H
          replace H : (some t108) = some r := H
          have A43 := AM A430
          clear A430
          obtain rfl := Option.some.inj H
          have hcz44 := q7 BK101.out
          have hfz44 := fZ BK101.out
          go_wp2_with (first | (go_at_call 26; (with_reducible refine (impl_within.calls a0_6 0 20 t108 _ A43.out).mono ?_); rintro e w' ⟨rfl, ⟨nd, rfl⟩⟩))
          go_ret
          exact ⟨by first | rfl | (simp [*, errW_none, errW_some] <;> rfl), bX HB.out⟩
         rw [if_neg c42] at H
         have c42b0 : (a0_5.toList == ([] : List UInt8)) = false := beq_eq_false_iff_ne.mpr c42
         have c42b1 : (a0_5.toList != ([] : List UInt8)) = true := bne_iff_ne.mpr c42
         obtain rfl := Option.some.inj H
         have hcz45 := q7 BK101.out
         have hfz45 := fZ BK101.out
         go_wp2
         go_ret
         exact ⟨by first | rfl | (simp [*, errW_none, errW_some] <;> rfl), bX HB.out⟩
        rw [if_neg c41] at H
        have c41b0 : (a0_4.toList == ([] : List UInt8)) = false := beq_eq_false_iff_ne.mpr c41
        have c41b1 : (a0_4.toList != ([] : List UInt8)) = true := bne_iff_ne.mpr c41
        obtain rfl := Option.some.inj H
        have hcz46 := q7 BK101.out
        have hfz46 := fZ BK101.out
        go_wp2
        go_ret
        exact ⟨by first | rfl | (simp [*, errW_none, errW_some] <;> rfl), bX HB.out⟩
       rw [if_neg c40] at H
       have c40b0 : (a0_2 == 7) = false := beq_eq_false_iff_ne.mpr c40
       have c40b1 : (a0_2 != 7) = true := bne_iff_ne.mpr c40
       obtain rfl := Option.some.inj H
       go_wp2
       go_ret
       exact ⟨by first | rfl | (simp [*, errW_none, errW_some] <;> rfl), bX HB.out⟩

/-! ### impl_putNum: function 37 -/

mutual
def impl_putNum.j0 : Nat → Int → Option (ByteArray)
  | 0, _ => none
  | k + 1, x3 => impl_putNum.l0 k x3 ([] : List Int)
def impl_putNum.l0 : Nat → Int → List Int → Option (ByteArray)
  | 0, _, _ => none
  | k + 1, x3, x4 => if x3 > 127 then (if x4.length < 140737488355328 then (impl_putNum.l0 k (x3 / 128) (x4 ++ [Go.bits .or .u8 ((x3) % 256) 128])) else (none)) else (if x4.length < 140737488355328 then (some (strOfNums (x4 ++ [(x3) % 256]))) else (none))
end
def impl_putNum.f (k : Nat) (a0 : Int) : Option (ByteArray) := if a0 < 0 then (impl_putNum.j0 k (Go.bits .xor .u64 18446744073709551615 (IntKind.u64.wrap ((IntKind.u64.wrap (a0)) * 2)))) else (impl_putNum.j0 k (IntKind.u64.wrap ((IntKind.u64.wrap (a0)) * 2)))
theorem impl_putNum.mono_l : ∀ k, (∀ y0, LeO (impl_putNum.j0 k y0) (impl_putNum.j0 (k + 1) y0)) ∧ (∀ y0 y1, LeO (impl_putNum.l0 k y0 y1) (impl_putNum.l0 (k + 1) y0 y1))
  | 0 => ⟨fun _ r h => by simp [impl_putNum.j0] at h, fun _ _ r h => by simp [impl_putNum.l0] at h⟩
  | k + 1 => by
    obtain ⟨ih0, ih1⟩ := impl_putNum.mono_l k
    refine ⟨?_, ?_⟩
    · intro y0
      unfold impl_putNum.j0
      repeat' first
      | (with_reducible exact ih0 _)
      | (with_reducible exact ih1 _ _)
      | (with_reducible exact LeO.refl _)
      | (with_reducible exact LeO.none _)
      | (with_reducible refine LeO.ite ?_ ?_)
      | (with_reducible refine LeO.bind ?_ (fun _ => ?_))
      | exact ih0 _
      | exact ih1 _ _
      | exact LeO.none _
      | refine LeO.ite ?_ ?_
      | refine LeO.bind ?_ (fun _ => ?_)
    · intro y0 y1
      unfold impl_putNum.l0
      repeat' first
      | (with_reducible exact ih0 _)
      | (with_reducible exact ih1 _ _)
      | (with_reducible exact LeO.refl _)
      | (with_reducible exact LeO.none _)
      | (with_reducible refine LeO.ite ?_ ?_)
      | (with_reducible refine LeO.bind ?_ (fun _ => ?_))
      | exact ih0 _
      | exact ih1 _ _
      | exact LeO.none _
      | refine LeO.ite ?_ ?_
      | refine LeO.bind ?_ (fun _ => ?_)
theorem impl_putNum.mono : ∀ a0 k, LeO (impl_putNum.f k a0) (impl_putNum.f (k + 1) a0) := by
  intro a0 k
  obtain ⟨ih0, ih1⟩ := impl_putNum.mono_l k
  unfold impl_putNum.f
  repeat' first
      | (with_reducible exact ih0 _)
      | (with_reducible exact ih1 _ _)
      | (with_reducible exact LeO.refl _)
      | (with_reducible exact LeO.none _)
      | (with_reducible refine LeO.ite ?_ ?_)
      | (with_reducible refine LeO.bind ?_ (fun _ => ?_))
      | exact ih0 _
      | exact ih1 _ _
      | exact LeO.none _
      | refine LeO.ite ?_ ?_
      | refine LeO.bind ?_ (fun _ => ?_)
set_option maxHeartbeats 60000000 in
set_option maxRecDepth 100000 in
theorem impl_putNum.calls (k : Nat) (a0 : Int) (r : ByteArray) (w : World) (h : impl_putNum.f k a0 = some r) :
    Calls Tryd.prog 37 #[.int .i64 a0] w fun e w' => e = .returned (.string r) ∧ Below w.heap.size w w' := by
 have HB := AM (Below.refl w.heap.size w)
 have H : (if a0 < 0 then (impl_putNum.j0 k (Go.bits .xor .u64 18446744073709551615 (IntKind.u64.wrap ((IntKind.u64.wrap (a0)) * 2)))) else (impl_putNum.j0 k (IntKind.u64.wrap ((IntKind.u64.wrap (a0)) * 2)))) = some r := h
 clear h
 have HC2 := AM H
 clear H
 go_enter Tryd.func37, Tryd.ntmps37
 go_upto_if 9 with (fail)
 go_cut [3] (fun v3 wc => ∃ (kq : Nat) (x3_1 : Int), v3 = .int .u64 x3_1 ∧ Aside0 (impl_putNum.j0 kq x3_1 = some r) ∧ Aside0 (kq ≤ k) ∧ Aside0 (Below w.heap.size w wc))
 case first =>
  have H := HC2.out
  clear HC2
  by_cases c3 : a0 < 0
  ·
   rw [if_pos c3] at H
   have c3b0 : decide (a0 < 0) = true := decide_eq_true c3
   clear c3
   (first | rw [c3b0] | (simp only [i64_w, i32_w]; rw [c3b0]) | skip)
   have H' := AM H
   clear H
   go_wp2
   go_meet
   case rel => exact ⟨_, (Go.bits .xor .u64 18446744073709551615 (IntKind.u64.wrap ((IntKind.u64.wrap (a0)) * 2))), (by first | rfl | (simp; done) | (simp [*]; done)), H', ⟨by first | omega | exact Nat.le_refl _⟩, ⟨bX HB.out⟩⟩
  rw [if_neg c3] at H
  have c3b0 : decide (a0 < 0) = false := decide_eq_false c3
  clear c3
  (first | rw [c3b0] | (simp only [i64_w, i32_w]; rw [c3b0]) | skip)
  have H' := AM H
  clear H
  go_wp2
  go_meet
  case rel => exact ⟨_, (IntKind.u64.wrap ((IntKind.u64.wrap (a0)) * 2)), (by first | rfl | (simp; done) | (simp [*]; done)), H', ⟨by first | omega | exact Nat.le_refl _⟩, ⟨bX HB.out⟩⟩
 case rest =>
  clear HC2
  (try clear p2); (try clear c3); (try clear c3b0)
  obtain ⟨kq, x3_1, rfl, HA, HJ1, HB⟩ := hcut
  cases kq with
  | zero => exact absurd HA.out (by simp [impl_putNum.j0])
  | succ kj1 =>
   have H := HA.out
   clear HA
   simp only [impl_putNum.j0] at H
   have H' := AM H
   clear H
   go_wp2
   go_loopg [3, 4] kj1 (fun kq v3 v4 w' => ∃ (x3_2 : Int) (x4_2 : List Int), v3 = .int .u64 x3_2 ∧ Aside0 (impl_putNum.l0 kq x3_2 x4_2 = some r) ∧ Aside0 (kq ≤ kj1) ∧ Aside0 (Kd.R (Kd.int .u8) 5 w' w.heap.size (fun _ => True) v4 x4_2) ∧ Aside0 (Below w.heap.size w w'))
   case atStart => exact ⟨(x3_1), (([] : List Int)), (by first | rfl | (simp; done) | (simp [*]; done)), H', ⟨Nat.le_refl _⟩, ⟨by first | exact Kd.R_nil _ _ _ _ _ | exact Kd.N_nil _ _ _ _ _ | exact Kd.V_nil _ _ _ _ _ | exact Kd.Q_nil _ _ _ _ _ | exact Kd.S_nil _ _ _ _ _⟩, ⟨bX HB.out⟩⟩
   case round =>
    clear H'
    (try clear p2); (try clear c3); (try clear c3b0)
    obtain ⟨x3_2, x4_2, rfl, HA, HK2, HO_4, HB⟩ := hrel
    cases gk with
    | zero => exact absurd HA.out (by simp [impl_putNum.l0])
    | succ k2 =>
     have H := HA.out
     clear HA
     simp only [impl_putNum.l0] at H
     by_cases c4 : x3_2 > 127
     ·
      rw [if_pos c4] at H
      have c4b0 : decide (127 < x3_2) = true := decide_eq_true c4
      clear c4
      by_cases c5 : x4_2.length < 140737488355328
      ·
       rw [if_pos c5] at H
       have LMc5 := AM c5
       clear c5
       obtain ⟨y101, hy101⟩ : ∃ y_ : List Int, y_ = (x4_2 ++ [Go.bits .or .u8 ((x3_2) % 256) 128]) := ⟨_, rfl⟩
       replace H : (impl_putNum.l0 k2 (x3_2 / 128) y101) = some r := by first | (rw [hy101]; with_reducible exact H) | (have H2_ := (Option.bind_some _ _).symm.trans H; rw [hy101]; with_reducible exact H2_) | (have H2_ := (Option.bind_some _ _).symm.trans H; with_reducible exact H2_) | with_reducible exact H | (rw [hy101]; exact H) | exact H
       have Ny101 := AM hy101
       clear hy101
       have H' := AM H
       clear H
       go_wp2_with (first | ((with_reducible refine gate_builtin (b := .append) (xs := #[.tmp 16, .tmp 20]) rfl ?_); at_builtin; refine Kd.R_append (Kd.int .u8) (w0 := w) w.heap.size rfl (.tmp 16) (.tmp 20) 22 5 (.int .u8 0) 1 rfl Tryd.underlying22 info5 rfl (by decide) (by omega) u4 x4_2 (Go.bits .or .u8 ((x3_2) % 256) 128) [.int .u8 (Go.bits .or .u8 ((x3_2) % 256) 128)] (fun _ => True) (fun _ => False) rfl rfl ?aP (fun _ hk => hk.elim) ?aF ?aO ?aB ?aS ?aL ?_; (case aP => exact rfl); (case aB => exact (bX HB.out)); (case aF => exact (fun _ _ => trivial)); (case aO => exact (rX HO_4.out)); (case aS => exact (bZ (bX HB.out))); (case aL => have := LMc5.out; omega); intro v102 w6 ho hb hg hat; rw [← Ny101.out] at ho; have _ := AM (hb); have _ := AM (ho); clear HB HO_4; rename_i HB HO103; clear ho hb hg hat))
       go_roundg k2
       case measure => have := HJ1.out; have := HK2.out; omega
       case rel => exact ⟨(x3_2 / 128), (y101), (by first | rfl | (simp; done) | (simp [*]; done)), H', ⟨by have := HJ1.out; have := HK2.out; omega⟩, ⟨rX HO103.out⟩, ⟨bX HB.out⟩⟩
      rw [if_neg c5] at H
      exact absurd H (by simp)
     rw [if_neg c4] at H
     have c4b0 : decide (127 < x3_2) = false := decide_eq_false c4
     clear c4
     by_cases c7 : x4_2.length < 140737488355328
     ·
      rw [if_pos c7] at H
      have LMc7 := AM c7
      clear c7
      obtain ⟨y104, hy104⟩ : ∃ y_ : List Int, y_ = (x4_2 ++ [(x3_2) % 256]) := ⟨_, rfl⟩
      replace H : (some (strOfNums y104)) = some r := by first | (rw [hy104]; with_reducible exact H) | (have H2_ := (Option.bind_some _ _).symm.trans H; rw [hy104]; with_reducible exact H2_) | (have H2_ := (Option.bind_some _ _).symm.trans H; with_reducible exact H2_) | with_reducible exact H | (rw [hy104]; exact H) | exact H
      have Ny104 := AM hy104
      clear hy104
      obtain rfl := Option.some.inj H
      go_wp2_with (first | ((with_reducible refine gate_builtin (b := .append) (xs := #[.tmp 22, .tmp 25]) rfl ?_); at_builtin; refine Kd.R_append (Kd.int .u8) (w0 := w) w.heap.size rfl (.tmp 22) (.tmp 25) 22 5 (.int .u8 0) 1 rfl Tryd.underlying22 info5 rfl (by decide) (by omega) u4 x4_2 ((x3_2) % 256) [.int .u8 ((x3_2) % 256)] (fun _ => True) (fun _ => False) rfl rfl ?aP (fun _ hk => hk.elim) ?aF ?aO ?aB ?aS ?aL ?_; (case aP => exact rfl); (case aB => exact (bX HB.out)); (case aF => exact (fun _ _ => trivial)); (case aO => exact (rX HO_4.out)); (case aS => exact (bZ (bX HB.out))); (case aL => have := LMc7.out; omega); intro v105 w8 ho hb hg hat; rw [← Ny104.out] at ho; have _ := AM (hb); have _ := AM (ho); clear HB HO_4; rename_i HB HO106; clear ho hb hg hat; have hcv9 := own_string (P := Tryd.prog) Tryd.underlying22 Tryd.underlying5 Tryd.underlying9 (Kd.own_of_R HO106.out)))
      go_ret
      exact ⟨by first | rfl | (simp [*, errW_none, errW_some] <;> rfl), bX HB.out⟩
     rw [if_neg c7] at H
     exact absurd H (by simp)

/-! ### impl_putNums: function 35 -/

def impl_putNums.l0 : Nat → ByteArray → List Int → Int → Int → Option (ByteArray)
  | 0, _, _, _, _ => none
  | k + 1, x3, x6, x7, x8 => if x8 < x7 then (if 0 ≤ x8 then (if x8 < (x6.length : Int) then ((impl_putNum.f k (rd x6 x8)).bind fun t102 => (if x3.size + t102.size ≤ 9223372036854775807 then (impl_putNums.l0 k (x3 ++ t102) x6 x7 (wrap64 (x8 + 1))) else (none))) else (none)) else (none)) else (some x3)
def impl_putNums.f (k : Nat) (l0 : List Int) : Option (ByteArray) := impl_putNums.l0 k (⟨#[]⟩ : ByteArray) l0 (l0.length : Int) 0
theorem impl_putNums.mono_l : ∀ k, (∀ y0 y1 y2 y3, LeO (impl_putNums.l0 k y0 y1 y2 y3) (impl_putNums.l0 (k + 1) y0 y1 y2 y3))
  | 0 => fun _ _ _ _ r h => by simp [impl_putNums.l0] at h
  | k + 1 => by
    have ih0 := impl_putNums.mono_l k
    · intro y0 y1 y2 y3
      unfold impl_putNums.l0
      repeat' first
      | (with_reducible exact ih0 _ _ _ _)
      | (with_reducible exact impl_putNum.mono _ _)
      | (with_reducible exact LeO.refl _)
      | (with_reducible exact LeO.none _)
      | (with_reducible refine LeO.ite ?_ ?_)
      | (with_reducible refine LeO.bind ?_ (fun _ => ?_))
      | exact ih0 _ _ _ _
      | exact impl_putNum.mono _ _
      | exact LeO.none _
      | refine LeO.ite ?_ ?_
      | refine LeO.bind ?_ (fun _ => ?_)
theorem impl_putNums.mono : ∀ a0 k, LeO (impl_putNums.f k a0) (impl_putNums.f (k + 1) a0) := by
  intro a0 k
  have ih0 := impl_putNums.mono_l k
  unfold impl_putNums.f
  repeat' first
      | (with_reducible exact ih0 _ _ _ _)
      | (with_reducible exact impl_putNum.mono _ _)
      | (with_reducible exact LeO.refl _)
      | (with_reducible exact LeO.none _)
      | (with_reducible refine LeO.ite ?_ ?_)
      | (with_reducible refine LeO.bind ?_ (fun _ => ?_))
      | exact ih0 _ _ _ _
      | exact impl_putNum.mono _ _
      | exact LeO.none _
      | refine LeO.ite ?_ ?_
      | refine LeO.bind ?_ (fun _ => ?_)
set_option maxHeartbeats 60000000 in
set_option maxRecDepth 100000 in
theorem impl_putNums.calls (k : Nat) (A0 : Option Addr) (c0 : Nat) (l0 : List Int) (r : ByteArray) (w : World) (hr0 : Kd.C (Kd.int .i64) w A0 l0.length l0) (hc0 : l0.length ≤ c0) (h : impl_putNums.f k l0 = some r) :
    Calls Tryd.prog 35 #[.slice A0 l0.length c0] w fun e w' => e = .returned (.string r) ∧ Below w.heap.size w w' := by
 have HR0 := AM hr0
 have HC0 := AM hc0
 clear hr0 hc0
 have HB := AM (Below.refl w.heap.size w)
 have H : (impl_putNums.l0 k (⟨#[]⟩ : ByteArray) l0 (l0.length : Int) 0) = some r := h
 clear h
 have H' := AM H
 clear H
 go_enter Tryd.func35, Tryd.ntmps35
 go_wp2
 go_loopg [3, 8] k (fun kq v3 v8 w' => ∃ (x3_1 : ByteArray) (x8_1 : Int), v3 = .string x3_1 ∧ v8 = .int .i64 x8_1 ∧ Aside0 (impl_putNums.l0 kq x3_1 l0 (l0.length : Int) x8_1 = some r) ∧ Aside0 (kq ≤ k) ∧ Aside0 (Below w.heap.size w w'))
 case atStart => exact ⟨((⟨#[]⟩ : ByteArray)), (0), (by first | rfl | (simp; done) | (simp [*]; done)), (by first | rfl | (simp; done) | (simp [*]; done)), H', ⟨Nat.le_refl _⟩, ⟨bX HB.out⟩⟩
 case round =>
  clear H'
  obtain ⟨x3_1, x8_1, rfl, rfl, HA, HK1, HB⟩ := hrel
  cases gk with
  | zero => exact absurd HA.out (by simp [impl_putNums.l0])
  | succ k1 =>
   have H := HA.out
   clear HA
   simp only [impl_putNums.l0] at H
   by_cases c2 : x8_1 < (l0.length : Int)
   ·
    rw [if_pos c2] at H
    have c2b0 : decide (x8_1 < (l0.length : Int)) = true := decide_eq_true c2
    clear c2
    by_cases c3 : 0 ≤ x8_1
    ·
     rw [if_pos c3] at H
     have c3b0 : decide (0 ≤ x8_1) = true := decide_eq_true c3
     clear c3
     by_cases c4 : x8_1 < (l0.length : Int)
     ·
      rw [if_pos c4] at H
      have c4b0 : decide (x8_1 < (l0.length : Int)) = true := decide_eq_true c4
      clear c4
      replace H := Option.bind_eq_some_iff.mp H
      obtain ⟨t102, A50, H⟩ := H
      replace H : (if x3_1.size + t102.size ≤ 9223372036854775807 then (impl_putNums.l0 k1 (x3_1 ++ t102) l0 (l0.length : Int) (wrap64 (x8_1 + 1))) else (none)) = some r := H
      have A5 := AM A50
      clear A50
      by_cases c6 : x3_1.size + t102.size ≤ 9223372036854775807
      ·
       rw [if_pos c6] at H
       have c6b0 := eq_true c6
       have c6b1 : decide (x3_1.size + t102.size ≤ 9223372036854775807) = true := decide_eq_true c6
       try have c6b2 : (9223372036854775807 < x3_1.size + t102.size) = False := eq_false (Nat.not_lt.2 c6)
       have H' := AM H
       clear H
       have p101 : 0 ≤ (x8_1 : Int) := of_decide_eq_true (by assumption)
       have q101 : x8_1 < (l0.length : Int) := of_decide_eq_true (by assumption)
       obtain ⟨ad101, e101, hx101_0⟩ := Kd.at_int HR0.out x8_1 p101 q101
       cases e101
       replace hx101_0 := pw_cell_below HB.out hx101_0
       replace p101 := eq_true p101
       replace q101 := eq_true q101
       go_wp2_with (first | ((with_reducible refine gate_callee (f := 37) rfl ?_); refine goesL_ (some 14) rfl rfl Tryd.func37 (by kernel_rfl) rfl #[.int .i64 (rd l0 x8_1)] rfl (by (try simp only [mA, mB, mC]); first | done | rfl | (simp only [mD, mE]; rfl)) ?_; (with_reducible refine (impl_putNum.calls k1 (rd l0 x8_1) t102 _ A5.out).mono ?_); rintro e w7 ⟨rfl, hb⟩; refine ⟨_, rfl, ?_⟩; have _ := AM (below_step (bX HB.out) hb); clear HB; rename_i HB; (try clear hb); (try clear hk)))
       go_roundg k1
       case measure => have := HK1.out; omega
       case rel => exact ⟨(x3_1 ++ t102), (wrap64 (x8_1 + 1)), (by first | rfl | (simp; done) | (simp [*]; done)), (by first | rfl | (simp; done) | (simp [*]; done)), H', ⟨by have := HK1.out; omega⟩, ⟨bX HB.out⟩⟩
      rw [if_neg c6] at H
      exact absurd H (by simp)
     rw [if_neg c4] at H
     exact absurd H (by simp)
    rw [if_neg c3] at H
    exact absurd H (by simp)
   rw [if_neg c2] at H
   have c2b0 : decide (x8_1 < (l0.length : Int)) = false := decide_eq_false c2
   clear c2
   obtain rfl := Option.some.inj H
   go_wp2
   go_ret
   exact ⟨by first | rfl | (simp [*, errW_none, errW_some] <;> rfl), bX HB.out⟩

/-! ### impl_putText: function 36 -/

def impl_putText.f (k : Nat) (a0 : ByteArray) : Option (ByteArray) := (impl_putNum.f k (a0.size : Int)).bind fun t101 => (if t101.size + a0.size ≤ 9223372036854775807 then (some (t101 ++ a0)) else (none))
theorem impl_putText.mono : ∀ a0 k, LeO (impl_putText.f k a0) (impl_putText.f (k + 1) a0) := by
  intro a0 k
  unfold impl_putText.f
  repeat' first
      | (with_reducible exact impl_putNum.mono _ _)
      | (with_reducible exact LeO.refl _)
      | (with_reducible exact LeO.none _)
      | (with_reducible refine LeO.ite ?_ ?_)
      | (with_reducible refine LeO.bind ?_ (fun _ => ?_))
      | exact impl_putNum.mono _ _
      | exact LeO.none _
      | refine LeO.ite ?_ ?_
      | refine LeO.bind ?_ (fun _ => ?_)
set_option maxHeartbeats 60000000 in
set_option maxRecDepth 100000 in
theorem impl_putText.calls (k : Nat) (a0 : ByteArray) (r : ByteArray) (w : World) (h : impl_putText.f k a0 = some r) :
    Calls Tryd.prog 36 #[.string a0] w fun e w' => e = .returned (.string r) ∧ Below w.heap.size w w' := by
 have HB := AM (Below.refl w.heap.size w)
 have H : ((impl_putNum.f k (a0.size : Int)).bind fun t101 => (if t101.size + a0.size ≤ 9223372036854775807 then (some (t101 ++ a0)) else (none))) = some r := h
 clear h
 replace H := Option.bind_eq_some_iff.mp H
 obtain ⟨t101, A20, H⟩ := H
 replace H : (if t101.size + a0.size ≤ 9223372036854775807 then (some (t101 ++ a0)) else (none)) = some r := H
 have A2 := AM A20
 clear A20
 by_cases c3 : t101.size + a0.size ≤ 9223372036854775807
 ·
  rw [if_pos c3] at H
  have c3b0 := eq_true c3
  have c3b1 : decide (t101.size + a0.size ≤ 9223372036854775807) = true := decide_eq_true c3
  try have c3b2 : (9223372036854775807 < t101.size + a0.size) = False := eq_false (Nat.not_lt.2 c3)
  obtain rfl := Option.some.inj H
  go_enter Tryd.func36, Tryd.ntmps36
  go_wp2_with (first | ((with_reducible refine gate_callee (f := 37) rfl ?_); refine goesL_ (some 5) rfl rfl Tryd.func37 (by kernel_rfl) rfl #[.int .i64 (a0.size : Int)] rfl (by (try simp only [mA, mB, mC]); first | done | rfl | (simp only [mD, mE]; rfl)) ?_; (with_reducible refine (impl_putNum.calls k (a0.size : Int) t101 _ A2.out).mono ?_); rintro e w4 ⟨rfl, hb⟩; refine ⟨_, rfl, ?_⟩; have _ := AM (below_step (bX HB.out) hb); clear HB; rename_i HB; (try clear hb); (try clear hk)))
  go_ret
  exact ⟨by first | rfl | (simp [*, errW_none, errW_some] <;> rfl), bX HB.out⟩
 rw [if_neg c3] at H
 exact absurd H (by simp)

/-! ### impl_commandBytes: function 18 -/
abbrev impl_commandBytes.b0 : Array Bool := #[true, false, true, false, false, false, false, false, false, false, false, false, false, false, false, false, false, false, false, false, false, false, false, false, false]
abbrev impl_commandBytes.b1 : Array Bool := #[true, false, true, false, true, false, false, false, false, false, false, false, false, false, false, false, false, false, false, false, false, false, false, false, false]
abbrev impl_commandBytes.b2 : Array Bool := #[true, false, true, false, true, false, false, false, true, false, false, false, false, false, false, false, false, false, false, false, false, false, false, false, false]
abbrev impl_commandBytes.b3 : Array Bool := #[true, false, true, false, true, false, false, false, true, false, false, false, true, false, false, false, false, false, false, false, false, false, false, false, false]
abbrev impl_commandBytes.b4 : Array Bool := #[true, false, true, false, true, false, false, false, true, false, false, false, true, false, false, false, true, false, false, false, false, false, false, false, false]
abbrev impl_commandBytes.b5 : Array Bool := #[true, false, true, false, true, false, false, false, true, false, false, false, true, false, false, false, true, false, false, false, true, false, false, false, false]
abbrev impl_commandBytes.b6 : Array Bool := #[true, true, true, false, true, false, false, false, true, false, false, false, true, false, false, false, true, false, false, false, true, false, false, false, false]
abbrev impl_commandBytes.b7 : Array Bool := #[true, true, true, true, true, false, false, false, true, false, false, false, true, false, false, false, true, false, false, false, true, false, false, false, false]
abbrev impl_commandBytes.b8 : Array Bool := #[true, true, true, true, true, true, false, false, true, false, false, false, true, false, false, false, true, false, false, false, true, false, false, false, false]
abbrev impl_commandBytes.b9 : Array Bool := #[true, true, true, true, true, true, false, false, true, true, false, false, true, false, false, false, true, false, false, false, true, false, false, false, false]
abbrev impl_commandBytes.b10 : Array Bool := #[true, true, true, true, true, true, false, false, true, true, false, false, true, true, false, false, true, false, false, false, true, false, false, false, false]
abbrev impl_commandBytes.b11 : Array Bool := #[true, true, true, true, true, true, false, false, true, true, false, false, true, true, false, false, true, true, false, false, true, false, false, false, false]
abbrev impl_commandBytes.b12 : Array Bool := #[true, true, true, true, true, true, false, false, true, true, false, false, true, true, false, false, true, true, false, false, true, true, false, false, false]
abbrev impl_commandBytes.b13 : Array Bool := #[true, true, true, true, true, true, true, false, true, true, false, false, true, true, false, false, true, true, false, false, true, true, false, false, false]
abbrev impl_commandBytes.b14 : Array Bool := #[true, true, true, true, true, true, true, true, true, true, false, false, true, true, false, false, true, true, false, false, true, true, false, false, false]
abbrev impl_commandBytes.b15 : Array Bool := #[true, true, true, true, true, true, true, true, true, true, true, false, true, true, false, false, true, true, false, false, true, true, false, false, false]
abbrev impl_commandBytes.b16 : Array Bool := #[true, true, true, true, true, true, true, true, true, true, true, true, true, true, false, false, true, true, false, false, true, true, false, false, false]
abbrev impl_commandBytes.b17 : Array Bool := #[true, true, true, true, true, true, true, true, true, true, true, true, true, true, true, false, true, true, false, false, true, true, false, false, false]
abbrev impl_commandBytes.b18 : Array Bool := #[true, true, true, true, true, true, true, true, true, true, true, true, true, true, true, true, true, true, false, false, true, true, false, false, false]
abbrev impl_commandBytes.b19 : Array Bool := #[true, true, true, true, true, true, true, true, true, true, true, true, true, true, true, true, true, true, true, false, true, true, false, false, false]
def impl_commandBytes.f (k : Nat) (a0_0 : Int) (a0_1 : Int) (a0_2 : Int) (a0_3 : ByteArray) (a0_4 : ByteArray) (a0_5 : ByteArray) (a0_6 : Int) : Option (ByteArray) := (impl_putNums.f k (([a0_0, a0_1, a0_2] : List Int))).bind fun t105 => ((impl_putText.f k a0_3).bind fun t106 => (if t105.size + t106.size ≤ 9223372036854775807 then ((impl_putText.f k a0_4).bind fun t107 => (if (t105 ++ t106).size + t107.size ≤ 9223372036854775807 then ((impl_putText.f k a0_5).bind fun t108 => (if ((t105 ++ t106) ++ t107).size + t108.size ≤ 9223372036854775807 then ((impl_putNum.f k a0_6).bind fun t109 => (if (((t105 ++ t106) ++ t107) ++ t108).size + t109.size ≤ 9223372036854775807 then (some ((((t105 ++ t106) ++ t107) ++ t108) ++ t109)) else (none))) else (none))) else (none))) else (none)))
theorem impl_commandBytes.mono : ∀ a0 a1 a2 a3 a4 a5 a6 k, LeO (impl_commandBytes.f k a0 a1 a2 a3 a4 a5 a6) (impl_commandBytes.f (k + 1) a0 a1 a2 a3 a4 a5 a6) := by
  intro a0 a1 a2 a3 a4 a5 a6 k
  unfold impl_commandBytes.f
  repeat' first
      | (with_reducible exact impl_putNum.mono _ _)
      | (with_reducible exact impl_putNums.mono _ _)
      | (with_reducible exact impl_putText.mono _ _)
      | (with_reducible exact LeO.refl _)
      | (with_reducible exact LeO.none _)
      | (with_reducible refine LeO.ite ?_ ?_)
      | (with_reducible refine LeO.bind ?_ (fun _ => ?_))
      | exact impl_putNum.mono _ _
      | exact impl_putNums.mono _ _
      | exact impl_putText.mono _ _
      | exact LeO.none _
      | refine LeO.ite ?_ ?_
      | refine LeO.bind ?_ (fun _ => ?_)
def impl_commandBytes.T1 : Bool × List (List Nat × List Nat) := (true, [([], []), ([0], [0]), ([], []), ([2], [2]), ([], []), ([4], [4]), ([1, 3, 5], [1, 3, 5]), ([6], [6]), ([], []), ([8], [8]), ([9, 7], [9]), ([7, 10], [7, 10]), ([], []), ([12], [12]), ([13, 10], [13]), ([11, 14], [11, 14]), ([], []), ([16], [16]), ([17, 14], [17]), ([15, 18], [15, 18]), ([], []), ([20], [20]), ([21, 18], [21]), ([19, 22], [19, 22]), ([23, 22, 0, 1, 2, 3, 4, 5, 6, 7, 8, 9, 10, 11, 12, 13, 14, 15, 16, 17, 18, 19, 20, 21, 22, 23], [23])])
def impl_commandBytes.B1 : List Nat := [0, 1, 0, 4, 0, 16, 63, 127, 0, 256, 1023, 2047, 0, 4096, 14335, 32767, 0, 65536, 227327, 524287, 0, 1048576, 3635199, 8388607, 16777215]
theorem impl_commandBytes.tab1 : rtab .any (opsOf Tryd.f18 1) = impl_commandBytes.T1 := by kernel_rfl
theorem impl_commandBytes.bits1 : waitsOk impl_commandBytes.T1.2 impl_commandBytes.B1 = true := by kernel_rfl
set_option maxHeartbeats 60000000 in
set_option maxRecDepth 100000 in
theorem impl_commandBytes.calls (k : Nat) (a0_0 : Int) (a0_1 : Int) (a0_2 : Int) (a0_3 : ByteArray) (a0_4 : ByteArray) (a0_5 : ByteArray) (a0_6 : Int) (r : ByteArray) (w : World) (h : impl_commandBytes.f k a0_0 a0_1 a0_2 a0_3 a0_4 a0_5 a0_6 = some r) :
    Calls Tryd.prog 18 #[.agg #[.int .i64 a0_0, .int .i64 a0_1, .int .i64 a0_2, .string a0_3, .string a0_4, .string a0_5, .int .i64 a0_6]] w fun e w' => e = .returned (.string r) ∧ Below w.heap.size w w' := by
 have hu24 := Tryd.underlying24
 have HB := AM (Below.refl w.heap.size w)
 have H : ((impl_putNums.f k (([a0_0, a0_1, a0_2] : List Int))).bind fun t105 => ((impl_putText.f k a0_3).bind fun t106 => (if t105.size + t106.size ≤ 9223372036854775807 then ((impl_putText.f k a0_4).bind fun t107 => (if (t105 ++ t106).size + t107.size ≤ 9223372036854775807 then ((impl_putText.f k a0_5).bind fun t108 => (if ((t105 ++ t106) ++ t107).size + t108.size ≤ 9223372036854775807 then ((impl_putNum.f k a0_6).bind fun t109 => (if (((t105 ++ t106) ++ t107) ++ t108).size + t109.size ≤ 9223372036854775807 then (some ((((t105 ++ t106) ++ t107) ++ t108) ++ t109)) else (none))) else (none))) else (none))) else (none)))) = some r := h
 clear h
 obtain ⟨y102, hy102⟩ : ∃ y_ : List Int, y_ = (([a0_0, a0_1, a0_2] : List Int)) := ⟨_, rfl⟩
 replace H : ((impl_putNums.f k y102).bind fun t105 => ((impl_putText.f k a0_3).bind fun t106 => (if t105.size + t106.size ≤ 9223372036854775807 then ((impl_putText.f k a0_4).bind fun t107 => (if (t105 ++ t106).size + t107.size ≤ 9223372036854775807 then ((impl_putText.f k a0_5).bind fun t108 => (if ((t105 ++ t106) ++ t107).size + t108.size ≤ 9223372036854775807 then ((impl_putNum.f k a0_6).bind fun t109 => (if (((t105 ++ t106) ++ t107) ++ t108).size + t109.size ≤ 9223372036854775807 then (some ((((t105 ++ t106) ++ t107) ++ t108) ++ t109)) else (none))) else (none))) else (none))) else (none)))) = some r := by first | (rw [hy102]; with_reducible exact H) | (have H2_ := (Option.bind_some _ _).symm.trans H; rw [hy102]; with_reducible exact H2_) | (have H2_ := (Option.bind_some _ _).symm.trans H; with_reducible exact H2_) | with_reducible exact H | (rw [hy102]; exact H) | exact H
 have Ny102 := AM hy102
 clear hy102
 replace H := Option.bind_eq_some_iff.mp H
 obtain ⟨t105, A20, H⟩ := H
 replace H : ((impl_putText.f k a0_3).bind fun t106 => (if t105.size + t106.size ≤ 9223372036854775807 then ((impl_putText.f k a0_4).bind fun t107 => (if (t105 ++ t106).size + t107.size ≤ 9223372036854775807 then ((impl_putText.f k a0_5).bind fun t108 => (if ((t105 ++ t106) ++ t107).size + t108.size ≤ 9223372036854775807 then ((impl_putNum.f k a0_6).bind fun t109 => (if (((t105 ++ t106) ++ t107) ++ t108).size + t109.size ≤ 9223372036854775807 then (some ((((t105 ++ t106) ++ t107) ++ t108) ++ t109)) else (none))) else (none))) else (none))) else (none))) = some r := H
 have A2 := AM A20
 clear A20
 replace H := Option.bind_eq_some_iff.mp H
 obtain ⟨t106, A30, H⟩ := H
 replace H : (if t105.size + t106.size ≤ 9223372036854775807 then ((impl_putText.f k a0_4).bind fun t107 => (if (t105 ++ t106).size + t107.size ≤ 9223372036854775807 then ((impl_putText.f k a0_5).bind fun t108 => (if ((t105 ++ t106) ++ t107).size + t108.size ≤ 9223372036854775807 then ((impl_putNum.f k a0_6).bind fun t109 => (if (((t105 ++ t106) ++ t107) ++ t108).size + t109.size ≤ 9223372036854775807 then (some ((((t105 ++ t106) ++ t107) ++ t108) ++ t109)) else (none))) else (none))) else (none))) else (none)) = some r := H
 have A3 := AM A30
 clear A30
 by_cases c4 : t105.size + t106.size ≤ 9223372036854775807
 ·
  rw [if_pos c4] at H
  have c4b0 := eq_true c4
  have c4b1 : decide (t105.size + t106.size ≤ 9223372036854775807) = true := decide_eq_true c4
  try have c4b2 : (9223372036854775807 < t105.size + t106.size) = False := eq_false (Nat.not_lt.2 c4)
  replace H := Option.bind_eq_some_iff.mp H
  obtain ⟨t107, A50, H⟩ := H
  replace H : (if (t105 ++ t106).size + t107.size ≤ 9223372036854775807 then ((impl_putText.f k a0_5).bind fun t108 => (if ((t105 ++ t106) ++ t107).size + t108.size ≤ 9223372036854775807 then ((impl_putNum.f k a0_6).bind fun t109 => (if (((t105 ++ t106) ++ t107) ++ t108).size + t109.size ≤ 9223372036854775807 then (some ((((t105 ++ t106) ++ t107) ++ t108) ++ t109)) else (none))) else (none))) else (none)) = some r := H
  have A5 := AM A50
  clear A50
  by_cases c6 : (t105 ++ t106).size + t107.size ≤ 9223372036854775807
  ·
   rw [if_pos c6] at H
   have c6b0 := eq_true c6
   have c6b1 : decide ((t105 ++ t106).size + t107.size ≤ 9223372036854775807) = true := decide_eq_true c6
   try have c6b2 : (9223372036854775807 < (t105 ++ t106).size + t107.size) = False := eq_false (Nat.not_lt.2 c6)
   replace H := Option.bind_eq_some_iff.mp H
   obtain ⟨t108, A70, H⟩ := H
   replace H : (if ((t105 ++ t106) ++ t107).size + t108.size ≤ 9223372036854775807 then ((impl_putNum.f k a0_6).bind fun t109 => (if (((t105 ++ t106) ++ t107) ++ t108).size + t109.size ≤ 9223372036854775807 then (some ((((t105 ++ t106) ++ t107) ++ t108) ++ t109)) else (none))) else (none)) = some r := H
   have A7 := AM A70
   clear A70
   by_cases c8 : ((t105 ++ t106) ++ t107).size + t108.size ≤ 9223372036854775807
   ·
    rw [if_pos c8] at H
    have c8b0 := eq_true c8
    have c8b1 : decide (((t105 ++ t106) ++ t107).size + t108.size ≤ 9223372036854775807) = true := decide_eq_true c8
    try have c8b2 : (9223372036854775807 < ((t105 ++ t106) ++ t107).size + t108.size) = False := eq_false (Nat.not_lt.2 c8)
    replace H := Option.bind_eq_some_iff.mp H
    obtain ⟨t109, A90, H⟩ := H
    replace H : (if (((t105 ++ t106) ++ t107) ++ t108).size + t109.size ≤ 9223372036854775807 then (some ((((t105 ++ t106) ++ t107) ++ t108) ++ t109)) else (none)) = some r := H
    have A9 := AM A90
    clear A90
    by_cases c10 : (((t105 ++ t106) ++ t107) ++ t108).size + t109.size ≤ 9223372036854775807
    ·
     rw [if_pos c10] at H
     have c10b0 := eq_true c10
     have c10b1 : decide ((((t105 ++ t106) ++ t107) ++ t108).size + t109.size ≤ 9223372036854775807) = true := decide_eq_true c10
     try have c10b2 : (9223372036854775807 < (((t105 ++ t106) ++ t107) ++ t108).size + t109.size) = False := eq_false (Nat.not_lt.2 c10)
     obtain rfl := Option.some.inj H
     go_enter Tryd.func18, Tryd.ntmps18
     try go_wp2_with (first | ((with_reducible refine gate_dst (N := 1) rfl ?_); refine box_event (by rfl) (N := 1) (by rfl) (cs := #[.int .i64 a0_0, .int .i64 a0_1, .int .i64 a0_2, .string a0_3, .string a0_4, .string a0_5, .int .i64 a0_6]) (t := 24) (by first | (go_simp; done) | (go_simp; rfl)) ?_; intro gb101 hg w11 hbox hb; have _ := AM (below_step (bX HB.out) hb); have _ := AM (hbox); have n2_ := AM ((by rw [hg]; exact (bZ (bX HB.out)) : w.heap.size ≤ gb101)); clear HB; rename_i HB BK101; have GW101 := n2_; have GE101 := n2_; clear n2_; clear hb hbox hg))
     have _ := AM (kD BK101.out)
     have _ := AM (bD HB.out)
     clear BK101 HB
     rename_i BK101 HB
     refine start_ (n := 25) (S := fun w' => w'.cell? ⟨gb101, 0, none⟩ = some (.int .i64 a0_0) ∧ w'.cell? ⟨gb101, 1, none⟩ = some (.int .i64 a0_1) ∧ w'.cell? ⟨gb101, 2, none⟩ = some (.int .i64 a0_2) ∧ w'.cell? ⟨gb101, 3, none⟩ = some (.string a0_3) ∧ w'.cell? ⟨gb101, 4, none⟩ = some (.string a0_4) ∧ w'.cell? ⟨gb101, 5, none⟩ = some (.string a0_5) ∧ w'.cell? ⟨gb101, 6, none⟩ = some (.int .i64 a0_6)) (ds := []) (upTo 0 25) (by kernel_rfl) rfl rfl ⟨(kC BK101.out 0).trans rfl, (kC BK101.out 1).trans rfl, (kC BK101.out 2).trans rfl, (kC BK101.out 3).trans rfl, (kC BK101.out 4).trans rfl, (kC BK101.out 5).trans rfl, (kC BK101.out 6).trans rfl⟩ (fun hHeld => ?_); refine with_tabW impl_commandBytes.tab1 impl_commandBytes.bits1 (fun HT_ HW_ => ?_)
     generalize w11.drew = w12 at BK101 HB hHeld ⊢
     refine pure_ (i := 0) (N := some 3) (v := ?_) (a' := ?_) (upTo 1 25) rfl rfl (any_of HT_.out (by kernel_rfl)) (fun _ _ _ h => h) (Or.inl ⟨by rfl, ?_⟩) ?_ ?_
     rotate_left
     ·
      intro w'
      first
      | (go_simp; with_reducible rfl)
      | (simp only [ByteArray.size_append] at *; go_simp; with_reducible rfl)
     rotate_left
     ·
      simp only [Act.put, sA, sB, sC, i64_w, i32_w]
      rfl
     refine pure_ (i := 2) (N := some 5) (v := ?_) (a' := ?_) impl_commandBytes.b0 rfl rfl (any_of HT_.out (by kernel_rfl)) (fun _ _ _ h => h) (Or.inl ⟨by rfl, ?_⟩) ?_ ?_
     rotate_left
     ·
      intro w'
      first
      | (go_simp; with_reducible rfl)
      | (simp only [ByteArray.size_append] at *; go_simp; with_reducible rfl)
     rotate_left
     ·
      simp only [Act.put, sA, sB, sC, i64_w, i32_w]
      rfl
     refine pure_ (i := 4) (N := some 7) (v := ?_) (a' := ?_) impl_commandBytes.b1 rfl rfl (any_of HT_.out (by kernel_rfl)) (fun _ _ _ h => h) (Or.inl ⟨by rfl, ?_⟩) ?_ ?_
     rotate_left
     ·
      intro w'
      first
      | (go_simp; with_reducible rfl)
      | (simp only [ByteArray.size_append] at *; go_simp; with_reducible rfl)
     rotate_left
     ·
      simp only [Act.put, sA, sB, sC, i64_w, i32_w]
      rfl
     refine pure_ (i := 8) (N := some 11) (v := ?_) (a' := ?_) impl_commandBytes.b2 rfl rfl (any_of HT_.out (by kernel_rfl)) (fun _ _ _ h => h) (Or.inl ⟨by rfl, ?_⟩) ?_ ?_
     rotate_left
     ·
      intro w'
      first
      | (go_simp; with_reducible rfl)
      | (simp only [ByteArray.size_append] at *; go_simp; with_reducible rfl)
     rotate_left
     ·
      simp only [Act.put, sA, sB, sC, i64_w, i32_w]
      rfl
     refine pure_ (i := 12) (N := some 15) (v := ?_) (a' := ?_) impl_commandBytes.b3 rfl rfl (any_of HT_.out (by kernel_rfl)) (fun _ _ _ h => h) (Or.inl ⟨by rfl, ?_⟩) ?_ ?_
     rotate_left
     ·
      intro w'
      first
      | (go_simp; with_reducible rfl)
      | (simp only [ByteArray.size_append] at *; go_simp; with_reducible rfl)
     rotate_left
     ·
      simp only [Act.put, sA, sB, sC, i64_w, i32_w]
      rfl
     refine pure_ (i := 16) (N := some 19) (v := ?_) (a' := ?_) impl_commandBytes.b4 rfl rfl (any_of HT_.out (by kernel_rfl)) (fun _ _ _ h => h) (Or.inl ⟨by rfl, ?_⟩) ?_ ?_
     rotate_left
     ·
      intro w'
      first
      | (go_simp; with_reducible rfl)
      | (simp only [ByteArray.size_append] at *; go_simp; with_reducible rfl)
     rotate_left
     ·
      simp only [Act.put, sA, sB, sC, i64_w, i32_w]
      rfl
     refine pure_ (i := 20) (N := some 23) (v := ?_) (a' := ?_) impl_commandBytes.b5 rfl rfl (any_of HT_.out (by kernel_rfl)) (fun _ _ _ h => h) (Or.inl ⟨by rfl, ?_⟩) ?_ ?_
     rotate_left
     ·
      intro w'
      first
      | (go_simp; with_reducible rfl)
      | (simp only [ByteArray.size_append] at *; go_simp; with_reducible rfl)
     rotate_left
     ·
      simp only [Act.put, sA, sB, sC, i64_w, i32_w]
      rfl
     refine pT2 1 4 impl_commandBytes.b6 ?_ hHeld
     refine pT2 3 6 impl_commandBytes.b7 ?_ hHeld
     refine pT2 5 8 impl_commandBytes.b8 ?_ hHeld
     refine pT2 9 12 impl_commandBytes.b9 ?_ hHeld
     refine pT2 13 16 impl_commandBytes.b10 ?_ hHeld
     refine pT2 17 20 impl_commandBytes.b11 ?_ hHeld
     refine pT2 21 24 impl_commandBytes.b12 ?_ hHeld
     refine one_ (i := 6) (N := some 9) impl_commandBytes.b13 rfl rfl (one_of HT_.out (by kernel_rfl)) (by decide) (fun K hK => ?_)
     refine Kd.R_lit_step (Kd.int .i64) _ 2 ?hg (N := 9) ?hd (xs := ([a0_0, a0_1, a0_2] : List Int)) (inner := [.int .i64 a0_0, .int .i64 a0_1, .int .i64 a0_2]) (ok := fun _ => True) (okp := fun _ => True) ?hr ?hp (fun _ hk => hk) trivial (Below.refl _ _) (Nat.le_refl _) (by simp) ?_; (case hd => rfl); (case hg => rfl); (case hr => first | (go_simp; done) | (go_simp; rfl)); (case hp => exact (Reps.one (show Kd.M (Kd.int .i64) _ _ _ a0_0 [.int .i64 a0_0] from rfl) (Reps.one (show Kd.M (Kd.int .i64) _ _ _ a0_1 [.int .i64 a0_1] from rfl) (Reps.one (show Kd.M (Kd.int .i64) _ _ _ a0_2 [.int .i64 a0_2] from rfl) (Reps.none _ _)))))
     intro v103 w13 ho14 hb hg_ hnew_
     clear hg_ hnew_
     (first | rw [← Ny102.out] at ho14 | (simp only [Int.reduceToNat] at ho14; rw [← Ny102.out] at ho14))
     have _ := AM (Kd.R_lower ho14 (bZ (bX HB.out)))
     have _ := AM (nB BK101.out hb)
     have _ := AM (below_step (bX HB.out) hb)
     clear BK101 HB
     rename_i HO104 BK101 HB
     clear hb ho14
     obtain ⟨Ao15, co15, eo15⟩ := Kd.R_slice HO104.out
     (first | subst eo15 | (injection eo15 with f1_ f2_ f3_; have f4_ := f1_.symm; have f5_ := f3_.symm; clear f1_ f2_ f3_; subst f4_; subst f5_))
     refine hK.out _ _ (q7 BK101.out) (fun hHeld => ?_)
     clear hK K
     refine norm_ (a' := ?_) ?_ ?_
     rotate_left
     ·
      show Act.put _ (some 9) _ = _
      simp only [Act.put, sA, sB, sC, i64_w, i32_w]
      rfl
     refine one_ (i := 7) (N := some 10) impl_commandBytes.b14 rfl rfl (one_of HT_.out (by kernel_rfl)) (by decide) (fun K hK => ?_)
     refine goes_ Tryd.func35 (by kernel_rfl) rfl #[.slice Ao15 y102.length co15] (by rfl) rfl rfl (by (try simp only [mA, mB, mC]); first | done | rfl | (simp only [mD, mE]; rfl)) ?_
     with_reducible refine (impl_putNums.calls k _ _ y102 t105 _ ?side1 ?side2 A2.out).mono ?_
     (case side1 => repeat (first | exact (Kd.R_reads' HO104.out).2.2 | (with_reducible first | apply cA | apply cN | apply cD)))
     (case side2 => exact (Kd.R_reads' HO104.out).2.1)
     rintro e w16 ⟨rfl, hb⟩
     refine ⟨_, rfl, ?_⟩
     have _ := AM (Kd.R_below (rX HO104.out) hb)
     have _ := AM (nB BK101.out hb)
     have _ := AM (below_step (bX HB.out) hb)
     clear HO104 BK101 HB
     rename_i HO104 BK101 HB
     (try clear hb)
     (try clear hk)
     refine hK.out _ _ (q7 BK101.out) (fun hHeld => ?_)
     clear hK K
     refine norm_ (a' := ?_) ?_ ?_
     rotate_left
     ·
      show Act.put _ (some 10) _ = _
      simp only [Act.put, sA, sB, sC, i64_w, i32_w]
      rfl
     refine one_ (i := 10) (N := some 13) impl_commandBytes.b15 rfl rfl (one_of HT_.out (by kernel_rfl)) (by decide) (fun K hK => ?_)
     refine goes_ Tryd.func36 (by kernel_rfl) rfl #[.string a0_3] (by rfl) rfl rfl (by (try simp only [mA, mB, mC]); first | done | rfl | (simp only [mD, mE]; rfl)) ?_
     with_reducible refine (impl_putText.calls k a0_3 t106 _ A3.out).mono ?_
     rintro e w17 ⟨rfl, hb⟩
     refine ⟨_, rfl, ?_⟩
     have _ := AM (Kd.R_below (rX HO104.out) hb)
     have _ := AM (nB BK101.out hb)
     have _ := AM (below_step (bX HB.out) hb)
     clear HO104 BK101 HB
     rename_i HO104 BK101 HB
     (try clear hb)
     (try clear hk)
     refine hK.out _ _ (q7 BK101.out) (fun hHeld => ?_)
     clear hK K
     refine norm_ (a' := ?_) ?_ ?_
     rotate_left
     ·
      show Act.put _ (some 13) _ = _
      simp only [Act.put, sA, sB, sC, i64_w, i32_w]
      rfl
     refine pure_ (i := 11) (N := some 14) (v := ?_) (a' := ?_) impl_commandBytes.b16 rfl rfl (any_of HT_.out (by kernel_rfl)) (fun _ _ _ h => h) (Or.inl ⟨by rfl, ?_⟩) ?_ ?_
     rotate_left
     ·
      intro w'
      first
      | (go_simp; with_reducible rfl)
      | (simp only [ByteArray.size_append] at *; go_simp; with_reducible rfl)
     rotate_left
     ·
      simp only [Act.put, sA, sB, sC, i64_w, i32_w]
      rfl
     refine one_ (i := 14) (N := some 17) impl_commandBytes.b17 rfl rfl (one_of HT_.out (by kernel_rfl)) (by decide) (fun K hK => ?_)
     refine goes_ Tryd.func36 (by kernel_rfl) rfl #[.string a0_4] (by rfl) rfl rfl (by (try simp only [mA, mB, mC]); first | done | rfl | (simp only [mD, mE]; rfl)) ?_
     with_reducible refine (impl_putText.calls k a0_4 t107 _ A5.out).mono ?_
     rintro e w18 ⟨rfl, hb⟩
     refine ⟨_, rfl, ?_⟩
     have _ := AM (Kd.R_below (rX HO104.out) hb)
     have _ := AM (nB BK101.out hb)
     have _ := AM (below_step (bX HB.out) hb)
     clear HO104 BK101 HB
     rename_i HO104 BK101 HB
     (try clear hb)
     (try clear hk)
     refine hK.out _ _ (q7 BK101.out) (fun hHeld => ?_)
     clear hK K
     refine norm_ (a' := ?_) ?_ ?_
     rotate_left
     ·
      show Act.put _ (some 17) _ = _
      simp only [Act.put, sA, sB, sC, i64_w, i32_w]
      rfl
     refine pure_ (i := 15) (N := some 18) (v := ?_) (a' := ?_) impl_commandBytes.b18 rfl rfl (any_of HT_.out (by kernel_rfl)) (fun _ _ _ h => h) (Or.inl ⟨by rfl, ?_⟩) ?_ ?_
     rotate_left
     ·
      intro w'
      first
      | (go_simp; with_reducible rfl)
      | (simp only [ByteArray.size_append] at *; go_simp; with_reducible rfl)
     rotate_left
     ·
      simp only [Act.put, sA, sB, sC, i64_w, i32_w]
      rfl
     refine one_ (i := 18) (N := some 21) impl_commandBytes.b19 rfl rfl (one_of HT_.out (by kernel_rfl)) (by decide) (fun K hK => ?_)
     refine goes_ Tryd.func36 (by kernel_rfl) rfl #[.string a0_5] (by rfl) rfl rfl (by (try simp only [mA, mB, mC]); first | done | rfl | (simp only [mD, mE]; rfl)) ?_
     with_reducible refine (impl_putText.calls k a0_5 t108 _ A7.out).mono ?_
     rintro e w19 ⟨rfl, hb⟩
     refine ⟨_, rfl, ?_⟩
     have _ := AM (Kd.R_below (rX HO104.out) hb)
     have _ := AM (nB BK101.out hb)
     have _ := AM (below_step (bX HB.out) hb)
     clear HO104 BK101 HB
     rename_i HO104 BK101 HB
     (try clear hb)
     (try clear hk)
     refine hK.out _ _ (q7 BK101.out) (fun hHeld => ?_)
     clear hK K
     refine norm_ (a' := ?_) ?_ ?_
     rotate_left
     ·
      show Act.put _ (some 21) _ = _
      simp only [Act.put, sA, sB, sC, i64_w, i32_w]
      rfl
     refine pure_ (i := 19) (N := some 22) (v := ?_) (a' := ?_) (upTo 22 25) rfl rfl (any_of HT_.out (by kernel_rfl)) (fun _ _ _ h => h) (Or.inl ⟨by rfl, ?_⟩) ?_ ?_
     rotate_left
     ·
      intro w'
      first
      | (go_simp; with_reducible rfl)
      | (simp only [ByteArray.size_append] at *; go_simp; with_reducible rfl)
     rotate_left
     ·
      simp only [Act.put, sA, sB, sC, i64_w, i32_w]
      rfl
     refine one_ (i := 22) (N := some 25) (upTo 23 25) rfl rfl (one_of HT_.out (by kernel_rfl)) (by decide) (fun K hK => ?_)
     refine goes_ Tryd.func37 (by kernel_rfl) rfl #[.int .i64 a0_6] (by rfl) rfl rfl (by (try simp only [mA, mB, mC]); first | done | rfl | (simp only [mD, mE]; rfl)) ?_
     with_reducible refine (impl_putNum.calls k a0_6 t109 _ A9.out).mono ?_
     rintro e w20 ⟨rfl, hb⟩
     refine ⟨_, rfl, ?_⟩
     have _ := AM (Kd.R_below (rX HO104.out) hb)
     have _ := AM (nB BK101.out hb)
     have _ := AM (below_step (bX HB.out) hb)
     clear HO104 BK101 HB
     rename_i HO104 BK101 HB
     (try clear hb)
     (try clear hk)
     refine hK.out _ _ (q7 BK101.out) (fun hHeld => ?_)
     clear hK K
     refine norm_ (a' := ?_) ?_ ?_
     rotate_left
     ·
      show Act.put _ (some 25) _ = _
      simp only [Act.put, sA, sB, sC, i64_w, i32_w]
      rfl
     refine pure_ (i := 23) (N := some 26) (v := ?_) (a' := ?_) (upTo 24 25) rfl rfl (any_of HT_.out (by kernel_rfl)) (fun _ _ _ h => h) (Or.inl ⟨by rfl, ?_⟩) ?_ ?_
     rotate_left
     ·
      intro w'
      first
      | (go_simp; with_reducible rfl)
      | (simp only [ByteArray.size_append] at *; go_simp; with_reducible rfl)
     rotate_left
     ·
      simp only [Act.put, sA, sB, sC, i64_w, i32_w]
      rfl
     refine pure_ (i := 24) (N := some 2) (v := ?_) (a' := ?_) (upTo 25 25) rfl rfl (any_of HT_.out (by kernel_rfl)) (fun _ _ _ h => h) (Or.inl ⟨by rfl, ?_⟩) ?_ ?_
     rotate_left
     ·
      intro w'
      first
      | (go_simp; with_reducible rfl)
      | (simp only [ByteArray.size_append] at *; go_simp; with_reducible rfl)
     rotate_left
     ·
      simp only [Act.put, sA, sB, sC, i64_w, i32_w]
      rfl
     refine done_ (done_of HT_.out (by kernel_rfl)) ?_
     try go_wp2
     go_ret
     exact ⟨by first | rfl | (simp [*, errW_none, errW_some] <;> rfl), bX HB.out⟩
    rw [if_neg c10] at H
    exact absurd H (by simp)
   rw [if_neg c8] at H
   exact absurd H (by simp)
  rw [if_neg c6] at H
  exact absurd H (by simp)
 rw [if_neg c4] at H
 exact absurd H (by simp)

/-! ### impl_CommandBytes: function 5 -/

def impl_CommandBytes.f (k : Nat) (a0_0 : Int) (a0_1 : Int) (a0_2 : Int) (a0_3 : ByteArray) (a0_4 : ByteArray) (a0_5 : ByteArray) (a0_6 : Int) : Option (ByteArray) := (impl_isCommand.f k a0_0 a0_1 a0_2 a0_3 a0_4 a0_5 a0_6).bind fun t102 => (if t102 = true then ((impl_commandBytes.f k a0_0 a0_1 a0_2 a0_3 a0_4 a0_5 a0_6).bind fun t103 => (some t103)) else (some (⟨#[]⟩ : ByteArray)))
theorem impl_CommandBytes.mono : ∀ a0 a1 a2 a3 a4 a5 a6 k, LeO (impl_CommandBytes.f k a0 a1 a2 a3 a4 a5 a6) (impl_CommandBytes.f (k + 1) a0 a1 a2 a3 a4 a5 a6) := by
  intro a0 a1 a2 a3 a4 a5 a6 k
  unfold impl_CommandBytes.f
  repeat' first
      | (with_reducible exact impl_commandBytes.mono _ _ _ _ _ _ _ _)
      | (with_reducible exact impl_isCommand.mono _ _ _ _ _ _ _ _)
      | (with_reducible exact LeO.refl _)
      | (with_reducible exact LeO.none _)
      | (with_reducible refine LeO.ite ?_ ?_)
      | (with_reducible refine LeO.bind ?_ (fun _ => ?_))
      | exact impl_commandBytes.mono _ _ _ _ _ _ _ _
      | exact impl_isCommand.mono _ _ _ _ _ _ _ _
      | exact LeO.none _
      | refine LeO.ite ?_ ?_
      | refine LeO.bind ?_ (fun _ => ?_)
set_option maxHeartbeats 60000000 in
set_option maxRecDepth 100000 in
theorem impl_CommandBytes.calls (k : Nat) (a0_0 : Int) (a0_1 : Int) (a0_2 : Int) (a0_3 : ByteArray) (a0_4 : ByteArray) (a0_5 : ByteArray) (a0_6 : Int) (r : ByteArray) (w : World) (h : impl_CommandBytes.f k a0_0 a0_1 a0_2 a0_3 a0_4 a0_5 a0_6 = some r) :
    Calls Tryd.prog 5 #[.agg #[.int .i64 a0_0, .int .i64 a0_1, .int .i64 a0_2, .string a0_3, .string a0_4, .string a0_5, .int .i64 a0_6]] w fun e w' => e = .returned (.string r) ∧ Below w.heap.size w w' := by
 have hu24 := Tryd.underlying24
 have HB := AM (Below.refl w.heap.size w)
 have H : ((impl_isCommand.f k a0_0 a0_1 a0_2 a0_3 a0_4 a0_5 a0_6).bind fun t102 => (if t102 = true then ((impl_commandBytes.f k a0_0 a0_1 a0_2 a0_3 a0_4 a0_5 a0_6).bind fun t103 => (some t103)) else (some (⟨#[]⟩ : ByteArray)))) = some r := h
 clear h
 replace H := Option.bind_eq_some_iff.mp H
 obtain ⟨t102, A20, H⟩ := H
 replace H : (if t102 = true then ((impl_commandBytes.f k a0_0 a0_1 a0_2 a0_3 a0_4 a0_5 a0_6).bind fun t103 => (some t103)) else (some (⟨#[]⟩ : ByteArray))) = some r := H
 have A2 := AM A20
 clear A20
 by_cases c3 : t102 = true
 ·
  subst c3
  have H1 : ((impl_commandBytes.f k a0_0 a0_1 a0_2 a0_3 a0_4 a0_5 a0_6).bind fun t103 => (some t103)) = some r := by rw [if_pos rfl] at H; exact H
  clear H
  have H := H1
  clear H1
  replace H := Option.bind_eq_some_iff.mp H
  obtain ⟨t103, A40, H⟩ := H
  replace H : (some t103) = some r := H
  have A4 := AM A40
  clear A40
  obtain rfl := Option.some.inj H
  go_enter Tryd.func5, Tryd.ntmps5
  go_wp2_with (first | ((with_reducible refine gate_dst (N := 1) rfl ?_); refine box_event (by rfl) (N := 1) (by rfl) (cs := #[.int .i64 a0_0, .int .i64 a0_1, .int .i64 a0_2, .string a0_3, .string a0_4, .string a0_5, .int .i64 a0_6]) (t := 24) (by first | (go_simp; done) | (go_simp; rfl)) ?_; intro gb101 hg w5 hbox hb; have _ := AM (below_step (bX HB.out) hb); have _ := AM (hbox); have n2_ := AM ((by rw [hg]; exact (bZ (bX HB.out)) : w.heap.size ≤ gb101)); clear HB; rename_i HB BK101; have GW101 := n2_; have GE101 := n2_; clear n2_; clear hb hbox hg; have hcz6 := q7 BK101.out; have hfz6 := fZ BK101.out) | ((with_reducible refine gate_callee (f := 17) rfl ?_); refine goesL_ (some 4) rfl rfl Tryd.func17 (by kernel_rfl) rfl #[.agg #[.int .i64 a0_0, .int .i64 a0_1, .int .i64 a0_2, .string a0_3, .string a0_4, .string a0_5, .int .i64 a0_6]] rfl (by (try simp only [mA, mB, mC]); first | done | rfl | (simp only [mD, mE]; rfl)) ?_; (with_reducible refine (impl_isCommand.calls k a0_0 a0_1 a0_2 a0_3 a0_4 a0_5 a0_6 true _ A2.out).mono ?_); rintro e w7 ⟨rfl, hb⟩; refine ⟨_, rfl, ?_⟩; have _ := AM (nB BK101.out hb); have _ := AM (below_step (bX HB.out) hb); clear BK101 HB; rename_i BK101 HB; (try clear hb); (try clear hk); have hcz8 := q7 BK101.out; have hfz8 := fZ BK101.out) | ((with_reducible refine gate_callee (f := 18) rfl ?_); refine goesL_ (some 7) rfl rfl Tryd.func18 (by kernel_rfl) rfl #[.agg #[.int .i64 a0_0, .int .i64 a0_1, .int .i64 a0_2, .string a0_3, .string a0_4, .string a0_5, .int .i64 a0_6]] rfl (by (try simp only [mA, mB, mC]); first | done | rfl | (simp only [mD, mE]; rfl)) ?_; (with_reducible refine (impl_commandBytes.calls k a0_0 a0_1 a0_2 a0_3 a0_4 a0_5 a0_6 t103 _ A4.out).mono ?_); rintro e w9 ⟨rfl, hb⟩; refine ⟨_, rfl, ?_⟩; have _ := AM (nB BK101.out hb); have _ := AM (below_step (bX HB.out) hb); clear BK101 HB; rename_i BK101 HB; (try clear hb); (try clear hk)))
  go_ret
  exact ⟨by first | rfl | (simp [*, errW_none, errW_some] <;> rfl), bX HB.out⟩
 replace c3 := Bool.eq_false_iff.mpr c3
 subst c3
 have H1 : (some (⟨#[]⟩ : ByteArray)) = some r := by rw [if_neg (show ¬ (false = true) by decide)] at H; exact H
 clear H
 have H := H1
 clear H1
 obtain rfl := Option.some.inj H
 go_enter Tryd.func5, Tryd.ntmps5
 go_wp2_with (first | ((with_reducible refine gate_dst (N := 1) rfl ?_); refine box_event (by rfl) (N := 1) (by rfl) (cs := #[.int .i64 a0_0, .int .i64 a0_1, .int .i64 a0_2, .string a0_3, .string a0_4, .string a0_5, .int .i64 a0_6]) (t := 24) (by first | (go_simp; done) | (go_simp; rfl)) ?_; intro gb101 hg w10 hbox hb; have _ := AM (below_step (bX HB.out) hb); have _ := AM (hbox); have n2_ := AM ((by rw [hg]; exact (bZ (bX HB.out)) : w.heap.size ≤ gb101)); clear HB; rename_i HB BK101; have GW101 := n2_; have GE101 := n2_; clear n2_; clear hb hbox hg; have hcz11 := q7 BK101.out; have hfz11 := fZ BK101.out) | ((with_reducible refine gate_callee (f := 17) rfl ?_); refine goesL_ (some 4) rfl rfl Tryd.func17 (by kernel_rfl) rfl #[.agg #[.int .i64 a0_0, .int .i64 a0_1, .int .i64 a0_2, .string a0_3, .string a0_4, .string a0_5, .int .i64 a0_6]] rfl (by (try simp only [mA, mB, mC]); first | done | rfl | (simp only [mD, mE]; rfl)) ?_; (with_reducible refine (impl_isCommand.calls k a0_0 a0_1 a0_2 a0_3 a0_4 a0_5 a0_6 false _ A2.out).mono ?_); rintro e w12 ⟨rfl, hb⟩; refine ⟨_, rfl, ?_⟩; have _ := AM (nB BK101.out hb); have _ := AM (below_step (bX HB.out) hb); clear BK101 HB; rename_i BK101 HB; (try clear hb); (try clear hk)))
 go_ret
 exact ⟨by first | rfl | (simp [*, errW_none, errW_some] <;> rfl), bX HB.out⟩

end Go.Proofs.YtbediildfabhnaaDoor.Q
