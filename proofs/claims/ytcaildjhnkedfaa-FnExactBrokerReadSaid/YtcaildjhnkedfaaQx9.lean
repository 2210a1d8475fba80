/- Printed by wip/mp.py: functions as plain Lean functions, and their calls. -/
import Derived.Test.YtcaildjhnkedfaaQx0
import Derived.Test.YtcaildjhnkedfaaQx6
namespace Go.Proofs.Ytcaildjhnkedfaa.Q
open Go.RowKit Go.Proofs.Ytcaildjhnkedfaa.HB Go.Proofs.YtcaildjhnkedfaaW.PrintWords Go.Proofs.YtcaildjhnkedfaaW.PrintLast Go.Proofs.YtcaildjhnkedfaaW.PrintMore
attribute [local go_sem] max2_int min2_int max_two min_two max_three min_three max_four min_four   -- for this text's walks alone
set_option linter.unusedVariables false
set_option linter.unusedSimpArgs false

/-! ### impl_getNum: function 84 -/

mutual
def impl_getNum.l0 : Nat → ByteArray → Int → Int → Int → Option (Int × Int × Int)
  | 0, _, _, _, _ => none
  | k + 1, x0, x1, x7, x8 => if x1 ≥ (wrap64 ((x0.size : Int) - x8)) then (some (0, 0, 4)) else (if 0 ≤ (wrap64 (x1 + x8)) then (if (wrap64 (x1 + x8)) < (x0.size : Int) then (if x8 = 9 then (impl_getNum.j1 k x0 x1 x7 x8 (bt x0 (wrap64 (x1 + x8))) (decide ((bt x0 (wrap64 (x1 + x8))) > 1))) else (impl_getNum.j1 k x0 x1 x7 x8 (bt x0 (wrap64 (x1 + x8))) false)) else (none)) else (none))
def impl_getNum.j1 : Nat → ByteArray → Int → Int → Int → Int → Bool → Option (Int × Int × Int)
  | 0, _, _, _, _, _, _ => none
  | k + 1, x0, x1, x7, x8, x9, x31 => if x31 = true then (some (0, 0, 3)) else (if 0 ≤ (wrap64 (7 * x8)) then (if x9 > 127 then (impl_getNum.l0 k x0 x1 (Go.bits .or .u64 x7 (shl .u64 (IntKind.u64.wrap (Go.bits .and .u8 x9 127)) (wrap64 (7 * x8)))) (wrap64 (x8 + 1))) else (if x9 = 0 then (impl_getNum.j2 k x1 (Go.bits .or .u64 x7 (shl .u64 (IntKind.u64.wrap (Go.bits .and .u8 x9 127)) (wrap64 (7 * x8)))) x8 (decide (x8 > 0))) else (impl_getNum.j2 k x1 (Go.bits .or .u64 x7 (shl .u64 (IntKind.u64.wrap (Go.bits .and .u8 x9 127)) (wrap64 (7 * x8)))) x8 false))) else (none))
def impl_getNum.j2 : Nat → Int → Int → Int → Bool → Option (Int × Int × Int)
  | 0, _, _, _, _ => none
  | k + 1, x1, x7, x8, x47 => if x47 = true then (some (0, 0, 3)) else (if (Go.bits .and .u64 x7 1) = 1 then (some (Go.bits .xor .i64 (-1) (wrap64 (x7 / 2)), wrap64 ((wrap64 (x1 + x8)) + 1), 0)) else (some (wrap64 (x7 / 2), wrap64 ((wrap64 (x1 + x8)) + 1), 0)))
end
def impl_getNum.f (k : Nat) (a0 : ByteArray) (a1 : Int) : Option (Int × Int × Int) := if a1 < 0 then (some (0, 0, 1)) else (impl_getNum.l0 k a0 a1 0 0)
theorem impl_getNum.mono_l : ∀ k, (∀ y0 y1 y2 y3, LeO (impl_getNum.l0 k y0 y1 y2 y3) (impl_getNum.l0 (k + 1) y0 y1 y2 y3)) ∧ (∀ y0 y1 y2 y3 y4 y5, LeO (impl_getNum.j1 k y0 y1 y2 y3 y4 y5) (impl_getNum.j1 (k + 1) y0 y1 y2 y3 y4 y5)) ∧ (∀ y0 y1 y2 y3, LeO (impl_getNum.j2 k y0 y1 y2 y3) (impl_getNum.j2 (k + 1) y0 y1 y2 y3))
  | 0 => ⟨fun _ _ _ _ r h => by simp [impl_getNum.l0] at h, fun _ _ _ _ _ _ r h => by simp [impl_getNum.j1] at h, fun _ _ _ _ r h => by simp [impl_getNum.j2] at h⟩
  | k + 1 => by
    obtain ⟨ih0, ih1, ih2⟩ := impl_getNum.mono_l k; refine ⟨?_, ?_, ?_⟩
    · intro y0 y1 y2 y3
      unfold impl_getNum.l0
      repeat' first | (with_reducible first | exact ih0 _ _ _ _ | exact ih1 _ _ _ _ _ _ | exact ih2 _ _ _ _ | exact oR _ | exact oN _ | refine oI ?_ ?_ | refine oB ?_ fun _ => ?_) | exact ih0 _ _ _ _ | exact ih1 _ _ _ _ _ _ | exact ih2 _ _ _ _ | exact oN _ | refine oI ?_ ?_ | refine oB ?_ fun _ => ?_
    · intro y0 y1 y2 y3 y4 y5
      unfold impl_getNum.j1
      repeat' first | (with_reducible first | exact ih0 _ _ _ _ | exact ih1 _ _ _ _ _ _ | exact ih2 _ _ _ _ | exact oR _ | exact oN _ | refine oI ?_ ?_ | refine oB ?_ fun _ => ?_) | exact ih0 _ _ _ _ | exact ih1 _ _ _ _ _ _ | exact ih2 _ _ _ _ | exact oN _ | refine oI ?_ ?_ | refine oB ?_ fun _ => ?_
    · intro y0 y1 y2 y3
      unfold impl_getNum.j2
      repeat' first | (with_reducible first | exact ih0 _ _ _ _ | exact ih1 _ _ _ _ _ _ | exact ih2 _ _ _ _ | exact oR _ | exact oN _ | refine oI ?_ ?_ | refine oB ?_ fun _ => ?_) | exact ih0 _ _ _ _ | exact ih1 _ _ _ _ _ _ | exact ih2 _ _ _ _ | exact oN _ | refine oI ?_ ?_ | refine oB ?_ fun _ => ?_
theorem impl_getNum.mono : ∀ a0 a1 k, LeO (impl_getNum.f k a0 a1) (impl_getNum.f (k + 1) a0 a1) := by
  intro a0 a1 k; obtain ⟨ih0, ih1, ih2⟩ := impl_getNum.mono_l k; unfold impl_getNum.f
  repeat' first | (with_reducible first | exact ih0 _ _ _ _ | exact ih1 _ _ _ _ _ _ | exact ih2 _ _ _ _ | exact oR _ | exact oN _ | refine oI ?_ ?_ | refine oB ?_ fun _ => ?_) | exact ih0 _ _ _ _ | exact ih1 _ _ _ _ _ _ | exact ih2 _ _ _ _ | exact oN _ | refine oI ?_ ?_ | refine oB ?_ fun _ => ?_
set_option maxHeartbeats 60000000 in
set_option maxRecDepth 100000 in
theorem impl_getNum.calls (k : Nat) (a0 : ByteArray) (a1 : Int) (r1 : Int) (r2 : Int) (r3 : Int) (w : World) (h : impl_getNum.f k a0 a1 = some (r1, r2, r3)) :
    Calls Try.prog 84 #[.string a0, .int .i64 a1] w fun e w' => e = .returned (.tuple #[.int .i64 r1, .int .i64 r2, .int .i64 r3]) ∧ Drawn0 w w' := by
 have H : (if a1 < 0 then (some (0, 0, 1)) else (impl_getNum.l0 k a0 a1 0 0)) = some (r1, r2, r3) := h; clear h; by_cases c3 : a1 < 0
 ·
  rw [if_pos c3] at H; have c3b0 := dY c3; clear c3; simp only [Option.some.injEq, Prod.mk.injEq] at H
  obtain ⟨rfl, rfl, rfl⟩ := H; go_enter Try.func84, Try.ntmps84
  go_wp2
  go_ret3
  exact ⟨by first | rfl | (simp; done) | (simp [*]; done), by repeat (first | exact Drawn0.refl _ | apply Drawn0.step)⟩
 rw [if_neg c3] at H; have c3b0 := dN c3; clear c3; have H' := AM H; clear H; go_enter Try.func84, Try.ntmps84
 go_wp2
 go_loopg [7, 8] k (fun kq v7 v8 w' => ∃ (x7_1 : Int) (x8_1 : Int), v7 = .int .u64 x7_1 ∧ v8 = .int .i64 x8_1 ∧ Aside0 (impl_getNum.l0 kq a0 a1 x7_1 x8_1 = some (r1, r2, r3)) ∧ Aside0 (kq ≤ k) ∧ Drawn0 w w')
 case atStart => exact ⟨(0), (0), (by first | rfl | (simp; done) | (simp [*]; done)), (by first | rfl | (simp; done) | (simp [*]; done)), H', ⟨Nat.le_refl _⟩, by repeat (first | exact Drawn0.refl _ | apply Drawn0.step)⟩
 case round =>
  clear H'; (try clear p2); (try clear c3); (try clear c3b0); obtain ⟨x7_1, x8_1, rfl, rfl, HA, HK1, ⟨m1, rfl⟩⟩ := hrel
  cases gk with
  | zero => exact absurd HA.out (by simp [impl_getNum.l0])
  | succ k1 =>
   have H := HA.out; clear HA; simp only [impl_getNum.l0] at H
   by_cases c4 : a1 ≥ (wrap64 ((a0.size : Int) - x8_1))
   ·
    rw [if_pos c4] at H; have c4b0 : decide ((wrap64 ((a0.size : Int) - x8_1)) ≤ a1) = true := dY c4; clear c4; simp only [Option.some.injEq, Prod.mk.injEq] at H
    obtain ⟨rfl, rfl, rfl⟩ := H; go_wp2
    go_ret3
    exact ⟨by first | rfl | (simp; done) | (simp [*]; done), by repeat (first | exact Drawn0.refl _ | apply Drawn0.step)⟩
   rw [if_neg c4] at H; have c4b0 : decide ((wrap64 ((a0.size : Int) - x8_1)) ≤ a1) = false := dN c4; clear c4; obtain ⟨ji5, hji5⟩ : ∃ j_ : Int, (wrap64 (a1 + x8_1)) = j_ := ⟨_, rfl⟩; replace H : (if 0 ≤ (ji5) then (if (ji5) < (a0.size : Int) then (if x8_1 = 9 then (impl_getNum.j1 k1 a0 a1 x7_1 x8_1 (bt a0 (ji5)) (decide ((bt a0 (ji5)) > 1))) else (impl_getNum.j1 k1 a0 a1 x7_1 x8_1 (bt a0 (ji5)) false)) else (none)) else (none)) = some (r1, r2, r3) := by first | (rw [hji5] at H; exact H) | (simp only [hji5] at H ⊢; exact H)
   have hji5w : (IntKind.i64.wrap (a1 + x8_1)) = ji5 := (i64_w _).trans hji5; by_cases c6 : 0 ≤ (ji5)
   ·
    rw [if_pos c6] at H; have c6b0 := dY c6; clear c6; by_cases c7 : (ji5) < (a0.size : Int)
    ·
     rw [if_pos c7] at H; have c7b0 := dY c7; clear c7; have HC9 := AM H; clear H; have p8 : 0 ≤ ((ji5) : Int) := oD ‹_›; have q8 : (ji5) < (a0.size : Int) := oD ‹_›; have hx8 := bt_at a0 (ji5); replace p8 := eq_true p8; replace q8 := eq_true q8; go_upto_region 9 with (fail)
     go_cut [31] (fun v31 wc => ∃ (kq : Nat) (x31_8 : Bool), v31 = .bool x31_8 ∧ Aside0 (impl_getNum.j1 kq a0 a1 x7_1 x8_1 (bt a0 (ji5)) x31_8 = some (r1, r2, r3)) ∧ Aside0 (kq ≤ k1) ∧ Drawn0 w wc)
     case first =>
      have H := HC9.out; clear HC9; by_cases c10 : x8_1 = 9
      ·
       rw [if_pos c10] at H; have c10b0 : (x8_1 == 9) = true := beq_iff_eq.mpr c10; have c10b1 : (x8_1 != 9) = false := bne_eq_false_iff_eq.mpr c10; clear c10
       (first | rw [c10b0] | (simp only [i64_w, i32_w]; rw [c10b0]) | skip)
       have H' := AM H; clear H; go_wp2
       go_meet
       case rel => exact ⟨_, (decide ((bt a0 (ji5)) > 1)), (by first | rfl | (simp; done) | (simp only [← hji5] <;> (first | rfl | simp)) | (simp [*]; done)), H', ⟨by have := HK1.out; first | omega | exact Nat.le_refl _⟩, by repeat (first | exact Drawn0.refl _ | apply Drawn0.step)⟩
      rw [if_neg c10] at H; have c10b0 : (x8_1 == 9) = false := beq_eq_false_iff_ne.mpr c10; have c10b1 : (x8_1 != 9) = true := bne_iff_ne.mpr c10
      (first | rw [c10b0] | (simp only [i64_w, i32_w]; rw [c10b0]) | skip)
      have H' := AM H; clear H; go_wp2
      go_meet
      case rel => exact ⟨_, (false), (by first | rfl | (simp; done) | (simp [*]; done)), H', ⟨by have := HK1.out; first | omega | exact Nat.le_refl _⟩, by repeat (first | exact Drawn0.refl _ | apply Drawn0.step)⟩
     case rest =>
      clear HC9; (try clear c1); (try clear p2); (try clear c3); (try clear c3b0); (try clear c4); (try clear c4b0); (try clear c6); (try clear c6b0); (try clear p6); (try clear c7); (try clear c7b0); (try clear c8); (try clear p8); (try clear q8); (try clear hx8); (try clear c10); (try clear c10b0); (try clear c10b1); obtain ⟨kq, x31_8, rfl, HA, HJ8, ⟨mc8, rfl⟩⟩ := hcut
      cases kq with
      | zero => exact absurd HA.out (by simp [impl_getNum.j1])
      | succ kj8 =>
       have H := HA.out; clear HA; simp only [impl_getNum.j1] at H
       by_cases c11 : x31_8 = true
       ·
        subst c11; rw [if_pos rfl] at H; simp only [Option.some.injEq, Prod.mk.injEq] at H
        obtain ⟨rfl, rfl, rfl⟩ := H; go_wp2
        go_ret3
        exact ⟨by first | rfl | (simp; done) | (simp only [← hji5] <;> (first | rfl | simp)) | (simp [*]; done), by repeat (first | exact Drawn0.refl _ | apply Drawn0.step)⟩
       replace c11 := oE c11; subst c11; rw [if_neg nft] at H; obtain ⟨ji12, hji12⟩ : ∃ j_ : Int, (wrap64 (7 * x8_1)) = j_ := ⟨_, rfl⟩; replace H : (if 0 ≤ (ji12) then (if (bt a0 (ji5)) > 127 then (impl_getNum.l0 kj8 a0 a1 (Go.bits .or .u64 x7_1 (shl .u64 (IntKind.u64.wrap (Go.bits .and .u8 (bt a0 (ji5)) 127)) (ji12))) (wrap64 (x8_1 + 1))) else (if (bt a0 (ji5)) = 0 then (impl_getNum.j2 kj8 a1 (Go.bits .or .u64 x7_1 (shl .u64 (IntKind.u64.wrap (Go.bits .and .u8 (bt a0 (ji5)) 127)) (ji12))) x8_1 (decide (x8_1 > 0))) else (impl_getNum.j2 kj8 a1 (Go.bits .or .u64 x7_1 (shl .u64 (IntKind.u64.wrap (Go.bits .and .u8 (bt a0 (ji5)) 127)) (ji12))) x8_1 false))) else (none)) = some (r1, r2, r3) := by first | (rw [hji12] at H; exact H) | (simp only [hji12] at H ⊢; exact H)
       have hji12w : (IntKind.i64.wrap (7 * x8_1)) = ji12 := (i64_w _).trans hji12; by_cases c13 : 0 ≤ (ji12)
       ·
        rw [if_pos c13] at H; have c13b0 := eq_true c13; have c13b1 := dY c13; clear c13; obtain ⟨ji14, hji14⟩ : ∃ j_ : Int, (shl .u64 (IntKind.u64.wrap (Go.bits .and .u8 (bt a0 (ji5)) 127)) (ji12)) = j_ := ⟨_, rfl⟩; replace H : (if (bt a0 (ji5)) > 127 then (impl_getNum.l0 kj8 a0 a1 (Go.bits .or .u64 x7_1 (ji14)) (wrap64 (x8_1 + 1))) else (if (bt a0 (ji5)) = 0 then (impl_getNum.j2 kj8 a1 (Go.bits .or .u64 x7_1 (ji14)) x8_1 (decide (x8_1 > 0))) else (impl_getNum.j2 kj8 a1 (Go.bits .or .u64 x7_1 (ji14)) x8_1 false))) = some (r1, r2, r3) := by first | (rw [hji14] at H; exact H) | (simp only [hji14] at H ⊢; exact H)
        have hji14_ : (IntKind.u64.wrap ((IntKind.u64.wrap (Go.bits .and .u8 (bt a0 (ji5)) 127)) * 2 ^ min (ji12).toNat 64)) = ji14 := hji14; have hji14z : (ji12) ≤ 64 → (IntKind.u64.wrap ((IntKind.u64.wrap (Go.bits .and .u8 (bt a0 (ji5)) 127)) * 2 ^ (ji12).toNat)) = ji14 := shl_small hji14; by_cases c15 : (bt a0 (ji5)) > 127
        ·
         rw [if_pos c15] at H; have c15b0 : decide (127 < (bt a0 (ji5))) = true := dY c15; clear c15; have H' := AM H; clear H; go_wp2
         go_roundg kj8
         case measure => have := HK1.out; have := HJ8.out; omega
         case rel => exact ⟨(Go.bits .or .u64 x7_1 (ji14)), (wrap64 (x8_1 + 1)), (by first | rfl | (simp; done) | (simp only [← hji14] <;> (first | rfl | simp)) | (simp [*]; done)), (by first | rfl | (simp; done) | (simp [*]; done)), H', ⟨by have := HK1.out; have := HJ8.out; omega⟩, by repeat (first | exact Drawn0.refl _ | apply Drawn0.step)⟩
        rw [if_neg c15] at H; have c15b0 : decide (127 < (bt a0 (ji5))) = false := dN c15; clear c15; have HC16 := AM H; clear H; go_upto_region 13 with (fail)
        go_cut [47] (fun v47 wc => ∃ (kq : Nat) (x47_15 : Bool), v47 = .bool x47_15 ∧ Aside0 (impl_getNum.j2 kq a1 (Go.bits .or .u64 x7_1 (ji14)) x8_1 x47_15 = some (r1, r2, r3)) ∧ Aside0 (kq ≤ kj8) ∧ Drawn0 w wc)
        case first =>
         have H := HC16.out; clear HC16; by_cases c17 : (bt a0 (ji5)) = 0
         ·
          rw [if_pos c17] at H; have c17b0 : ((bt a0 (ji5)) == 0) = true := beq_iff_eq.mpr c17; have c17b1 : ((bt a0 (ji5)) != 0) = false := bne_eq_false_iff_eq.mpr c17; clear c17
          (first | rw [c17b0] | (simp only [i64_w, i32_w]; rw [c17b0]) | skip)
          have H' := AM H; clear H; go_wp2
          go_meet
          case rel => exact ⟨_, (decide (x8_1 > 0)), (by first | rfl | (simp; done) | (simp [*]; done)), H', ⟨by have := HK1.out; have := HJ8.out; first | omega | exact Nat.le_refl _⟩, by repeat (first | exact Drawn0.refl _ | apply Drawn0.step)⟩
         rw [if_neg c17] at H; have c17b0 : ((bt a0 (ji5)) == 0) = false := beq_eq_false_iff_ne.mpr c17; have c17b1 : ((bt a0 (ji5)) != 0) = true := bne_iff_ne.mpr c17
         (first | rw [c17b0] | (simp only [i64_w, i32_w]; rw [c17b0]) | skip)
         have H' := AM H; clear H; go_wp2
         go_meet
         case rel => exact ⟨_, (false), (by first | rfl | (simp; done) | (simp [*]; done)), H', ⟨by have := HK1.out; have := HJ8.out; first | omega | exact Nat.le_refl _⟩, by repeat (first | exact Drawn0.refl _ | apply Drawn0.step)⟩
        case rest =>
         clear HC16; (try clear c1); (try clear p2); (try clear c3); (try clear c3b0); (try clear c4); (try clear c4b0); (try clear c6); (try clear c6b0); (try clear p6); (try clear c7); (try clear c7b0); (try clear c8); (try clear p8); (try clear q8); (try clear hx8); (try clear c10); (try clear c10b0); (try clear c10b1); (try clear c11); (try clear c13); (try clear c13b0); (try clear c13b1); (try clear c15); (try clear c15b0); (try clear c17); (try clear c17b0); (try clear c17b1); obtain ⟨kq, x47_15, rfl, HA, HJ15, ⟨mc15, rfl⟩⟩ := hcut
         cases kq with
         | zero => exact absurd HA.out (by simp [impl_getNum.j2])
         | succ kj15 =>
          have H := HA.out; clear HA; simp only [impl_getNum.j2] at H
          by_cases c18 : x47_15 = true
          ·
           subst c18; rw [if_pos rfl] at H; simp only [Option.some.injEq, Prod.mk.injEq] at H
           obtain ⟨rfl, rfl, rfl⟩ := H; go_wp2
           go_ret3
           exact ⟨by first | rfl | (simp; done) | (simp only [← hji5, ← hji12, ← hji14] <;> (first | rfl | simp)) | (simp [*]; done), by repeat (first | exact Drawn0.refl _ | apply Drawn0.step)⟩
          replace c18 := oE c18; subst c18; rw [if_neg nft] at H; by_cases c19 : (Go.bits .and .u64 (Go.bits .or .u64 x7_1 (ji14)) 1) = 1
          ·
           rw [if_pos c19] at H; have c19b0 : ((Go.bits .and .u64 (Go.bits .or .u64 x7_1 (ji14)) 1) == 1) = true := beq_iff_eq.mpr c19; have c19b1 : ((Go.bits .and .u64 (Go.bits .or .u64 x7_1 (ji14)) 1) != 1) = false := bne_eq_false_iff_eq.mpr c19; clear c19; simp only [Option.some.injEq, Prod.mk.injEq] at H
           obtain ⟨rfl, rfl, rfl⟩ := H; go_wp2
           go_ret3
           exact ⟨by first | rfl | (simp; done) | (simp only [← hji5, ← hji12, ← hji14] <;> (first | rfl | simp)) | (simp [*]; done), by repeat (first | exact Drawn0.refl _ | apply Drawn0.step)⟩
          rw [if_neg c19] at H; have c19b0 : ((Go.bits .and .u64 (Go.bits .or .u64 x7_1 (ji14)) 1) == 1) = false := beq_eq_false_iff_ne.mpr c19; have c19b1 : ((Go.bits .and .u64 (Go.bits .or .u64 x7_1 (ji14)) 1) != 1) = true := bne_iff_ne.mpr c19; simp only [Option.some.injEq, Prod.mk.injEq] at H
          obtain ⟨rfl, rfl, rfl⟩ := H; go_wp2
          go_ret3
          exact ⟨by first | rfl | (simp; done) | (simp only [← hji5, ← hji12, ← hji14] <;> (first | rfl | simp)) | (simp [*]; done), by repeat (first | exact Drawn0.refl _ | apply Drawn0.step)⟩
       rw [if_neg c13] at H; exact absurd H (by simp)
    rw [if_neg c7] at H; exact absurd H (by simp)
   rw [if_neg c6] at H; exact absurd H (by simp)

/-- A state of type 70 at block g of W; what its slices lead to came in by w0. -/
def IsS70 (w0 W : World) (g : Nat) (f0 : ByteArray) (f1 : Int) (f2 : Bool) : Prop := W.heap[g]? = some (.cells #[.string f0, .int .i64 f1, .bool f2] 70 (0, 0)) ∧ w0.heap.size ≤ g
theorem IsS70.grown {w0 W : World} {g : Nat} {f0 : ByteArray} {f1 : Int} {f2 : Bool} {W1 : World} {row : Option Nat} (h : IsS70 w0 W g f0 f1 f2) (hw : W.grownBy W1 row) (hne : some g ≠ row) : IsS70 w0 W1 g f0 f1 f2 := by
  obtain ⟨hb, hg⟩ := h; exact ⟨blk_grown hb hw hne, hg⟩
theorem IsS70.own_neN {w0 W : World} {g : Nat} {f0 : ByteArray} {f1 : Int} {f2 : Bool} {α : Type} {d : Kd α} {e : Nat} {base : Nat} {ok : Nat → Prop} {v : Value} {xs : List α} (h : IsS70 w0 W g f0 f1 f2) (ho : Kd.N d e W base ok v xs) (ht : e ≠ 70) : some g ≠ v.ownBlock := by
  obtain ⟨hb, hg⟩ := h; exact Kd.N_ne ho hb ht
theorem IsS70.fresh {w0 W : World} {g : Nat} {f0 : ByteArray} {f1 : Int} {f2 : Bool} (h : IsS70 w0 W g f0 f1 f2) : ∀ k, W.heap.size ≤ k → k ≠ g := by
  obtain ⟨hb, hg⟩ := h; exact Kd.freshB hb
theorem IsS70.kept {w0 W : World} {g : Nat} {f0 : ByteArray} {f1 : Int} {f2 : Bool} {W1 : World} {S : Nat → Prop} (h : IsS70 w0 W g f0 f1 f2) (hk : Kept W W1 S) (hne : ¬ S g) : IsS70 w0 W1 g f0 f1 f2 := by
  obtain ⟨hb, hg⟩ := h; exact ⟨blk_kept hb hk hne, hg⟩
theorem IsS70.below {w0 W : World} {g : Nat} {f0 : ByteArray} {f1 : Int} {f2 : Bool} {W1 : World} (h : IsS70 w0 W g f0 f1 f2) (hw : Below W.heap.size W W1) : IsS70 w0 W1 g f0 f1 f2 := h.grown (grown_of_below hw none) (by simp)
theorem IsS70.alloc {w0 W : World} {g : Nat} {f0 : ByteArray} {f1 : Int} {f2 : Bool} (h : IsS70 w0 W g f0 f1 f2) (o : Obj) : IsS70 w0 (W.alloc o) g f0 f1 f2 := h.below (bA (Below.refl _ _) o)
theorem IsS70.drewN {w0 W : World} {g : Nat} {f0 : ByteArray} {f1 : Int} {f2 : Bool} (h : IsS70 w0 W g f0 f1 f2) (m : Nat) : IsS70 w0 (W.drewN m) g f0 f1 f2 := h
theorem IsS70.drew {w0 W : World} {g : Nat} {f0 : ByteArray} {f1 : Int} {f2 : Bool} (h : IsS70 w0 W g f0 f1 f2) : IsS70 w0 W.drew g f0 f1 f2 := h
theorem IsS70.at_ {w0 W : World} {g : Nat} {f0 : ByteArray} {f1 : Int} {f2 : Bool} {w' : World} {m : Nat} (hq : W.drewN m = w') (h : IsS70 w0 W g f0 f1 f2) : IsS70 w0 w' g f0 f1 f2 := by subst hq; exact IsS70.drewN h m
theorem IsS70.apart {w0 W : World} {g : Nat} {f0 : ByteArray} {f1 : Int} {f2 : Bool} {α : Type} {d : Kd α} {e : Nat} {base : Nat} {ok : Nat → Prop} {v : Value} {xs : List α} (h : IsS70 w0 W g f0 f1 f2) (ho : d.R e W base ok v xs) (ht : ∀ q, q ∈ e :: d.E → q ≠ 70) : d.R e W base (fun k => ok k ∧ k ≠ g) v xs := by
  obtain ⟨hb, hg⟩ := h; exact Kd.R_types ho hb ht
theorem IsS70.own_ne {w0 W : World} {g : Nat} {f0 : ByteArray} {f1 : Int} {f2 : Bool} {α : Type} {d : Kd α} {e : Nat} {base : Nat} {ok : Nat → Prop} {v : Value} {xs : List α} (h : IsS70 w0 W g f0 f1 f2) (ho : d.R e W base ok v xs) (ht : e ≠ 70) : some g ≠ v.ownBlock := by
  obtain ⟨hb, hg⟩ := h; exact Kd.R_ne ho hb ht
theorem IsS70.apartQ {w0 W : World} {g : Nat} {f0 : ByteArray} {f1 : Int} {f2 : Bool} {α : Type} {d : Kd α} {e : Nat} {base : Nat} {ok : Nat → Prop} {v : Value} {xs : List α} (h : IsS70 w0 W g f0 f1 f2) (ho : d.Q e W base ok v xs) (ht : ∀ q, q ∈ e :: d.E → q ≠ 70) : d.Q e W base (fun k => ok k ∧ k ≠ g) v xs := by
  obtain ⟨hb, hg⟩ := h; exact Kd.Q_types ho hb ht
theorem IsS70.own_neQ {w0 W : World} {g : Nat} {f0 : ByteArray} {f1 : Int} {f2 : Bool} {α : Type} {d : Kd α} {e : Nat} {base : Nat} {ok : Nat → Prop} {v : Value} {xs : List α} (h : IsS70 w0 W g f0 f1 f2) (ho : d.Q e W base ok v xs) (ht : e ≠ 70) : some g ≠ v.ownBlock := by
  obtain ⟨hb, hg⟩ := h; exact Kd.Q_ne ho hb ht
theorem IsS70.apartS {w0 W : World} {g : Nat} {f0 : ByteArray} {f1 : Int} {f2 : Bool} {α : Type} {d : Kd α} {e : Nat} {base : Nat} {ok : Nat → Prop} {v : Value} {xs : List α} (h : IsS70 w0 W g f0 f1 f2) (ho : d.S e W base ok v xs) (ht : ∀ q, q ∈ e :: d.E → q ≠ 70) : d.S e W base (fun k => ok k ∧ k ≠ g) v xs := by
  obtain ⟨hb, hg⟩ := h; exact Kd.S_types ho hb ht
theorem IsS70.own_neS {w0 W : World} {g : Nat} {f0 : ByteArray} {f1 : Int} {f2 : Bool} {α : Type} {d : Kd α} {e : Nat} {base : Nat} {ok : Nat → Prop} {v : Value} {xs : List α} (h : IsS70 w0 W g f0 f1 f2) (ho : d.S e W base ok v xs) (ht : e ≠ 70) : some g ≠ v.ownBlock := by
  obtain ⟨hb, hg⟩ := h; exact Kd.S_ne ho hb ht
theorem IsS70.lt {w0 W : World} {g : Nat} {f0 : ByteArray} {f1 : Int} {f2 : Bool} (h : IsS70 w0 W g f0 f1 f2) : g < W.heap.size := by
  obtain ⟨hb, hg⟩ := h; exact blk_lt hb
theorem IsS70.ge {w0 W : World} {g : Nat} {f0 : ByteArray} {f1 : Int} {f2 : Bool} (h : IsS70 w0 W g f0 f1 f2) : w0.heap.size ≤ g := by
  obtain ⟨hb, hg⟩ := h; exact hg
theorem IsS70.ne_blk {w0 W : World} {g : Nat} {f0 : ByteArray} {f1 : Int} {f2 : Bool} {a : Nat} {cs : Array Value} {t : TypeId} {fr : Nat × Nat} (h : IsS70 w0 W g f0 f1 f2) (hb2 : W.heap[a]? = some (.cells cs t fr)) (ht : t ≠ 70) : g ≠ a := by
  obtain ⟨hb, hg⟩ := h; rintro rfl; rw [hb] at hb2
  injection hb2 with hb2
  injection hb2 with _ ht2
  exact ht ht2.symm
theorem IsS70.far {w0 W : World} {g : Nat} {f0 : ByteArray} {f1 : Int} {f2 : Bool} {p : Addr} (h : IsS70 w0 W g f0 f1 f2) (hne : g ≠ p.block) (u : Value) : IsS70 w0 (W.setCell p u) g f0 f1 f2 := by
  obtain ⟨hb, hg⟩ := h; exact ⟨blk_far hb hne u, hg⟩
theorem cellS70_0 {W : World} {g : Nat} {f0 : ByteArray} {f1 : Int} {f2 : Bool} (h : W.heap[g]? = some (.cells #[.string f0, .int .i64 f1, .bool f2] 70 (0, 0))) : W.cell? ⟨g, 0, none⟩ = some (.string f0) := (kC h 0).trans rfl
theorem IsS70.set_0 {w0 W : World} {g : Nat} {f0 : ByteArray} {f1 : Int} {f2 : Bool} (h : IsS70 w0 W g f0 f1 f2) (x : ByteArray) : IsS70 w0 (W.setCell ⟨g, 0, none⟩ (.string x)) g x f1 f2 := by
  obtain ⟨hb, hg⟩ := h; exact ⟨by simpa using blk_set hb 0 (.string x), hg⟩
theorem cellS70_1 {W : World} {g : Nat} {f0 : ByteArray} {f1 : Int} {f2 : Bool} (h : W.heap[g]? = some (.cells #[.string f0, .int .i64 f1, .bool f2] 70 (0, 0))) : W.cell? ⟨g, 1, none⟩ = some (.int .i64 f1) := (kC h 1).trans rfl
theorem IsS70.set_1 {w0 W : World} {g : Nat} {f0 : ByteArray} {f1 : Int} {f2 : Bool} (h : IsS70 w0 W g f0 f1 f2) (x : Int) : IsS70 w0 (W.setCell ⟨g, 1, none⟩ (.int .i64 x)) g f0 x f2 := by
  obtain ⟨hb, hg⟩ := h; exact ⟨by simpa using blk_set hb 1 (.int .i64 x), hg⟩
theorem cellS70_2 {W : World} {g : Nat} {f0 : ByteArray} {f1 : Int} {f2 : Bool} (h : W.heap[g]? = some (.cells #[.string f0, .int .i64 f1, .bool f2] 70 (0, 0))) : W.cell? ⟨g, 2, none⟩ = some (.bool f2) := (kC h 2).trans rfl
theorem IsS70.set_2 {w0 W : World} {g : Nat} {f0 : ByteArray} {f1 : Int} {f2 : Bool} (h : IsS70 w0 W g f0 f1 f2) (x : Bool) : IsS70 w0 (W.setCell ⟨g, 2, none⟩ (.bool x)) g f0 f1 x := by
  obtain ⟨hb, hg⟩ := h; exact ⟨by simpa using blk_set hb 2 (.bool x), hg⟩
theorem IsS70.new (w0 W : World) (f0 : ByteArray) (f1 : Int) (f2 : Bool) (hB : Below w0.heap.size w0 W) : IsS70 w0 (W.alloc (.cells #[.string f0, .int .i64 f1, .bool f2] 70)) W.heap.size f0 f1 f2 := ⟨by simpa using heap_alloc_new W _, hB.size⟩

/-! ### impl_reader_num: function 61 -/

def impl_reader_num.f (k : Nat) (s0_0 : ByteArray) (s0_1 : Int) (s0_2 : Bool) : Option (Int × ByteArray × Int × Bool) := (impl_getNum.f k s0_0 s0_1).bind fun bt101 => (if bt101.2.2 = 0 then (some (bt101.1, s0_0, bt101.2.1, s0_2)) else (some (0, s0_0, s0_1, true)))
theorem impl_reader_num.mono : ∀ a0 a1 a2 k, LeO (impl_reader_num.f k a0 a1 a2) (impl_reader_num.f (k + 1) a0 a1 a2) := by
  intro a0 a1 a2 k; unfold impl_reader_num.f
  repeat' first | (with_reducible first | exact impl_getNum.mono _ _ _ | exact oR _ | exact oN _ | refine oI ?_ ?_ | refine oB ?_ fun _ => ?_) | exact impl_getNum.mono _ _ _ | exact oN _ | refine oI ?_ ?_ | refine oB ?_ fun _ => ?_
theorem bI70_0_impl_reader_num {n : Nat} {w W W' : World} (h : Below n w W) (f : Below n w W → Below n w W' := by intro h_; repeat (first | (with_reducible first | exact h_ | apply bA | apply bN | apply bD | refine bS ?_ (IsS70.ge HI0.out) | refine bS ?_ (Aside0.out (by assumption))) | exact h_)) : Below n w W' := f h
theorem iX70_6_impl_reader_num {p q : Prop} (h : p) (f : p → q := by intro h_; repeat (first | (with_reducible first | exact h_ | apply IsS70.alloc | apply IsS70.drewN | apply IsS70.drew | apply IsS70.set_0 | apply IsS70.set_1 | apply IsS70.set_2 | refine IsS70.far ?_ (Aside0.out (by assumption)) _ | apply IsS70.far | exact Aside0.out (by assumption)) | exact h_)) : q := f h
set_option maxHeartbeats 60000000 in
set_option maxRecDepth 100000 in
theorem impl_reader_num.calls (k : Nat) (g : Nat) (s0_0 : ByteArray) (s0_1 : Int) (s0_2 : Bool) (r1 : Int) (r2 : ByteArray) (r3 : Int) (r4 : Bool) (w0 w : World) (hI : IsS70 w0 w g s0_0 s0_1 s0_2) (hB : Below w0.heap.size w0 w) (h : impl_reader_num.f k s0_0 s0_1 s0_2 = some (r1, r2, r3, r4)) :
    Calls Try.prog 61 #[.pointer (some ⟨g, 0, none⟩)] w fun e w' => e = .returned (.int .i64 r1) ∧ IsS70 w0 w' g r2 r3 r4 ∧ Below w0.heap.size w0 w' ∧ KeepBut w w' g none := by
 have HI0 := AM hI; have HK := AM (KeepBut.refl w g none); have HL := AM hB.size; clear hI; have HW0 := AM hB.size; have HB := AM hB; clear hB; have H : ((impl_getNum.f k s0_0 s0_1).bind fun bt101 => (if bt101.2.2 = 0 then (some (bt101.1, s0_0, bt101.2.1, s0_2)) else (some (0, s0_0, s0_1, true)))) = some (r1, r2, r3, r4) := h; clear h; replace H := oM H; obtain ⟨⟨t101, t102, t103⟩, A20, H⟩ := H; try dsimp only at H
 have A2 := AM A20; clear A20; by_cases c3 : t103 = 0
 ·
  rw [if_pos c3] at H; have c3b0 : (t103 == 0) = true := beq_iff_eq.mpr c3; have c3b1 : (t103 != 0) = false := bne_eq_false_iff_eq.mpr c3; clear c3; simp only [Option.some.injEq, Prod.mk.injEq] at H
  obtain ⟨rfl, rfl, rfl, rfl⟩ := H; obtain ⟨HGz4, hgz4⟩ := HI0.out; have hcz4_0 := cellS70_0 HGz4; have hcz4_1 := cellS70_1 HGz4; have hcz4_2 := cellS70_2 HGz4; have hfz4_0 := fZ HGz4 0; have hfz4_1 := fZ HGz4 1; have hfz4_2 := fZ HGz4 2; clear HGz4 hgz4; go_enter Try.func61, Try.ntmps61
  go_wp2_with (first | (go_at_call 84; (with_reducible refine (impl_getNum.calls k s0_0 s0_1 t101 t102 t103 _ A2.out).mono ?_); rintro e w' ⟨rfl, ⟨nd, rfl⟩⟩; (try first | exact ⟨rfl, _, dD⟩ | exact ⟨rfl, _, dA⟩)))
  repeat (go_quiet (first | (go_at_call 84; (with_reducible refine (impl_getNum.calls k s0_0 s0_1 t101 t102 t103 _ A2.out).mono ?_); rintro e w' ⟨rfl, ⟨nd, rfl⟩⟩; (try first | exact ⟨rfl, _, dD⟩ | exact ⟨rfl, _, dA⟩))); try go_wp2_with (first | (go_at_call 84; (with_reducible refine (impl_getNum.calls k s0_0 s0_1 t101 t102 t103 _ A2.out).mono ?_); rintro e w' ⟨rfl, ⟨nd, rfl⟩⟩; (try first | exact ⟨rfl, _, dD⟩ | exact ⟨rfl, _, dA⟩))))
  go_ret
  exact ⟨by first | rfl | (simp [*, errW_none, errW_some] <;> rfl), iX70_6_impl_reader_num HI0.out, bI70_0_impl_reader_num HB.out, hX HK.out⟩
 rw [if_neg c3] at H; have c3b0 : (t103 == 0) = false := beq_eq_false_iff_ne.mpr c3; have c3b1 : (t103 != 0) = true := bne_iff_ne.mpr c3; simp only [Option.some.injEq, Prod.mk.injEq] at H
 obtain ⟨rfl, rfl, rfl, rfl⟩ := H; obtain ⟨HGz5, hgz5⟩ := HI0.out; have hcz5_0 := cellS70_0 HGz5; have hcz5_1 := cellS70_1 HGz5; have hcz5_2 := cellS70_2 HGz5; have hfz5_0 := fZ HGz5 0; have hfz5_1 := fZ HGz5 1; have hfz5_2 := fZ HGz5 2; clear HGz5 hgz5; go_enter Try.func61, Try.ntmps61
 go_wp2_with (first | (go_at_call 84; (with_reducible refine (impl_getNum.calls k s0_0 s0_1 t101 t102 t103 _ A2.out).mono ?_); rintro e w' ⟨rfl, ⟨nd, rfl⟩⟩; (try first | exact ⟨rfl, _, dD⟩ | exact ⟨rfl, _, dA⟩)))
 repeat (go_quiet (first | (go_at_call 84; (with_reducible refine (impl_getNum.calls k s0_0 s0_1 t101 t102 t103 _ A2.out).mono ?_); rintro e w' ⟨rfl, ⟨nd, rfl⟩⟩; (try first | exact ⟨rfl, _, dD⟩ | exact ⟨rfl, _, dA⟩))); try go_wp2_with (first | (go_at_call 84; (with_reducible refine (impl_getNum.calls k s0_0 s0_1 t101 t102 t103 _ A2.out).mono ?_); rintro e w' ⟨rfl, ⟨nd, rfl⟩⟩; (try first | exact ⟨rfl, _, dD⟩ | exact ⟨rfl, _, dA⟩))))
 go_ret
 exact ⟨by first | rfl | (simp [*, errW_none, errW_some] <;> rfl), iX70_6_impl_reader_num HI0.out, bI70_0_impl_reader_num HB.out, hX HK.out⟩

/-! ### impl_reader_many: function 59 -/

def impl_reader_many.f (k : Nat) (s0_0 : ByteArray) (s0_1 : Int) (s0_2 : Bool) (a1 : Int) : Option (Int × ByteArray × Int × Bool) := (impl_reader_num.f k s0_0 s0_1 s0_2).bind fun bt101 => ((impl_within.f bt101.1 0 a1).bind fun t105 => (if t105 = true then (if bt101.2.2.2 = true then (some (0, bt101.2.1, bt101.2.2.1, bt101.2.2.2)) else (some (bt101.1, bt101.2.1, bt101.2.2.1, bt101.2.2.2))) else (some (0, bt101.2.1, bt101.2.2.1, true))))
theorem impl_reader_many.mono : ∀ a0 a1 a2 a3 k, LeO (impl_reader_many.f k a0 a1 a2 a3) (impl_reader_many.f (k + 1) a0 a1 a2 a3) := by
  intro a0 a1 a2 a3 k; unfold impl_reader_many.f
  repeat' first | (with_reducible first | exact impl_reader_num.mono _ _ _ _ | exact oR _ | exact oN _ | refine oI ?_ ?_ | refine oB ?_ fun _ => ?_) | exact impl_reader_num.mono _ _ _ _ | exact oN _ | refine oI ?_ ?_ | refine oB ?_ fun _ => ?_
theorem bI70_0_impl_reader_many {n : Nat} {w W W' : World} (h : Below n w W) (f : Below n w W → Below n w W' := by intro h_; repeat (first | (with_reducible first | exact h_ | apply bA | apply bN | apply bD | refine bS ?_ (IsS70.ge HI0.out) | refine bS ?_ (Aside0.out (by assumption))) | exact h_)) : Below n w W' := f h
theorem iX70_6_impl_reader_many {p q : Prop} (h : p) (f : p → q := by intro h_; repeat (first | (with_reducible first | exact h_ | apply IsS70.alloc | apply IsS70.drewN | apply IsS70.drew | apply IsS70.set_0 | apply IsS70.set_1 | apply IsS70.set_2 | refine IsS70.far ?_ (Aside0.out (by assumption)) _ | apply IsS70.far | exact Aside0.out (by assumption)) | exact h_)) : q := f h
set_option maxHeartbeats 60000000 in
set_option maxRecDepth 100000 in
theorem impl_reader_many.calls (k : Nat) (g : Nat) (s0_0 : ByteArray) (s0_1 : Int) (s0_2 : Bool) (a1 : Int) (r1 : Int) (r2 : ByteArray) (r3 : Int) (r4 : Bool) (w0 w : World) (hI : IsS70 w0 w g s0_0 s0_1 s0_2) (hB : Below w0.heap.size w0 w) (h : impl_reader_many.f k s0_0 s0_1 s0_2 a1 = some (r1, r2, r3, r4)) :
    Calls Try.prog 59 #[.pointer (some ⟨g, 0, none⟩), .int .i64 a1] w fun e w' => e = .returned (.int .i64 r1) ∧ IsS70 w0 w' g r2 r3 r4 ∧ Below w0.heap.size w0 w' ∧ KeepBut w w' g none := by
 have HI0 := AM hI; have HK := AM (KeepBut.refl w g none); have HL := AM hB.size; clear hI; have HW0 := AM hB.size; have HB := AM hB; clear hB; have H : ((impl_reader_num.f k s0_0 s0_1 s0_2).bind fun bt101 => ((impl_within.f bt101.1 0 a1).bind fun t105 => (if t105 = true then (if bt101.2.2.2 = true then (some (0, bt101.2.1, bt101.2.2.1, bt101.2.2.2)) else (some (bt101.1, bt101.2.1, bt101.2.2.1, bt101.2.2.2))) else (some (0, bt101.2.1, bt101.2.2.1, true))))) = some (r1, r2, r3, r4) := h; clear h; replace H := oM H; obtain ⟨⟨t101, t102, t103, t104⟩, A30, H⟩ := H; try dsimp only at H
 have A3 := AM A30; clear A30; replace H := oM H; obtain ⟨t105, A40, H⟩ := H; have A4 := AM A40; clear A40; by_cases c5 : t105 = true
 ·
  subst c5; rw [if_pos rfl] at H; by_cases c6 : t104 = true
  ·
   subst c6; rw [if_pos rfl] at H; simp only [Option.some.injEq, Prod.mk.injEq] at H
   obtain ⟨rfl, rfl, rfl, rfl⟩ := H; go_enter Try.func59, Try.ntmps59
   go_wp2_with (first | ((with_reducible refine gate_callee (f := 61) rfl ?_); refine gL (some 7) Try.func61 #[.pointer (some ⟨g, 0, none⟩)] ?_; (with_reducible refine (impl_reader_num.calls k g s0_0 s0_1 s0_2 t101 t102 t103 true w0 _ ?side1 ?side2 A3.out).mono ?_); (case side1 => exact (iX70_6_impl_reader_many HI0.out)); (case side2 => exact (bI70_0_impl_reader_many HB.out)); rintro e w7 ⟨rfl, hi, hb, hk⟩; refine ⟨_, rfl, ?_⟩; have _ := AM (KeepBut.trans (hX HK.out) hk (.inl rfl)); have _ := AM (hb); have _ := AM (hi); clear HK HB HI0; rename_i HK HB HI0; (try clear hb); (try clear hb2); (try clear hk); (try clear hi)) | ((with_reducible refine gate_callee (f := 47) rfl ?_); refine gL (some 10) Try.func47 #[.int .i64 t101, .int .i64 0, .int .i64 a1] ?_; (with_reducible refine (impl_within.calls t101 0 a1 true _ A4.out).mono ?_); rintro e w' ⟨rfl, ⟨nd, rfl⟩⟩; refine ⟨_, rfl, ?_⟩; obtain ⟨HGz8, hgz8⟩ := HI0.out; have hcz8_0 := cellS70_0 HGz8; have hcz8_1 := cellS70_1 HGz8; have hcz8_2 := cellS70_2 HGz8; have hfz8_0 := fZ HGz8 0; have hfz8_1 := fZ HGz8 1; have hfz8_2 := fZ HGz8 2; clear HGz8 hgz8))
   go_ret
   exact ⟨by first | rfl | (simp [*, errW_none, errW_some] <;> rfl), iX70_6_impl_reader_many HI0.out, bI70_0_impl_reader_many HB.out, hX HK.out⟩
  replace c6 := oE c6; subst c6; rw [if_neg nft] at H; simp only [Option.some.injEq, Prod.mk.injEq] at H
  obtain ⟨rfl, rfl, rfl, rfl⟩ := H; go_enter Try.func59, Try.ntmps59
  go_wp2_with (first | ((with_reducible refine gate_callee (f := 61) rfl ?_); refine gL (some 7) Try.func61 #[.pointer (some ⟨g, 0, none⟩)] ?_; (with_reducible refine (impl_reader_num.calls k g s0_0 s0_1 s0_2 t101 t102 t103 false w0 _ ?side1 ?side2 A3.out).mono ?_); (case side1 => exact (iX70_6_impl_reader_many HI0.out)); (case side2 => exact (bI70_0_impl_reader_many HB.out)); rintro e w9 ⟨rfl, hi, hb, hk⟩; refine ⟨_, rfl, ?_⟩; have _ := AM (KeepBut.trans (hX HK.out) hk (.inl rfl)); have _ := AM (hb); have _ := AM (hi); clear HK HB HI0; rename_i HK HB HI0; (try clear hb); (try clear hb2); (try clear hk); (try clear hi)) | ((with_reducible refine gate_callee (f := 47) rfl ?_); refine gL (some 10) Try.func47 #[.int .i64 t101, .int .i64 0, .int .i64 a1] ?_; (with_reducible refine (impl_within.calls t101 0 a1 true _ A4.out).mono ?_); rintro e w' ⟨rfl, ⟨nd, rfl⟩⟩; refine ⟨_, rfl, ?_⟩; obtain ⟨HGz10, hgz10⟩ := HI0.out; have hcz10_0 := cellS70_0 HGz10; have hcz10_1 := cellS70_1 HGz10; have hcz10_2 := cellS70_2 HGz10; have hfz10_0 := fZ HGz10 0; have hfz10_1 := fZ HGz10 1; have hfz10_2 := fZ HGz10 2; clear HGz10 hgz10))
  go_ret
  exact ⟨by first | rfl | (simp [*, errW_none, errW_some] <;> rfl), iX70_6_impl_reader_many HI0.out, bI70_0_impl_reader_many HB.out, hX HK.out⟩
 replace c5 := oE c5; subst c5; rw [if_neg nft] at H; simp only [Option.some.injEq, Prod.mk.injEq] at H
 obtain ⟨rfl, rfl, rfl, rfl⟩ := H; go_enter Try.func59, Try.ntmps59
 go_wp2_with (first | ((with_reducible refine gate_callee (f := 61) rfl ?_); refine gL (some 7) Try.func61 #[.pointer (some ⟨g, 0, none⟩)] ?_; (with_reducible refine (impl_reader_num.calls k g s0_0 s0_1 s0_2 t101 t102 t103 t104 w0 _ ?side1 ?side2 A3.out).mono ?_); (case side1 => exact (iX70_6_impl_reader_many HI0.out)); (case side2 => exact (bI70_0_impl_reader_many HB.out)); rintro e w11 ⟨rfl, hi, hb, hk⟩; refine ⟨_, rfl, ?_⟩; have _ := AM (KeepBut.trans (hX HK.out) hk (.inl rfl)); have _ := AM (hb); have _ := AM (hi); clear HK HB HI0; rename_i HK HB HI0; (try clear hb); (try clear hb2); (try clear hk); (try clear hi)) | ((with_reducible refine gate_callee (f := 47) rfl ?_); refine gL (some 10) Try.func47 #[.int .i64 t101, .int .i64 0, .int .i64 a1] ?_; (with_reducible refine (impl_within.calls t101 0 a1 false _ A4.out).mono ?_); rintro e w' ⟨rfl, ⟨nd, rfl⟩⟩; refine ⟨_, rfl, ?_⟩; (try (rw [drewN_self w11]; generalize hq_ : World.drewN w11 _ = w11; have _ : Aside0 (IsS70 w0 w11 g t102 t103 t104) := ⟨by rw [← hq_]; exact (iX70_6_impl_reader_many HI0.out)⟩; have _ : Aside0 (KeepBut w w11 g none) := ⟨by rw [← hq_]; exact (hX HK.out)⟩; have _ : Aside0 (Below w0.heap.size w0 w11) := ⟨by rw [← hq_]; exact (bI70_0_impl_reader_many HB.out)⟩; clear HI0 HK HB hq_; rename_i HI0 HK HB)); obtain ⟨HGz12, hgz12⟩ := HI0.out; have hcz12_0 := cellS70_0 HGz12; have hcz12_1 := cellS70_1 HGz12; have hcz12_2 := cellS70_2 HGz12; have hfz12_0 := fZ HGz12 0; have hfz12_1 := fZ HGz12 1; have hfz12_2 := fZ HGz12 2; clear HGz12 hgz12))
 go_ret
 exact ⟨by first | rfl | (simp [*, errW_none, errW_some] <;> rfl), iX70_6_impl_reader_many HI0.out, bI70_0_impl_reader_many HB.out, hX HK.out⟩

/-! ### impl_getText: function 83 -/

def impl_getText.f (k : Nat) (a0 : ByteArray) (a1 : Int) : Option (ByteArray × Int × Int) := (impl_getNum.f k a0 a1).bind fun bt101 => (if bt101.2.2 = 0 then ((impl_within.f bt101.1 0 20000).bind fun t104 => (if t104 = true then (if bt101.1 > (wrap64 ((a0.size : Int) - bt101.2.1)) then (some ((⟨#[]⟩ : ByteArray), 0, 4)) else (if 0 ≤ bt101.2.1 then (if bt101.2.1 ≤ (wrap64 (bt101.2.1 + bt101.1)) then (if (wrap64 (bt101.2.1 + bt101.1)) ≤ (a0.size : Int) then (some (a0.extract (bt101.2.1 : Int).toNat ((wrap64 (bt101.2.1 + bt101.1)) : Int).toNat, wrap64 (bt101.2.1 + bt101.1), 0)) else (none)) else (none)) else (none))) else (some ((⟨#[]⟩ : ByteArray), 0, 3)))) else (some ((⟨#[]⟩ : ByteArray), 0, bt101.2.2)))
theorem impl_getText.mono : ∀ a0 a1 k, LeO (impl_getText.f k a0 a1) (impl_getText.f (k + 1) a0 a1) := by
  intro a0 a1 k; unfold impl_getText.f
  repeat' first | (with_reducible first | exact impl_getNum.mono _ _ _ | exact oR _ | exact oN _ | refine oI ?_ ?_ | refine oB ?_ fun _ => ?_) | exact impl_getNum.mono _ _ _ | exact oN _ | refine oI ?_ ?_ | refine oB ?_ fun _ => ?_
set_option maxHeartbeats 60000000 in
set_option maxRecDepth 100000 in
theorem impl_getText.calls (k : Nat) (a0 : ByteArray) (a1 : Int) (r1 : ByteArray) (r2 : Int) (r3 : Int) (w : World) (h : impl_getText.f k a0 a1 = some (r1, r2, r3)) :
    Calls Try.prog 83 #[.string a0, .int .i64 a1] w fun e w' => e = .returned (.tuple #[.string r1, .int .i64 r2, .int .i64 r3]) ∧ Drawn0 w w' := by
 have H : ((impl_getNum.f k a0 a1).bind fun bt101 => (if bt101.2.2 = 0 then ((impl_within.f bt101.1 0 20000).bind fun t104 => (if t104 = true then (if bt101.1 > (wrap64 ((a0.size : Int) - bt101.2.1)) then (some ((⟨#[]⟩ : ByteArray), 0, 4)) else (if 0 ≤ bt101.2.1 then (if bt101.2.1 ≤ (wrap64 (bt101.2.1 + bt101.1)) then (if (wrap64 (bt101.2.1 + bt101.1)) ≤ (a0.size : Int) then (some (a0.extract (bt101.2.1 : Int).toNat ((wrap64 (bt101.2.1 + bt101.1)) : Int).toNat, wrap64 (bt101.2.1 + bt101.1), 0)) else (none)) else (none)) else (none))) else (some ((⟨#[]⟩ : ByteArray), 0, 3)))) else (some ((⟨#[]⟩ : ByteArray), 0, bt101.2.2)))) = some (r1, r2, r3) := h; clear h; replace H := oM H; obtain ⟨⟨t101, t102, t103⟩, A30, H⟩ := H; try dsimp only at H
 have A3 := AM A30; clear A30; by_cases c4 : t103 = 0
 ·
  rw [if_pos c4] at H; have c4b0 : (t103 == 0) = true := beq_iff_eq.mpr c4; have c4b1 : (t103 != 0) = false := bne_eq_false_iff_eq.mpr c4; clear c4; replace H := oM H; obtain ⟨t104, A50, H⟩ := H; have A5 := AM A50; clear A50; by_cases c6 : t104 = true
  ·
   subst c6; rw [if_pos rfl] at H; by_cases c7 : t101 > (wrap64 ((a0.size : Int) - t102))
   ·
    rw [if_pos c7] at H; have c7b0 : decide ((wrap64 ((a0.size : Int) - t102)) < t101) = true := dY c7; clear c7; simp only [Option.some.injEq, Prod.mk.injEq] at H
    obtain ⟨rfl, rfl, rfl⟩ := H; go_enter Try.func83, Try.ntmps83
    go_wp2_with (first | ((with_reducible refine gate_callee (f := 84) rfl ?_); refine gL (some 13) Try.func84 #[.string a0, .int .i64 a1] ?_; (with_reducible refine (impl_getNum.calls k a0 a1 t101 t102 t103 _ A3.out).mono ?_); rintro e w' ⟨rfl, ⟨nd, rfl⟩⟩; refine ⟨_, rfl, ?_⟩) | ((with_reducible refine gate_callee (f := 47) rfl ?_); refine gL (some 23) Try.func47 #[.int .i64 t101, .int .i64 0, .int .i64 20000] ?_; (with_reducible refine (impl_within.calls t101 0 20000 true _ A5.out).mono ?_); rintro e w' ⟨rfl, ⟨nd, rfl⟩⟩; refine ⟨_, rfl, ?_⟩))
    go_ret3
    exact ⟨by first | rfl | (simp; done) | (simp [*]; done), by repeat (first | exact Drawn0.refl _ | apply Drawn0.step)⟩
   rw [if_neg c7] at H; have c7b0 : decide ((wrap64 ((a0.size : Int) - t102)) < t101) = false := dN c7; clear c7; by_cases c8 : 0 ≤ t102
   ·
    rw [if_pos c8] at H; have c8b0 := eq_true c8; have c8b1 := dY c8; clear c8; by_cases c9 : t102 ≤ (wrap64 (t102 + t101))
    ·
     rw [if_pos c9] at H; have c9b0 := eq_true c9; have c9b1 := dY c9; by_cases c10 : (wrap64 (t102 + t101)) ≤ (a0.size : Int)
     ·
      rw [if_pos c10] at H; have c10b0 := eq_true c10; have c10b1 := dY c10; simp only [Option.some.injEq, Prod.mk.injEq] at H
      obtain ⟨rfl, rfl, rfl⟩ := H; go_enter Try.func83, Try.ntmps83
      go_wp2_with (first | ((with_reducible refine gate_callee (f := 84) rfl ?_); refine gL (some 13) Try.func84 #[.string a0, .int .i64 a1] ?_; (with_reducible refine (impl_getNum.calls k a0 a1 t101 t102 t103 _ A3.out).mono ?_); rintro e w' ⟨rfl, ⟨nd, rfl⟩⟩; refine ⟨_, rfl, ?_⟩) | ((with_reducible refine gate_callee (f := 47) rfl ?_); refine gL (some 23) Try.func47 #[.int .i64 t101, .int .i64 0, .int .i64 20000] ?_; (with_reducible refine (impl_within.calls t101 0 20000 true _ A5.out).mono ?_); rintro e w' ⟨rfl, ⟨nd, rfl⟩⟩; refine ⟨_, rfl, ?_⟩))
      go_ret3
      exact ⟨by first | rfl | (simp; done) | (simp [*]; done), by repeat (first | exact Drawn0.refl _ | apply Drawn0.step)⟩
     rw [if_neg c10] at H; exact absurd H (by simp)
    rw [if_neg c9] at H; exact absurd H (by simp)
   rw [if_neg c8] at H; exact absurd H (by simp)
  replace c6 := oE c6; subst c6; rw [if_neg nft] at H; simp only [Option.some.injEq, Prod.mk.injEq] at H
  obtain ⟨rfl, rfl, rfl⟩ := H; go_enter Try.func83, Try.ntmps83
  go_wp2_with (first | ((with_reducible refine gate_callee (f := 84) rfl ?_); refine gL (some 13) Try.func84 #[.string a0, .int .i64 a1] ?_; (with_reducible refine (impl_getNum.calls k a0 a1 t101 t102 t103 _ A3.out).mono ?_); rintro e w' ⟨rfl, ⟨nd, rfl⟩⟩; refine ⟨_, rfl, ?_⟩) | ((with_reducible refine gate_callee (f := 47) rfl ?_); refine gL (some 23) Try.func47 #[.int .i64 t101, .int .i64 0, .int .i64 20000] ?_; (with_reducible refine (impl_within.calls t101 0 20000 false _ A5.out).mono ?_); rintro e w' ⟨rfl, ⟨nd, rfl⟩⟩; refine ⟨_, rfl, ?_⟩))
  go_ret3
  exact ⟨by first | rfl | (simp; done) | (simp [*]; done), by repeat (first | exact Drawn0.refl _ | apply Drawn0.step)⟩
 rw [if_neg c4] at H; have c4b0 : (t103 == 0) = false := beq_eq_false_iff_ne.mpr c4; have c4b1 : (t103 != 0) = true := bne_iff_ne.mpr c4; simp only [Option.some.injEq, Prod.mk.injEq] at H
 obtain ⟨rfl, rfl, rfl⟩ := H; go_enter Try.func83, Try.ntmps83
 go_wp2_with (first | ((with_reducible refine gate_callee (f := 84) rfl ?_); refine gL (some 13) Try.func84 #[.string a0, .int .i64 a1] ?_; (with_reducible refine (impl_getNum.calls k a0 a1 t101 t102 t103 _ A3.out).mono ?_); rintro e w' ⟨rfl, ⟨nd, rfl⟩⟩; refine ⟨_, rfl, ?_⟩))
 go_ret3
 exact ⟨by first | rfl | (simp; done) | (simp [*]; done), by repeat (first | exact Drawn0.refl _ | apply Drawn0.step)⟩

/-! ### impl_reader_word: function 60 -/

def impl_reader_word.f (k : Nat) (s0_0 : ByteArray) (s0_1 : Int) (s0_2 : Bool) : Option (ByteArray × ByteArray × Int × Bool) := (impl_getText.f k s0_0 s0_1).bind fun bt101 => (if bt101.2.2 = 0 then (some (bt101.1, s0_0, bt101.2.1, s0_2)) else (some ((⟨#[]⟩ : ByteArray), s0_0, s0_1, true)))
theorem impl_reader_word.mono : ∀ a0 a1 a2 k, LeO (impl_reader_word.f k a0 a1 a2) (impl_reader_word.f (k + 1) a0 a1 a2) := by
  intro a0 a1 a2 k; unfold impl_reader_word.f
  repeat' first | (with_reducible first | exact impl_getText.mono _ _ _ | exact oR _ | exact oN _ | refine oI ?_ ?_ | refine oB ?_ fun _ => ?_) | exact impl_getText.mono _ _ _ | exact oN _ | refine oI ?_ ?_ | refine oB ?_ fun _ => ?_
theorem bI70_0_impl_reader_word {n : Nat} {w W W' : World} (h : Below n w W) (f : Below n w W → Below n w W' := by intro h_; repeat (first | (with_reducible first | exact h_ | apply bA | apply bN | apply bD | refine bS ?_ (IsS70.ge HI0.out) | refine bS ?_ (Aside0.out (by assumption))) | exact h_)) : Below n w W' := f h
theorem iX70_6_impl_reader_word {p q : Prop} (h : p) (f : p → q := by intro h_; repeat (first | (with_reducible first | exact h_ | apply IsS70.alloc | apply IsS70.drewN | apply IsS70.drew | apply IsS70.set_0 | apply IsS70.set_1 | apply IsS70.set_2 | refine IsS70.far ?_ (Aside0.out (by assumption)) _ | apply IsS70.far | exact Aside0.out (by assumption)) | exact h_)) : q := f h
set_option maxHeartbeats 60000000 in
set_option maxRecDepth 100000 in
theorem impl_reader_word.calls (k : Nat) (g : Nat) (s0_0 : ByteArray) (s0_1 : Int) (s0_2 : Bool) (r1 : ByteArray) (r2 : ByteArray) (r3 : Int) (r4 : Bool) (w0 w : World) (hI : IsS70 w0 w g s0_0 s0_1 s0_2) (hB : Below w0.heap.size w0 w) (h : impl_reader_word.f k s0_0 s0_1 s0_2 = some (r1, r2, r3, r4)) :
    Calls Try.prog 60 #[.pointer (some ⟨g, 0, none⟩)] w fun e w' => e = .returned (.string r1) ∧ IsS70 w0 w' g r2 r3 r4 ∧ Below w0.heap.size w0 w' ∧ KeepBut w w' g none := by
 have HI0 := AM hI; have HK := AM (KeepBut.refl w g none); have HL := AM hB.size; clear hI; have HW0 := AM hB.size; have HB := AM hB; clear hB; have H : ((impl_getText.f k s0_0 s0_1).bind fun bt101 => (if bt101.2.2 = 0 then (some (bt101.1, s0_0, bt101.2.1, s0_2)) else (some ((⟨#[]⟩ : ByteArray), s0_0, s0_1, true)))) = some (r1, r2, r3, r4) := h; clear h; replace H := oM H; obtain ⟨⟨t101, t102, t103⟩, A20, H⟩ := H; try dsimp only at H
 have A2 := AM A20; clear A20; by_cases c3 : t103 = 0
 ·
  rw [if_pos c3] at H; have c3b0 : (t103 == 0) = true := beq_iff_eq.mpr c3; have c3b1 : (t103 != 0) = false := bne_eq_false_iff_eq.mpr c3; clear c3; simp only [Option.some.injEq, Prod.mk.injEq] at H
  obtain ⟨rfl, rfl, rfl, rfl⟩ := H; obtain ⟨HGz4, hgz4⟩ := HI0.out; have hcz4_0 := cellS70_0 HGz4; have hcz4_1 := cellS70_1 HGz4; have hcz4_2 := cellS70_2 HGz4; have hfz4_0 := fZ HGz4 0; have hfz4_1 := fZ HGz4 1; have hfz4_2 := fZ HGz4 2; clear HGz4 hgz4; go_enter Try.func60, Try.ntmps60
  go_wp2_with (first | (go_at_call 83; (with_reducible refine (impl_getText.calls k s0_0 s0_1 t101 t102 t103 _ A2.out).mono ?_); rintro e w' ⟨rfl, ⟨nd, rfl⟩⟩; (try first | exact ⟨rfl, _, dD⟩ | exact ⟨rfl, _, dA⟩)))
  repeat (go_quiet (first | (go_at_call 83; (with_reducible refine (impl_getText.calls k s0_0 s0_1 t101 t102 t103 _ A2.out).mono ?_); rintro e w' ⟨rfl, ⟨nd, rfl⟩⟩; (try first | exact ⟨rfl, _, dD⟩ | exact ⟨rfl, _, dA⟩))); try go_wp2_with (first | (go_at_call 83; (with_reducible refine (impl_getText.calls k s0_0 s0_1 t101 t102 t103 _ A2.out).mono ?_); rintro e w' ⟨rfl, ⟨nd, rfl⟩⟩; (try first | exact ⟨rfl, _, dD⟩ | exact ⟨rfl, _, dA⟩))))
  go_ret
  exact ⟨by first | rfl | (simp [*, errW_none, errW_some] <;> rfl), iX70_6_impl_reader_word HI0.out, bI70_0_impl_reader_word HB.out, hX HK.out⟩
 rw [if_neg c3] at H; have c3b0 : (t103 == 0) = false := beq_eq_false_iff_ne.mpr c3; have c3b1 : (t103 != 0) = true := bne_iff_ne.mpr c3; simp only [Option.some.injEq, Prod.mk.injEq] at H
 obtain ⟨rfl, rfl, rfl, rfl⟩ := H; obtain ⟨HGz5, hgz5⟩ := HI0.out; have hcz5_0 := cellS70_0 HGz5; have hcz5_1 := cellS70_1 HGz5; have hcz5_2 := cellS70_2 HGz5; have hfz5_0 := fZ HGz5 0; have hfz5_1 := fZ HGz5 1; have hfz5_2 := fZ HGz5 2; clear HGz5 hgz5; go_enter Try.func60, Try.ntmps60
 go_wp2_with (first | (go_at_call 83; (with_reducible refine (impl_getText.calls k s0_0 s0_1 t101 t102 t103 _ A2.out).mono ?_); rintro e w' ⟨rfl, ⟨nd, rfl⟩⟩; (try first | exact ⟨rfl, _, dD⟩ | exact ⟨rfl, _, dA⟩)))
 repeat (go_quiet (first | (go_at_call 83; (with_reducible refine (impl_getText.calls k s0_0 s0_1 t101 t102 t103 _ A2.out).mono ?_); rintro e w' ⟨rfl, ⟨nd, rfl⟩⟩; (try first | exact ⟨rfl, _, dD⟩ | exact ⟨rfl, _, dA⟩))); try go_wp2_with (first | (go_at_call 83; (with_reducible refine (impl_getText.calls k s0_0 s0_1 t101 t102 t103 _ A2.out).mono ?_); rintro e w' ⟨rfl, ⟨nd, rfl⟩⟩; (try first | exact ⟨rfl, _, dD⟩ | exact ⟨rfl, _, dA⟩))))
 go_ret
 exact ⟨by first | rfl | (simp [*, errW_none, errW_some] <;> rfl), iX70_6_impl_reader_word HI0.out, bI70_0_impl_reader_word HB.out, hX HK.out⟩

end Go.Proofs.Ytcaildjhnkedfaa.Q
