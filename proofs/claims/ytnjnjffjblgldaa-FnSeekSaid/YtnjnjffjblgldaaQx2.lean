/- Printed by wip/mp.py: functions as plain Lean functions, and their calls. -/
import Derived.Test.YtnjnjffjblgldaaQx0
namespace Go.Proofs.Ytnjnjffjblgldaa.Q
open Go.RowKit Go.Proofs.Ytnjnjffjblgldaa.HB Go.Proofs.YtnjnjffjblgldaaW.PrintWords Go.Proofs.YtnjnjffjblgldaaW.PrintLast Go.Proofs.YtnjnjffjblgldaaW.PrintMore
attribute [local go_sem] max2_int min2_int max_two min_two max_three min_three max_four min_four   -- for this text's walks alone
set_option linter.unusedVariables false
set_option linter.unusedSimpArgs false

/-! ### spec_l03Is: function 33 -/

def spec_l03Is.f (a0 : Int) (a1 : Int) (a2 : Int) : Option (Bool) := if a0 ≥ a1 then (some (decide (a0 ≤ a2))) else (some false)
set_option maxHeartbeats 60000000 in
set_option maxRecDepth 100000 in
theorem spec_l03Is.calls (a0 : Int) (a1 : Int) (a2 : Int) (r : Bool) (w : World) (h : spec_l03Is.f a0 a1 a2 = some r) :
    Calls Try.prog 33 #[.int .i64 a0, .int .i64 a1, .int .i64 a2] w fun e w' => e = .returned (.bool r) ∧ Drawn0 w w' := by
 have H : (if a0 ≥ a1 then (some (decide (a0 ≤ a2))) else (some false)) = some r := h; clear h; by_cases c4 : a0 ≥ a1
 ·
  rw [if_pos c4] at H; have c4b0 : decide (a1 ≤ a0) = true := dY c4; clear c4; obtain rfl := Option.some.inj H; go_enter Try.func33, Try.ntmps33
  go_wp2
  go_ret
  exact ⟨by first | rfl | (simp; done) | (simp [*]; done), drX⟩
 rw [if_neg c4] at H; have c4b0 : decide (a1 ≤ a0) = false := dN c4; clear c4; obtain rfl := Option.some.inj H; go_enter Try.func33, Try.ntmps33
 go_wp2
 go_ret
 exact ⟨by first | rfl | (simp; done) | (simp [*]; done), drX⟩

/-! ### spec_l07End: function 61 -/

def spec_l07End.f (a0_0 : ByteArray) (a0_1 : Int) (l0_2 : List ByteArray) (l0_3 : List (S55)) : Option (Int) := some (wrap64 (a0_1 + (l0_2.length : Int)))
set_option maxHeartbeats 60000000 in
set_option maxRecDepth 100000 in
theorem spec_l07End.calls (a0_0 : ByteArray) (a0_1 : Int) (A0_2 : Option Addr) (c0_2 : Nat) (l0_2 : List ByteArray) (A0_3 : Option Addr) (c0_3 : Nat) (l0_3 : List (S55)) (r : Int) (w : World) (hr0_2 : Kd.C Kd.string w A0_2 l0_2.length l0_2) (hc0_2 : l0_2.length ≤ c0_2) (hr0_3 : Kd.C k55 w A0_3 l0_3.length l0_3) (hc0_3 : l0_3.length ≤ c0_3) (h : spec_l07End.f a0_0 a0_1 l0_2 l0_3 = some r) :
    Calls Try.prog 61 #[.agg #[.string a0_0, .int .i64 a0_1, .slice A0_2 l0_2.length c0_2, .slice A0_3 l0_3.length c0_3]] w fun e w' => e = .returned (.int .i64 r) ∧ Below w.heap.size w w' := by
 have hu29 := Try.underlying29; have HR0_2 := AM hr0_2; have HC0_2 := AM hc0_2; clear hr0_2 hc0_2; have HR0_3 := AM hr0_3; have HC0_3 := AM hc0_3; clear hr0_3 hc0_3; have HB := AM (Below.refl w.heap.size w); have H : (some (wrap64 (a0_1 + (l0_2.length : Int)))) = some r := h; clear h; obtain rfl := Option.some.inj H; go_enter Try.func61, Try.ntmps61
 go_wp2_with (first | (refine bE (N := 1) (cs := #[.string a0_0, .int .i64 a0_1, .slice A0_2 l0_2.length c0_2, .slice A0_3 l0_3.length c0_3]) (t := 29) ?_; intro gb101 hg w2 hbox hb; have GW101 := gY hg HB; have GE101 := GW101; have BK101 := AM (hbox); replace HB := bY HB hb; clear hb hbox hg; have hcz3 := q4 BK101.out; have hfz3 := fZ BK101.out))
 go_ret
 exact ⟨rE, bX HB.out⟩

/-! ### spec_NameRight: function 63 -/

mutual
def spec_NameRight.j0 : Nat → ByteArray → Bool → Option (Bool)
  | 0, _, _ => none
  | k + 1, x0, x12 => if x12 = true then (some false) else (spec_NameRight.l0 k x0 0)
def spec_NameRight.l0 : Nat → ByteArray → Int → Option (Bool)
  | 0, _, _ => none
  | k + 1, x0, x3 => if x3 < (x0.size : Int) then (if 0 ≤ x3 then (if (bt x0 x3) ≥ 97 then (if ((bt x0 x3) ≤ 122) then (spec_NameRight.l0 k x0 (wrap64 (x3 + 1))) else (if x3 = 0 then (some false) else (if (bt x0 x3) ≥ 48 then (if ((bt x0 x3) ≤ 57) then (spec_NameRight.l0 k x0 (wrap64 (x3 + 1))) else (if (bt x0 x3) = 95 then (spec_NameRight.l0 k x0 (wrap64 (x3 + 1))) else (some false))) else (if (bt x0 x3) = 95 then (spec_NameRight.l0 k x0 (wrap64 (x3 + 1))) else (some false))))) else (if x3 = 0 then (some false) else (if (bt x0 x3) ≥ 48 then (if ((bt x0 x3) ≤ 57) then (spec_NameRight.l0 k x0 (wrap64 (x3 + 1))) else (if (bt x0 x3) = 95 then (spec_NameRight.l0 k x0 (wrap64 (x3 + 1))) else (some false))) else (if (bt x0 x3) = 95 then (spec_NameRight.l0 k x0 (wrap64 (x3 + 1))) else (some false))))) else (none)) else (some true)
end
def spec_NameRight.f (k : Nat) (a0 : ByteArray) : Option (Bool) := if (a0.size : Int) < 1 then (spec_NameRight.j0 k a0 true) else (spec_NameRight.j0 k a0 (decide ((a0.size : Int) > 20)))
set_option maxHeartbeats 60000000 in
set_option maxRecDepth 100000 in
theorem spec_NameRight.calls (k : Nat) (a0 : ByteArray) (r : Bool) (w : World) (h : spec_NameRight.f k a0 = some r) :
    Calls Try.prog 63 #[.string a0] w fun e w' => e = .returned (.bool r) ∧ Drawn0 w w' := by
 have H : (if (a0.size : Int) < 1 then (spec_NameRight.j0 k a0 true) else (spec_NameRight.j0 k a0 (decide ((a0.size : Int) > 20)))) = some r := h; clear h; have HC2 := AM H; clear H; go_enter Try.func63, Try.ntmps63
 go_upto_region 1 with (fail)
 go_cut [12] (fun v12 wc => ∃ (kq : Nat) (x12_1 : Bool), v12 = .bool x12_1 ∧ Aside0 (spec_NameRight.j0 kq a0 x12_1 = some r) ∧ Aside0 (kq ≤ k) ∧ Drawn0 w wc)
 case first =>
  have H := HC2.out; clear HC2; by_cases c3 : (a0.size : Int) < 1
  ·
   rw [if_pos c3] at H; have c3b0 := dY c3; have c3b1 : decide (a0.size < 1) = true := dY (by omega); clear c3
   (first | rw [c3b0] | (simp only [i64_w, i32_w]; rw [c3b0]) | skip)
   have H' := AM H; clear H; go_wp2
   go_meet
   case rel => exact ⟨_, (true), rR, H', ⟨by first | omega | exact Nat.le_refl _⟩, drX⟩
  rw [if_neg c3] at H; have c3b0 := dN c3; have c3b1 : decide (a0.size < 1) = false := dN (by omega); clear c3
  (first | rw [c3b0] | (simp only [i64_w, i32_w]; rw [c3b0]) | skip)
  have H' := AM H; clear H; go_wp2
  go_meet
  case rel => exact ⟨_, (decide ((a0.size : Int) > 20)), rR, H', ⟨by first | omega | exact Nat.le_refl _⟩, drX⟩
 case rest =>
  clear HC2; (try clear p2); (try clear c3); (try clear c3b0); (try clear c3b1); obtain ⟨kq, x12_1, rfl, HA, HJ1, ⟨mc1, rfl⟩⟩ := hcut
  cases kq with
  | zero => exact absurd HA.out (by simp [spec_NameRight.j0])
  | succ kj1 =>
   have H := HA.out; clear HA; simp only [spec_NameRight.j0] at H
   by_cases c4 : x12_1 = true
   ·
    subst c4; rw [if_pos rfl] at H; obtain rfl := Option.some.inj H; go_wp2
    go_ret
    exact ⟨by first | rfl | (simp; done) | (simp [*]; done), drX⟩
   replace c4 := oE c4; subst c4; rw [if_neg nft] at H; have H' := AM H; clear H; go_wp2
   go_loopg [3] kj1 (fun kq v3 w' => ∃ (x3_2 : Int), v3 = .int .i64 x3_2 ∧ Aside0 (spec_NameRight.l0 kq a0 x3_2 = some r) ∧ Aside0 (kq ≤ kj1) ∧ Drawn0 w w')
   case atStart => exact ⟨(0), rR, H', ⟨Nat.le_refl _⟩, drX⟩
   case round =>
    clear H'; (try clear c1); (try clear p2); (try clear c3); (try clear c3b0); (try clear c3b1); (try clear c4); obtain ⟨x3_2, rfl, HA, HK2, ⟨m2, rfl⟩⟩ := hrel
    cases gk with
    | zero => exact absurd HA.out (by simp [spec_NameRight.l0])
    | succ k2 =>
     have H := HA.out; clear HA; simp only [spec_NameRight.l0] at H
     by_cases c5 : x3_2 < (a0.size : Int)
     ·
      rw [if_pos c5] at H; have c5b0 := dY c5; clear c5; by_cases c6 : 0 ≤ x3_2
      ·
       rw [if_pos c6] at H; have c6b0 := dY c6; clear c6; by_cases c8 : (bt a0 x3_2) ≥ 97
       ·
        rw [if_pos c8] at H; have c8b0 : decide (97 ≤ (bt a0 x3_2)) = true := dY c8; clear c8; by_cases c9 : ((bt a0 x3_2) ≤ 122)
        ·
         rw [if_pos c9] at H; have c9b0 : decide ((bt a0 x3_2) ≤ 122) = true := dY c9; clear c9; have H' := AM H; clear H; have p7 : 0 ≤ (x3_2 : Int) := oD ‹_›; have q7 : x3_2 < (a0.size : Int) := oD ‹_›; have hx7 := bt_at a0 x3_2; replace p7 := eq_true p7; replace q7 := eq_true q7; go_wp2
         go_roundg k2
         case measure => have := HJ1.out; have := HK2.out; omega
         case rel => exact ⟨(wrap64 (x3_2 + 1)), rR, H', ⟨by have := HJ1.out; have := HK2.out; omega⟩, drX⟩
        rw [if_neg c9] at H; have c9b0 : decide ((bt a0 x3_2) ≤ 122) = false := dN c9; clear c9; by_cases c10 : x3_2 = 0
        ·
         rw [if_pos c10] at H; have c10b0 : (x3_2 == 0) = true := beq_iff_eq.mpr c10; have c10b1 : (x3_2 != 0) = false := bne_eq_false_iff_eq.mpr c10; clear c10; obtain rfl := Option.some.inj H; have p7 : 0 ≤ (x3_2 : Int) := oD ‹_›; have q7 : x3_2 < (a0.size : Int) := oD ‹_›; have hx7 := bt_at a0 x3_2; replace p7 := eq_true p7; replace q7 := eq_true q7; go_wp2
         go_ret
         exact ⟨by first | rfl | (simp; done) | (simp [*]; done), drX⟩
        rw [if_neg c10] at H; have c10b0 : (x3_2 == 0) = false := beq_eq_false_iff_ne.mpr c10; have c10b1 : (x3_2 != 0) = true := bne_iff_ne.mpr c10; by_cases c11 : (bt a0 x3_2) ≥ 48
        ·
         rw [if_pos c11] at H; have c11b0 : decide (48 ≤ (bt a0 x3_2)) = true := dY c11; clear c11; by_cases c12 : ((bt a0 x3_2) ≤ 57)
         ·
          rw [if_pos c12] at H; have c12b0 : decide ((bt a0 x3_2) ≤ 57) = true := dY c12; clear c12; have H' := AM H; clear H; have p7 : 0 ≤ (x3_2 : Int) := oD ‹_›; have q7 : x3_2 < (a0.size : Int) := oD ‹_›; have hx7 := bt_at a0 x3_2; replace p7 := eq_true p7; replace q7 := eq_true q7; go_wp2
          go_roundg k2
          case measure => have := HJ1.out; have := HK2.out; omega
          case rel => exact ⟨(wrap64 (x3_2 + 1)), rR, H', ⟨by have := HJ1.out; have := HK2.out; omega⟩, drX⟩
         rw [if_neg c12] at H; have c12b0 : decide ((bt a0 x3_2) ≤ 57) = false := dN c12; clear c12; by_cases c13 : (bt a0 x3_2) = 95
         ·
          rw [if_pos c13] at H; have c13b0 : ((bt a0 x3_2) == 95) = true := beq_iff_eq.mpr c13; have c13b1 : ((bt a0 x3_2) != 95) = false := bne_eq_false_iff_eq.mpr c13; clear c13; have H' := AM H; clear H; have p7 : 0 ≤ (x3_2 : Int) := oD ‹_›; have q7 : x3_2 < (a0.size : Int) := oD ‹_›; have hx7 := bt_at a0 x3_2; replace p7 := eq_true p7; replace q7 := eq_true q7; go_wp2
          go_roundg k2
          case measure => have := HJ1.out; have := HK2.out; omega
          case rel => exact ⟨(wrap64 (x3_2 + 1)), rR, H', ⟨by have := HJ1.out; have := HK2.out; omega⟩, drX⟩
         rw [if_neg c13] at H; have c13b0 : ((bt a0 x3_2) == 95) = false := beq_eq_false_iff_ne.mpr c13; have c13b1 : ((bt a0 x3_2) != 95) = true := bne_iff_ne.mpr c13; obtain rfl := Option.some.inj H; have p7 : 0 ≤ (x3_2 : Int) := oD ‹_›; have q7 : x3_2 < (a0.size : Int) := oD ‹_›; have hx7 := bt_at a0 x3_2; replace p7 := eq_true p7; replace q7 := eq_true q7; go_wp2
         go_ret
         exact ⟨by first | rfl | (simp; done) | (simp [*]; done), drX⟩
        rw [if_neg c11] at H; have c11b0 : decide (48 ≤ (bt a0 x3_2)) = false := dN c11; clear c11; by_cases c14 : (bt a0 x3_2) = 95
        ·
         rw [if_pos c14] at H; have c14b0 : ((bt a0 x3_2) == 95) = true := beq_iff_eq.mpr c14; have c14b1 : ((bt a0 x3_2) != 95) = false := bne_eq_false_iff_eq.mpr c14; clear c14; have H' := AM H; clear H; have p7 : 0 ≤ (x3_2 : Int) := oD ‹_›; have q7 : x3_2 < (a0.size : Int) := oD ‹_›; have hx7 := bt_at a0 x3_2; replace p7 := eq_true p7; replace q7 := eq_true q7; go_wp2
         go_roundg k2
         case measure => have := HJ1.out; have := HK2.out; omega
         case rel => exact ⟨(wrap64 (x3_2 + 1)), rR, H', ⟨by have := HJ1.out; have := HK2.out; omega⟩, drX⟩
        rw [if_neg c14] at H; have c14b0 : ((bt a0 x3_2) == 95) = false := beq_eq_false_iff_ne.mpr c14; have c14b1 : ((bt a0 x3_2) != 95) = true := bne_iff_ne.mpr c14; obtain rfl := Option.some.inj H; have p7 : 0 ≤ (x3_2 : Int) := oD ‹_›; have q7 : x3_2 < (a0.size : Int) := oD ‹_›; have hx7 := bt_at a0 x3_2; replace p7 := eq_true p7; replace q7 := eq_true q7; go_wp2
        go_ret
        exact ⟨by first | rfl | (simp; done) | (simp [*]; done), drX⟩
       rw [if_neg c8] at H; have c8b0 : decide (97 ≤ (bt a0 x3_2)) = false := dN c8; clear c8; by_cases c15 : x3_2 = 0
       ·
        rw [if_pos c15] at H; have c15b0 : (x3_2 == 0) = true := beq_iff_eq.mpr c15; have c15b1 : (x3_2 != 0) = false := bne_eq_false_iff_eq.mpr c15; clear c15; obtain rfl := Option.some.inj H; have p7 : 0 ≤ (x3_2 : Int) := oD ‹_›; have q7 : x3_2 < (a0.size : Int) := oD ‹_›; have hx7 := bt_at a0 x3_2; replace p7 := eq_true p7; replace q7 := eq_true q7; go_wp2
        go_ret
        exact ⟨by first | rfl | (simp; done) | (simp [*]; done), drX⟩
       rw [if_neg c15] at H; have c15b0 : (x3_2 == 0) = false := beq_eq_false_iff_ne.mpr c15; have c15b1 : (x3_2 != 0) = true := bne_iff_ne.mpr c15; by_cases c16 : (bt a0 x3_2) ≥ 48
       ·
        rw [if_pos c16] at H; have c16b0 : decide (48 ≤ (bt a0 x3_2)) = true := dY c16; clear c16; by_cases c17 : ((bt a0 x3_2) ≤ 57)
        ·
         rw [if_pos c17] at H; have c17b0 : decide ((bt a0 x3_2) ≤ 57) = true := dY c17; clear c17; have H' := AM H; clear H; have p7 : 0 ≤ (x3_2 : Int) := oD ‹_›; have q7 : x3_2 < (a0.size : Int) := oD ‹_›; have hx7 := bt_at a0 x3_2; replace p7 := eq_true p7; replace q7 := eq_true q7; go_wp2
         go_roundg k2
         case measure => have := HJ1.out; have := HK2.out; omega
         case rel => exact ⟨(wrap64 (x3_2 + 1)), rR, H', ⟨by have := HJ1.out; have := HK2.out; omega⟩, drX⟩
        rw [if_neg c17] at H; have c17b0 : decide ((bt a0 x3_2) ≤ 57) = false := dN c17; clear c17; by_cases c18 : (bt a0 x3_2) = 95
        ·
         rw [if_pos c18] at H; have c18b0 : ((bt a0 x3_2) == 95) = true := beq_iff_eq.mpr c18; have c18b1 : ((bt a0 x3_2) != 95) = false := bne_eq_false_iff_eq.mpr c18; clear c18; have H' := AM H; clear H; have p7 : 0 ≤ (x3_2 : Int) := oD ‹_›; have q7 : x3_2 < (a0.size : Int) := oD ‹_›; have hx7 := bt_at a0 x3_2; replace p7 := eq_true p7; replace q7 := eq_true q7; go_wp2
         go_roundg k2
         case measure => have := HJ1.out; have := HK2.out; omega
         case rel => exact ⟨(wrap64 (x3_2 + 1)), rR, H', ⟨by have := HJ1.out; have := HK2.out; omega⟩, drX⟩
        rw [if_neg c18] at H; have c18b0 : ((bt a0 x3_2) == 95) = false := beq_eq_false_iff_ne.mpr c18; have c18b1 : ((bt a0 x3_2) != 95) = true := bne_iff_ne.mpr c18; obtain rfl := Option.some.inj H; have p7 : 0 ≤ (x3_2 : Int) := oD ‹_›; have q7 : x3_2 < (a0.size : Int) := oD ‹_›; have hx7 := bt_at a0 x3_2; replace p7 := eq_true p7; replace q7 := eq_true q7; go_wp2
        go_ret
        exact ⟨by first | rfl | (simp; done) | (simp [*]; done), drX⟩
       rw [if_neg c16] at H; have c16b0 : decide (48 ≤ (bt a0 x3_2)) = false := dN c16; clear c16; by_cases c19 : (bt a0 x3_2) = 95
       ·
        rw [if_pos c19] at H; have c19b0 : ((bt a0 x3_2) == 95) = true := beq_iff_eq.mpr c19; have c19b1 : ((bt a0 x3_2) != 95) = false := bne_eq_false_iff_eq.mpr c19; clear c19; have H' := AM H; clear H; have p7 : 0 ≤ (x3_2 : Int) := oD ‹_›; have q7 : x3_2 < (a0.size : Int) := oD ‹_›; have hx7 := bt_at a0 x3_2; replace p7 := eq_true p7; replace q7 := eq_true q7; go_wp2
        go_roundg k2
        case measure => have := HJ1.out; have := HK2.out; omega
        case rel => exact ⟨(wrap64 (x3_2 + 1)), rR, H', ⟨by have := HJ1.out; have := HK2.out; omega⟩, drX⟩
       rw [if_neg c19] at H; have c19b0 : ((bt a0 x3_2) == 95) = false := beq_eq_false_iff_ne.mpr c19; have c19b1 : ((bt a0 x3_2) != 95) = true := bne_iff_ne.mpr c19; obtain rfl := Option.some.inj H; have p7 : 0 ≤ (x3_2 : Int) := oD ‹_›; have q7 : x3_2 < (a0.size : Int) := oD ‹_›; have hx7 := bt_at a0 x3_2; replace p7 := eq_true p7; replace q7 := eq_true q7; go_wp2
       go_ret
       exact ⟨by first | rfl | (simp; done) | (simp [*]; done), drX⟩
      rw [if_neg c6] at H; exact absurd H (by simp)
     rw [if_neg c5] at H; have c5b0 := dN c5; clear c5; obtain rfl := Option.some.inj H; go_wp2
     go_ret
     exact ⟨by first | rfl | (simp; done) | (simp [*]; done), drX⟩

/-! ### spec_l07Text: function 81 -/

def spec_l07Text.f (a0 : ByteArray) : Option (Bool) := if (a0.size : Int) ≥ 1 then (some (decide ((a0.size : Int) ≤ 40))) else (some false)
set_option maxHeartbeats 60000000 in
set_option maxRecDepth 100000 in
theorem spec_l07Text.calls (a0 : ByteArray) (r : Bool) (w : World) (h : spec_l07Text.f a0 = some r) :
    Calls Try.prog 81 #[.string a0] w fun e w' => e = .returned (.bool r) ∧ Drawn0 w w' := by
 have H : (if (a0.size : Int) ≥ 1 then (some (decide ((a0.size : Int) ≤ 40))) else (some false)) = some r := h; clear h; by_cases c2 : (a0.size : Int) ≥ 1
 ·
  rw [if_pos c2] at H; have c2b0 : decide (1 ≤ (a0.size : Int)) = true := dY c2; have c2b1 : decide (1 ≤ a0.size) = true := dY (by omega); clear c2; obtain rfl := Option.some.inj H; go_enter Try.func81, Try.ntmps81
  go_wp2
  go_ret
  exact ⟨by first | rfl | (simp; done) | (simp [*]; done), drX⟩
 rw [if_neg c2] at H; have c2b0 : decide (1 ≤ (a0.size : Int)) = false := dN c2; have c2b1 : decide (1 ≤ a0.size) = false := dN (by omega); clear c2; obtain rfl := Option.some.inj H; go_enter Try.func81, Try.ntmps81
 go_wp2
 go_ret
 exact ⟨by first | rfl | (simp; done) | (simp [*]; done), drX⟩

/-! ### spec_TopicRight: function 59 -/
abbrev spec_TopicRight.b0 : Array Bool := #[true, true, true, true, true, true, true, true, true, false, true, false, false, false, false, false, false, false, false, false, false, false, false, false, false, false, false, false, false, false]
abbrev spec_TopicRight.b1 : Array Bool := #[true, true, true, true, true, true, true, true, true, false, true, true, false, false, false, false, false, false, false, false, false, false, false, false, false, false, false, false, false, false]
abbrev spec_TopicRight.b2 : Array Bool := #[true, true, true, true, true, true, true, true, true, false, true, true, false, false, false, true, false, false, false, false, false, false, false, false, false, false, false, false, false, false]
abbrev spec_TopicRight.b3 : Array Bool := #[true, true, true, true, true, true, true, true, true, true, true, true, false, false, false, true, false, false, false, false, false, false, false, false, false, false, false, false, false, false]
abbrev spec_TopicRight.b4 : Array Bool := #[true, true, true, true, true, true, true, true, true, true, true, true, true, false, false, true, false, false, false, false, false, false, false, false, false, false, false, false, false, false]
abbrev spec_TopicRight.b5 : Array Bool := #[true, true, true, true, true, true, true, true, true, true, true, true, true, true, false, true, false, false, false, false, false, false, false, false, false, false, false, false, false, false]
abbrev spec_TopicRight.b6 : Array Bool := #[true, true, true, true, true, true, true, true, true, true, true, true, true, true, true, true, true, true, true, true, true, true, false, true, false, false, false, false, false, false]
mutual
def spec_TopicRight.j0 : Nat → Bool → ByteArray → Int → List ByteArray → List (S55) → Option (Bool)
  | 0, _, _, _, _, _ => none
  | k + 1, x32, x102000, x102001, x102002, x102003 => if x32 = true then (some false) else (spec_TopicRight.l0 k 0 x102000 x102001 x102002 x102003)
def spec_TopicRight.l0 : Nat → Int → ByteArray → Int → List ByteArray → List (S55) → Option (Bool)
  | 0, _, _, _, _, _ => none
  | k + 1, x3, x102000, x102001, x102002, x102003 => if x3 < (x102002.length : Int) then (if 0 ≤ x3 then ((spec_l07Text.f (rdOf ByteArray.empty x102002 x3)).bind fun t106 => (if t106 = true then (spec_TopicRight.l0 k (wrap64 (x3 + 1)) x102000 x102001 x102002 x102003) else (some false))) else (none)) else (spec_TopicRight.l1 k 0 x102000 x102001 x102002 x102003)
def spec_TopicRight.l1 : Nat → Int → ByteArray → Int → List ByteArray → List (S55) → Option (Bool)
  | 0, _, _, _, _, _ => none
  | k + 1, x4, x102000, x102001, x102002, x102003 => if x4 < (x102003.length : Int) then (if 0 ≤ x4 then ((spec_NameRight.f k ((rd_T55 x102003 x4).f0)).bind fun t109 => (if t109 = true then (if x4 > 0 then (if 0 ≤ (wrap64 (x4 - 1)) then (if (wrap64 (x4 - 1)) < (x102003.length : Int) then (if ((Op.bytesLess (((rd_T55 x102003 (wrap64 (x4 - 1))).f0).toList) (((rd_T55 x102003 x4).f0).toList)) = true) then ((spec_l07End.f x102000 x102001 x102002 x102003).bind fun t111 => ((spec_l03Is.f ((rd_T55 x102003 x4).f1) x102001 t111).bind fun t112 => (if t112 = true then (spec_TopicRight.l1 k (wrap64 (x4 + 1)) x102000 x102001 x102002 x102003) else (some false)))) else (some false)) else (none)) else (none)) else ((spec_l07End.f x102000 x102001 x102002 x102003).bind fun t113 => ((spec_l03Is.f ((rd_T55 x102003 x4).f1) x102001 t113).bind fun t114 => (if t114 = true then (spec_TopicRight.l1 k (wrap64 (x4 + 1)) x102000 x102001 x102002 x102003) else (some false))))) else (some false))) else (none)) else (some true)
end
def spec_TopicRight.f (k : Nat) (a0_0 : ByteArray) (a0_1 : Int) (l0_2 : List ByteArray) (l0_3 : List (S55)) : Option (Bool) := (spec_NameRight.f k a0_0).bind fun t102 => (if t102 = true then ((spec_l03Is.f a0_1 0 1000000000).bind fun t103 => (if t103 = true then (if (l0_2.length : Int) > 20 then (spec_TopicRight.j0 k true a0_0 a0_1 l0_2 l0_3) else (if (l0_3.length : Int) > 4 then (spec_TopicRight.j0 k true a0_0 a0_1 l0_2 l0_3) else ((spec_l07End.f a0_0 a0_1 l0_2 l0_3).bind fun t104 => (spec_TopicRight.j0 k (decide (t104 > 1000000000)) a0_0 a0_1 l0_2 l0_3)))) else (spec_TopicRight.j0 k true a0_0 a0_1 l0_2 l0_3))) else (spec_TopicRight.j0 k true a0_0 a0_1 l0_2 l0_3))
def spec_TopicRight.T12 : Bool × List (List Nat × List Nat) := (true, [([], []), ([0], [0]), ([1], [1]), ([2], [2]), ([3, 2], [3]), ([4], [4]), ([5, 4], [4, 5]), ([6, 4, 4], [4, 6]), ([7], [7]), ([8, 7], [7, 8]), ([7], [7]), ([10, 7], [7, 10]), ([9, 11, 7], [7, 9, 11]), ([12, 7], [7, 12]), ([13, 7], [7, 13]), ([7], [7]), ([15, 7], [7, 15]), ([14, 16, 7], [7, 14, 16]), ([7, 17, 4], [4, 7, 17]), ([4, 18], [4, 18]), ([19, 7], [19]), ([20], [20]), ([21, 20], [20, 21]), ([20], [20]), ([23, 20], [20, 23]), ([20], [20]), ([25, 20, 20], [20, 25]), ([22, 24, 26, 26, 20], [20, 22, 24, 26]), ([27, 20], [20, 27]), ([20, 28], [20, 28])])
def spec_TopicRight.B12 : List Nat := [0, 1, 3, 7, 15, 31, 63, 127, 255, 511, 255, 1279, 4095, 8191, 16383, 255, 33023, 131071, 262143, 524287, 1048575, 2097151, 4194303, 2097151, 10485759, 2097151, 35651583, 134217727, 268435455, 536870911]
theorem spec_TopicRight.tab12 : rtab .any (opsOf Try.f59 12) = spec_TopicRight.T12 := by kernel_rfl
theorem spec_TopicRight.bits12 : waitsOk spec_TopicRight.T12.2 spec_TopicRight.B12 = true := by kernel_rfl
set_option maxHeartbeats 60000000 in
set_option maxRecDepth 100000 in
theorem spec_TopicRight.calls (k : Nat) (a0_0 : ByteArray) (a0_1 : Int) (A0_2 : Option Addr) (c0_2 : Nat) (l0_2 : List ByteArray) (A0_3 : Option Addr) (c0_3 : Nat) (l0_3 : List (S55)) (r : Bool) (w : World) (hr0_2 : Kd.C Kd.string w A0_2 l0_2.length l0_2) (hc0_2 : l0_2.length ≤ c0_2) (hr0_3 : Kd.C k55 w A0_3 l0_3.length l0_3) (hc0_3 : l0_3.length ≤ c0_3) (h : spec_TopicRight.f k a0_0 a0_1 l0_2 l0_3 = some r) :
    Calls Try.prog 59 #[.agg #[.string a0_0, .int .i64 a0_1, .slice A0_2 l0_2.length c0_2, .slice A0_3 l0_3.length c0_3]] w fun e w' => e = .returned (.bool r) ∧ Below w.heap.size w w' := by
 have hu29 := Try.underlying29; have hu55 := Try.underlying55; have HR0_2 := AM hr0_2; have HC0_2 := AM hc0_2; clear hr0_2 hc0_2; have HR0_3 := AM hr0_3; have HC0_3 := AM hc0_3; clear hr0_3 hc0_3; have HB := AM (Below.refl w.heap.size w); have H : ((spec_NameRight.f k a0_0).bind fun t102 => (if t102 = true then ((spec_l03Is.f a0_1 0 1000000000).bind fun t103 => (if t103 = true then (if (l0_2.length : Int) > 20 then (spec_TopicRight.j0 k true a0_0 a0_1 l0_2 l0_3) else (if (l0_3.length : Int) > 4 then (spec_TopicRight.j0 k true a0_0 a0_1 l0_2 l0_3) else ((spec_l07End.f a0_0 a0_1 l0_2 l0_3).bind fun t104 => (spec_TopicRight.j0 k (decide (t104 > 1000000000)) a0_0 a0_1 l0_2 l0_3)))) else (spec_TopicRight.j0 k true a0_0 a0_1 l0_2 l0_3))) else (spec_TopicRight.j0 k true a0_0 a0_1 l0_2 l0_3))) = some r := h; clear h; have HC2 := AM H; clear H; go_enter Try.func59, Try.ntmps59
 go_upto_region 1 with (first | ((with_reducible refine gate_dst (N := 1) rfl ?_); (try (refine gate_guard (by rfl) ?_; dsimp only)); refine bE (cs := #[.string a0_0, .int .i64 a0_1, .slice A0_2 l0_2.length c0_2, .slice A0_3 l0_3.length c0_3]) (t := 29) ?_; intro gb101 hg w3 hbox hb; have GW101 := gY hg HB; have GE101 := GW101; have BK101 := AM (hbox); replace HB := bY HB hb; clear hb hbox hg))
 (try simp only [Act.put, List.setIfInBounds_toArray, List.set_cons_zero, List.set_cons_succ]); go_cut [32] (fun v32 wc => ∃ (kq : Nat) (x32_1 : Bool), v32 = .bool x32_1 ∧ Aside0 (spec_TopicRight.j0 kq x32_1 a0_0 a0_1 l0_2 l0_3 = some r) ∧ Aside0 (kq ≤ k) ∧ Aside0 (wc.heap[gb101]? = some (.cells #[.string a0_0, .int .i64 a0_1, (.slice A0_2 l0_2.length c0_2), (.slice A0_3 l0_3.length c0_3)] 29 (0, 0))) ∧ Aside0 (Below w.heap.size w wc))
 case first =>
  have H := HC2.out; clear HC2; replace H := oM H; obtain ⟨t102, A40, H⟩ := H; have A4 := AM A40; clear A40; by_cases c5 : t102 = true
  ·
   subst c5; rw [if_pos rfl] at H; replace H := oM H; obtain ⟨t103, A60, H⟩ := H; have A6 := AM A60; clear A60; by_cases c7 : t103 = true
   ·
    subst c7; rw [if_pos rfl] at H; by_cases c8 : (l0_2.length : Int) > 20
    ·
     rw [if_pos c8] at H; have c8b0 : decide (20 < (l0_2.length : Int)) = true := dY c8; have c8b1 : decide (20 < l0_2.length) = true := dY (by omega); clear c8
     (first | rw [c8b0] | (simp only [i64_w, i32_w]; rw [c8b0]) | skip)
     have H' := AM H; clear H; have hcz9 := q4 BK101.out; have hfz9 := fZ BK101.out; go_wp2_with (first | ((with_reducible refine gate_callee (f := 63) rfl ?_); refine gL (some 8) Try.func63 #[.string a0_0] ?_; (with_reducible refine (spec_NameRight.calls _ _ _ _ A4.out).mono ?_); rintro e w' ⟨rfl, ⟨nd, rfl⟩⟩; refine ⟨_, rfl, ?_⟩) | (go_at_call 33; (with_reducible refine (spec_l03Is.calls _ _ _ _ _ A6.out).mono ?_); rintro e w' ⟨rfl, ⟨nd, rfl⟩⟩))
     go_meet
     case rel => exact ⟨_, (true), rR, H', ⟨by first | omega | exact Nat.le_refl _⟩, ⟨kX BK101.out⟩, ⟨bX HB.out⟩⟩
    rw [if_neg c8] at H; have c8b0 : decide (20 < (l0_2.length : Int)) = false := dN c8; have c8b1 : decide (20 < l0_2.length) = false := dN (by omega); clear c8
    (first | rw [c8b0] | (simp only [i64_w, i32_w]; rw [c8b0]) | skip)
    by_cases c10 : (l0_3.length : Int) > 4
    ·
     rw [if_pos c10] at H; have c10b0 : decide (4 < (l0_3.length : Int)) = true := dY c10; have c10b1 : decide (4 < l0_3.length) = true := dY (by omega); clear c10; have H' := AM H; clear H; have hcz11 := q4 BK101.out; have hfz11 := fZ BK101.out; go_wp2_with (first | ((with_reducible refine gate_callee (f := 63) rfl ?_); refine gL (some 8) Try.func63 #[.string a0_0] ?_; (with_reducible refine (spec_NameRight.calls _ _ _ _ A4.out).mono ?_); rintro e w' ⟨rfl, ⟨nd, rfl⟩⟩; refine ⟨_, rfl, ?_⟩) | (go_at_call 33; (with_reducible refine (spec_l03Is.calls _ _ _ _ _ A6.out).mono ?_); rintro e w' ⟨rfl, ⟨nd, rfl⟩⟩))
     go_meet
     case rel => exact ⟨_, (true), rR, H', ⟨by first | omega | exact Nat.le_refl _⟩, ⟨kX BK101.out⟩, ⟨bX HB.out⟩⟩
    rw [if_neg c10] at H; have c10b0 : decide (4 < (l0_3.length : Int)) = false := dN c10; have c10b1 : decide (4 < l0_3.length) = false := dN (by omega); clear c10; replace H := oM H; obtain ⟨t104, A120, H⟩ := H; have A12 := AM A120; clear A120; have H' := AM H; clear H; have hcz13 := q4 BK101.out; have hfz13 := fZ BK101.out; go_wp2_with (first | ((with_reducible refine gate_callee (f := 63) rfl ?_); refine gL (some 8) Try.func63 #[.string a0_0] ?_; (with_reducible refine (spec_NameRight.calls _ _ _ _ A4.out).mono ?_); rintro e w' ⟨rfl, ⟨nd, rfl⟩⟩; refine ⟨_, rfl, ?_⟩) | (go_at_call 33; (with_reducible refine (spec_l03Is.calls _ _ _ _ _ A6.out).mono ?_); rintro e w' ⟨rfl, ⟨nd, rfl⟩⟩) | (go_at_call 61; (with_reducible refine (spec_l07End.calls _ _ _ _ _ _ _ _ _ _ ?s1 ?s2 ?s3 ?s4 A12.out).mono ?_); (case s1 => repeat (first | exact (cB HR0_2.out (bX HB.out)) | (with_reducible first | apply cA | apply cN | apply cD))); (case s2 => exact HC0_2.out); (case s3 => repeat (first | exact (cB HR0_3.out (bX HB.out)) | (with_reducible first | apply cA | apply cN | apply cD))); (case s4 => exact HC0_3.out); rintro e w14 ⟨rfl, hb⟩; have _ := nY BK101 hb; have _ := bY HB hb; clear BK101 HB; rename_i BK101 HB))
    go_meet
    case rel => exact ⟨_, (decide (t104 > 1000000000)), rR, H', ⟨by first | omega | exact Nat.le_refl _⟩, ⟨kX BK101.out⟩, ⟨bX HB.out⟩⟩
   replace c7 := oE c7; subst c7; rw [if_neg nft] at H; have H' := AM H; clear H; have hcz15 := q4 BK101.out; have hfz15 := fZ BK101.out; go_wp2_with (first | ((with_reducible refine gate_callee (f := 63) rfl ?_); refine gL (some 8) Try.func63 #[.string a0_0] ?_; (with_reducible refine (spec_NameRight.calls _ _ _ _ A4.out).mono ?_); rintro e w' ⟨rfl, ⟨nd, rfl⟩⟩; refine ⟨_, rfl, ?_⟩) | (go_at_call 33; (with_reducible refine (spec_l03Is.calls _ _ _ _ _ A6.out).mono ?_); rintro e w' ⟨rfl, ⟨nd, rfl⟩⟩))
   go_meet
   case rel => exact ⟨_, (true), rR, H', ⟨by first | omega | exact Nat.le_refl _⟩, ⟨kX BK101.out⟩, ⟨bX HB.out⟩⟩
  replace c5 := oE c5; subst c5; rw [if_neg nft] at H; have H' := AM H; clear H; have hcz16 := q4 BK101.out; have hfz16 := fZ BK101.out; go_wp2_with (first | ((with_reducible refine gate_callee (f := 63) rfl ?_); refine gL (some 8) Try.func63 #[.string a0_0] ?_; (with_reducible refine (spec_NameRight.calls _ _ _ _ A4.out).mono ?_); rintro e w' ⟨rfl, ⟨nd, rfl⟩⟩; refine ⟨_, rfl, ?_⟩))
  go_meet
  case rel => exact ⟨_, (true), rR, H', ⟨by first | omega | exact Nat.le_refl _⟩, ⟨kX BK101.out⟩, ⟨bX HB.out⟩⟩
 case rest =>
  clear HC2; (try clear c1); (try clear p2); (try clear c5); (try clear c6); (try clear c7); (try clear c8); (try clear c8b0); (try clear c8b1); (try clear c10); (try clear c10b0); (try clear c10b1); (try clear hcz11); (try clear hcz13); (try clear hcz15); (try clear hcz16); (try clear hcz9); (try clear hfz11); (try clear hfz13); (try clear hfz15); (try clear hfz16); (try clear hfz9); obtain ⟨kq, x32_1, rfl, HA, HJ1, BK101, HB⟩ := hcut
  cases kq with
  | zero => exact absurd HA.out (by simp [spec_TopicRight.j0])
  | succ kj1 =>
   have H := HA.out; clear HA; simp only [spec_TopicRight.j0] at H
   by_cases c17 : x32_1 = true
   ·
    subst c17; rw [if_pos rfl] at H; obtain rfl := Option.some.inj H; go_wp2
    go_ret
    exact ⟨rE, bX HB.out⟩
   replace c17 := oE c17; subst c17; rw [if_neg nft] at H; have H' := AM H; clear H; go_wp2
   go_loopg [3] kj1 (fun kq v3 w' => ∃ (x3_2 : Int), v3 = .int .i64 x3_2 ∧ Aside0 (spec_TopicRight.l0 kq x3_2 a0_0 a0_1 l0_2 l0_3 = some r) ∧ Aside0 (kq ≤ kj1) ∧ Aside0 (w'.heap[gb101]? = some (.cells #[.string a0_0, .int .i64 a0_1, (.slice A0_2 l0_2.length c0_2), (.slice A0_3 l0_3.length c0_3)] 29 (0, 0))) ∧ Aside0 (Below w.heap.size w w'))
   case atStart => exact ⟨(0), rR, H', ⟨Nat.le_refl _⟩, ⟨kX BK101.out⟩, ⟨bX HB.out⟩⟩
   case round =>
    clear H'; (try clear c1); (try clear p2); (try clear c5); (try clear c6); (try clear c7); (try clear c8); (try clear c8b0); (try clear c8b1); (try clear c10); (try clear c10b0); (try clear c10b1); (try clear c17); (try clear hcz11); (try clear hcz13); (try clear hcz15); (try clear hcz16); (try clear hcz9); (try clear hfz11); (try clear hfz13); (try clear hfz15); (try clear hfz16); (try clear hfz9); obtain ⟨x3_2, rfl, HA, HK2, BK101, HB⟩ := hrel
    cases gk with
    | zero => exact absurd HA.out (by simp [spec_TopicRight.l0])
    | succ k2 =>
     have H := HA.out; clear HA; simp only [spec_TopicRight.l0] at H
     by_cases c18 : x3_2 < (l0_2.length : Int)
     ·
      rw [if_pos c18] at H; have c18b0 := dY c18; clear c18; by_cases c19 : 0 ≤ x3_2
      ·
       rw [if_pos c19] at H; have c19b0 := dY c19; clear c19; replace H := oM H; obtain ⟨t106, A200, H⟩ := H; have A20 := AM A200; clear A200; by_cases c21 : t106 = true
       ·
        subst c21; rw [if_pos rfl] at H; have H' := AM H; clear H; have hcz22 := q4 BK101.out; have hfz22 := fZ BK101.out; obtain ⟨p105, q105, ad105, e105, hx105_0⟩ := pQ (Kd.at_string HR0_2.out x3_2); cases e105; replace hx105_0 := pB HB.out hx105_0; go_wp2_with (first | ((with_reducible refine gate_callee (f := 81) rfl ?_); refine gL (some 45) Try.func81 #[.string (rdOf ByteArray.empty l0_2 x3_2)] ?_; (with_reducible refine (spec_l07Text.calls _ _ _ A20.out).mono ?_); rintro e w' ⟨rfl, ⟨nd, rfl⟩⟩; refine ⟨_, rfl, ?_⟩))
        go_roundg k2
        case measure => have := HJ1.out; have := HK2.out; omega
        case rel => exact ⟨(wrap64 (x3_2 + 1)), rR, H', ⟨by have := HJ1.out; have := HK2.out; omega⟩, ⟨kX BK101.out⟩, ⟨bX HB.out⟩⟩
       replace c21 := oE c21; subst c21; rw [if_neg nft] at H; obtain rfl := Option.some.inj H; have hcz23 := q4 BK101.out; have hfz23 := fZ BK101.out; obtain ⟨p105, q105, ad105, e105, hx105_0⟩ := pQ (Kd.at_string HR0_2.out x3_2); cases e105; replace hx105_0 := pB HB.out hx105_0; go_wp2_with (first | ((with_reducible refine gate_callee (f := 81) rfl ?_); refine gL (some 45) Try.func81 #[.string (rdOf ByteArray.empty l0_2 x3_2)] ?_; (with_reducible refine (spec_l07Text.calls _ _ _ A20.out).mono ?_); rintro e w' ⟨rfl, ⟨nd, rfl⟩⟩; refine ⟨_, rfl, ?_⟩))
       go_ret
       exact ⟨rE, bX HB.out⟩
      rw [if_neg c19] at H; exact absurd H (by simp)
     rw [if_neg c18] at H; have c18b0 := dN c18; clear c18; have H' := AM H; clear H; have hcz24 := q4 BK101.out; have hfz24 := fZ BK101.out; go_wp2
     go_loopg [4] k2 (fun kq v4 w' => ∃ (x4_3 : Int), v4 = .int .i64 x4_3 ∧ Aside0 (spec_TopicRight.l1 kq x4_3 a0_0 a0_1 l0_2 l0_3 = some r) ∧ Aside0 (kq ≤ k2) ∧ Aside0 (w'.heap[gb101]? = some (.cells #[.string a0_0, .int .i64 a0_1, (.slice A0_2 l0_2.length c0_2), (.slice A0_3 l0_3.length c0_3)] 29 (0, 0))) ∧ Aside0 (Below w.heap.size w w'))
     case atStart => exact ⟨(0), rR, H', ⟨Nat.le_refl _⟩, ⟨kX BK101.out⟩, ⟨bX HB.out⟩⟩
     case round =>
      clear H'; (try clear c1); (try clear p1); (try clear q1); (try clear hx1); (try clear c2); (try clear p2); (try clear c5); (try clear c6); (try clear p6); (try clear c7); (try clear c8); (try clear c8b0); (try clear c8b1); (try clear c10); (try clear c10b0); (try clear c10b1); (try clear p10); (try clear q10); (try clear hx10); (try clear c17); (try clear c18); (try clear c18b0); (try clear c19); (try clear c19b0); (try clear c21); (try clear hcz11); (try clear hcz13); (try clear hcz15); (try clear hcz16); (try clear hcz22); (try clear hcz23); (try clear hcz24); (try clear hcz9); (try clear hfz11); (try clear hfz13); (try clear hfz15); (try clear hfz16); (try clear hfz22); (try clear hfz23); (try clear hfz24); (try clear hfz9); (try clear hx105_0); (try clear p105); (try clear q105); obtain ⟨x4_3, rfl, HA, HK3, BK101, HB⟩ := hrel
      cases gk with
      | zero => exact absurd HA.out (by simp [spec_TopicRight.l1])
      | succ k3 =>
       have H := HA.out; clear HA; simp only [spec_TopicRight.l1] at H
       by_cases c25 : x4_3 < (l0_3.length : Int)
       ·
        rw [if_pos c25] at H; have c25b0 := dY c25; clear c25; by_cases c26 : 0 ≤ x4_3
        ·
         rw [if_pos c26] at H; have c26b0 := dY c26; clear c26; replace H := oM H; obtain ⟨t109, A270, H⟩ := H; have A27 := AM A270; clear A270; by_cases c28 : t109 = true
         ·
          subst c28; rw [if_pos rfl] at H; by_cases c29 : x4_3 > 0
          ·
           rw [if_pos c29] at H; have c29b0 : decide (0 < x4_3) = true := dY c29; clear c29; obtain ⟨ji30, hji30⟩ : ∃ j_ : Int, (wrap64 (x4_3 - 1)) = j_ := ⟨_, rfl⟩; replace H : (if 0 ≤ (ji30) then (if (ji30) < (l0_3.length : Int) then (if ((Op.bytesLess (((rd_T55 l0_3 (ji30)).f0).toList) (((rd_T55 l0_3 x4_3).f0).toList)) = true) then ((spec_l07End.f a0_0 a0_1 l0_2 l0_3).bind fun t111 => ((spec_l03Is.f ((rd_T55 l0_3 x4_3).f1) a0_1 t111).bind fun t112 => (if t112 = true then (spec_TopicRight.l1 k3 (wrap64 (x4_3 + 1)) a0_0 a0_1 l0_2 l0_3) else (some false)))) else (some false)) else (none)) else (none)) = some r := by first | (rw [hji30] at H; exact H) | (simp only [hji30] at H ⊢; exact H)
           (try rw [hji30] at A27); have hji30w : (IntKind.i64.wrap (x4_3 - 1)) = ji30 := (i64_w _).trans hji30; by_cases c31 : 0 ≤ (ji30)
           ·
            rw [if_pos c31] at H; have c31b0 := dY c31; clear c31; by_cases c32 : (ji30) < (l0_3.length : Int)
            ·
             rw [if_pos c32] at H; have c32b0 := dY c32; clear c32; by_cases c33 : ((Op.bytesLess (((rd_T55 l0_3 (ji30)).f0).toList) (((rd_T55 l0_3 x4_3).f0).toList)) = true)
             ·
              rw [if_pos c33] at H; have c33b0 : (Op.bytesLess (((rd_T55 l0_3 (ji30)).f0).toList) (((rd_T55 l0_3 x4_3).f0).toList)) = true := c33; clear c33; replace H := oM H; obtain ⟨t111, A340, H⟩ := H; have A34 := AM A340; clear A340; replace H := oM H; obtain ⟨t112, A350, H⟩ := H; have A35 := AM A350; clear A350; by_cases c36 : t112 = true
              ·
               subst c36; rw [if_pos rfl] at H; have H' := AM H; clear H; have hcz37 := q4 BK101.out; have hfz37 := fZ BK101.out; obtain ⟨p107, q107, ad107, e107, hx107_0, hx107_1⟩ := pQ (at_T55 (cB HR0_3.out HB.out) x4_3); cases e107; try go_wp2_with (first | ((with_reducible refine gate_dst (N := 5) rfl ?_); (try (refine gate_guard (by rfl) ?_; dsimp only)); refine bE (cs := zz2) (t := 55) ?_; intro gb108 hg w38 hbox hb; have GW108 := gY hg HB; have GE108 := GW108; have BK108 := AM (hbox); have NB101_108 := lY hg BK101; have NB108_101 := sY NB101_108; replace BK101 := nY BK101 hb; replace HB := bY HB hb; clear hb hbox hg; have hnb39 := nP NB108_101; have hcz40 := q2 BK108.out; have hfz40 := fZ BK108.out))
               generalize hW_ : ((w38.setCell ⟨gb108, 0, none⟩ (.string ((rd_T55 l0_3 x4_3).f0))).setCell ⟨gb108, 1, none⟩ (.int .i64 ((rd_T55 l0_3 x4_3).f1))) = w41; have n0_ := kW hW_ BK101 (by intro h_; refine kF NB101_108.out ?_; refine kF NB101_108.out ?_; exact kX h_)
               have n1_ := pW2 hW_ BK108
               have n2_ := bW hW_ HB
               (try clear BK101); (try clear BK108); (try clear HB); clear hW_; have BK101 := n0_; have BK108 := n1_; have HB := n2_; clear n0_ n1_ n2_; replace BK101 := kDY BK101; replace BK108 := kDY BK108; replace HB := bDY HB; obtain ⟨p110, q110, ad110, e110, hx110_0, hx110_1⟩ := pQ (at_T55 HR0_3.out (ji30)); have hw110_1 := hx110_1; have hw110_0 := hx110_0; obtain rfl : ad107 = ad110 := (by injection e110); replace hx110_0 := pB HB.out hx110_0; replace hx110_1 := pB HB.out hx110_1; refine start_ (n := 30) (S := fun w' => w'.cell? ⟨gb108, 0, none⟩ = some (.string ((rd_T55 l0_3 x4_3).f0)) ∧ w'.cell? ⟨gb108, 1, none⟩ = some (.int .i64 ((rd_T55 l0_3 x4_3).f1)) ∧ w'.cell? ⟨gb101, 0, none⟩ = some (.string a0_0) ∧ w'.cell? ⟨gb101, 1, none⟩ = some (.int .i64 a0_1) ∧ w'.cell? ⟨gb101, 2, none⟩ = some (.slice A0_2 l0_2.length c0_2) ∧ w'.cell? ⟨gb101, 3, none⟩ = some (.slice (some ad107) l0_3.length c0_3) ∧ w'.cell? (ad107.add (((ji30)).toNat * 2)) = some (.string ((rd_T55 l0_3 (ji30)).f0)) ∧ w'.cell? ⟨(ad107.add (((ji30)).toNat * 2)).block, (ad107.add (((ji30)).toNat * 2)).off + 1, none⟩ = some (.int .i64 ((rd_T55 l0_3 (ji30)).f1))) (ds := []) (upTo 0 30) (by kernel_rfl) rfl rfl ⟨hC BK108.out 0, hC BK108.out 1, hC BK101.out 0, hC BK101.out 1, hC BK101.out 2, hC BK101.out 3, (pB HB.out hw110_0), (pB HB.out hw110_1)⟩ (fun hHeld => ?_); refine with_tabW spec_TopicRight.tab12 spec_TopicRight.bits12 (fun HT_ HW_ => ?_); generalize w41.drew = w42 at BK101 BK108 HB hx110_0 hx110_1 hHeld ⊢; refine pF 0 1 30 59 ?_; refine pT2 1 60 (upTo 2 30) ?_ hHeld; refine oU 2 61 (upTo 3 30) HT_.out (fun K hK => ?_); refine gs Try.func63 #[.string ((rd_T55 l0_3 x4_3).f0)] ?_; with_reducible refine (spec_NameRight.calls k3 ((rd_T55 l0_3 x4_3).f0) true _ A27.out).mono ?_
               rintro e w' ⟨rfl, ⟨nd, rfl⟩⟩; refine ⟨_, rfl, ?_⟩; refine hK.out _ _ ⟨hC BK108.out 0, hC BK108.out 1, hC BK101.out 0, hC BK101.out 1, hC BK101.out 2, hC BK101.out 3, (pB HB.out hw110_0), (pB HB.out hw110_1)⟩ (fun hHeld => ?_); clear hK K; refine nS 61 ?_
               refine pF 3 4 30 62 ?_; refine pF 4 5 30 63 ?_; refine pF 5 6 30 64 ?_; refine pF 6 7 30 65 ?_; refine pF 7 8 30 66 ?_; refine pF 8 9 30 67 ?_; refine pF2 10 69 spec_TopicRight.b0 ?_; refine pF2 11 70 spec_TopicRight.b1 ?_; refine pF2 15 74 spec_TopicRight.b2 ?_; refine pT2 9 68 spec_TopicRight.b3 ?_ hHeld; refine pF2 12 71 spec_TopicRight.b4 ?_; refine pF2 13 72 spec_TopicRight.b5 ?_; refine pT2 14 73 (upTo 16 30) ?_ hHeld; refine pT2 16 75 (upTo 17 30) ?_ hHeld; refine pF 17 18 30 76 ?_; refine pF 18 19 30 77 ?_; refine pF 19 20 30 78 ?_; refine pF 20 21 30 79 ?_; refine pF 21 22 30 80 ?_; refine pF2 23 82 spec_TopicRight.b6 ?_; refine pT2 22 81 (upTo 24 30) ?_ hHeld; refine pT2 24 83 (upTo 25 30) ?_ hHeld; refine pT2 25 84 (upTo 26 30) ?_ hHeld; refine oU 26 85 (upTo 27 30) HT_.out (fun K hK => ?_); refine gs Try.func61 #[.agg #[.string a0_0, .int .i64 a0_1, .slice A0_2 l0_2.length c0_2, .slice (some ad107) l0_3.length c0_3]] ?_; with_reducible refine (spec_l07End.calls a0_0 a0_1 _ _ l0_2 _ _ l0_3 t111 _ ?s1 ?s2 ?s3 ?s4 A34.out).mono ?_
               (case s1 => repeat (first | exact (cB HR0_2.out (bX HB.out)) | (with_reducible first | apply cA | apply cN | apply cD)))
               (case s2 => exact HC0_2.out)
               (case s3 => repeat (first | exact (cB HR0_3.out (bX HB.out)) | (with_reducible first | apply cA | apply cN | apply cD)))
               (case s4 => exact HC0_3.out)
               rintro e w43 ⟨rfl, hb⟩; refine ⟨_, rfl, ?_⟩; replace BK101 := nY BK101 hb; replace BK108 := nY BK108 hb; replace HB := bY HB hb; refine hK.out _ _ ⟨hC BK108.out 0, hC BK108.out 1, hC BK101.out 0, hC BK101.out 1, hC BK101.out 2, hC BK101.out 3, (pB HB.out hw110_0), (pB HB.out hw110_1)⟩ (fun hHeld => ?_); clear hK K; refine nS 85 ?_
               refine oU 27 86 (upTo 28 30) HT_.out (fun K hK => ?_); refine gs Try.func33 #[.int .i64 ((rd_T55 l0_3 x4_3).f1), .int .i64 a0_1, .int .i64 t111] ?_; with_reducible refine (spec_l03Is.calls ((rd_T55 l0_3 x4_3).f1) a0_1 t111 true _ A35.out).mono ?_
               rintro e w' ⟨rfl, ⟨nd, rfl⟩⟩; refine ⟨_, rfl, ?_⟩; refine hK.out _ _ ⟨hC BK108.out 0, hC BK108.out 1, hC BK101.out 0, hC BK101.out 1, hC BK101.out 2, hC BK101.out 3, (pB HB.out hw110_0), (pB HB.out hw110_1)⟩ (fun hHeld => ?_); clear hK K; refine nS 86 ?_
               refine pF 28 29 30 87 ?_; refine pF 29 30 30 88 ?_; refine done_ (done_of HT_.out (by kernel_rfl)) ?_; try go_wp2
               go_roundg k3
               case measure => have := HJ1.out; have := HK2.out; have := HK3.out; omega
               case rel => exact ⟨(wrap64 (x4_3 + 1)), rR, H', ⟨by have := HJ1.out; have := HK2.out; have := HK3.out; omega⟩, ⟨kX BK101.out⟩, ⟨bX HB.out⟩⟩
              replace c36 := oE c36; subst c36; rw [if_neg nft] at H; obtain rfl := Option.some.inj H; have hcz44 := q4 BK101.out; have hfz44 := fZ BK101.out; obtain ⟨p107, q107, ad107, e107, hx107_0, hx107_1⟩ := pQ (at_T55 (cB HR0_3.out HB.out) x4_3); cases e107; try go_wp2_with (first | ((with_reducible refine gate_dst (N := 5) rfl ?_); (try (refine gate_guard (by rfl) ?_; dsimp only)); refine bE (cs := zz2) (t := 55) ?_; intro gb108 hg w45 hbox hb; have GW108 := gY hg HB; have GE108 := GW108; have BK108 := AM (hbox); have NB101_108 := lY hg BK101; have NB108_101 := sY NB101_108; replace BK101 := nY BK101 hb; replace HB := bY HB hb; clear hb hbox hg; have hnb46 := nP NB108_101; have hcz47 := q2 BK108.out; have hfz47 := fZ BK108.out))
              generalize hW_ : ((w45.setCell ⟨gb108, 0, none⟩ (.string ((rd_T55 l0_3 x4_3).f0))).setCell ⟨gb108, 1, none⟩ (.int .i64 ((rd_T55 l0_3 x4_3).f1))) = w48; have n0_ := kW hW_ BK101 (by intro h_; refine kF NB101_108.out ?_; refine kF NB101_108.out ?_; exact kX h_)
              have n1_ := pW2 hW_ BK108
              have n2_ := bW hW_ HB
              (try clear BK101); (try clear BK108); (try clear HB); clear hW_; have BK101 := n0_; have BK108 := n1_; have HB := n2_; clear n0_ n1_ n2_; replace BK101 := kDY BK101; replace BK108 := kDY BK108; replace HB := bDY HB; obtain ⟨p110, q110, ad110, e110, hx110_0, hx110_1⟩ := pQ (at_T55 HR0_3.out (ji30)); have hw110_1 := hx110_1; have hw110_0 := hx110_0; obtain rfl : ad107 = ad110 := (by injection e110); replace hx110_0 := pB HB.out hx110_0; replace hx110_1 := pB HB.out hx110_1; refine start_ (n := 30) (S := fun w' => w'.cell? ⟨gb108, 0, none⟩ = some (.string ((rd_T55 l0_3 x4_3).f0)) ∧ w'.cell? ⟨gb108, 1, none⟩ = some (.int .i64 ((rd_T55 l0_3 x4_3).f1)) ∧ w'.cell? ⟨gb101, 0, none⟩ = some (.string a0_0) ∧ w'.cell? ⟨gb101, 1, none⟩ = some (.int .i64 a0_1) ∧ w'.cell? ⟨gb101, 2, none⟩ = some (.slice A0_2 l0_2.length c0_2) ∧ w'.cell? ⟨gb101, 3, none⟩ = some (.slice (some ad107) l0_3.length c0_3) ∧ w'.cell? (ad107.add (((ji30)).toNat * 2)) = some (.string ((rd_T55 l0_3 (ji30)).f0)) ∧ w'.cell? ⟨(ad107.add (((ji30)).toNat * 2)).block, (ad107.add (((ji30)).toNat * 2)).off + 1, none⟩ = some (.int .i64 ((rd_T55 l0_3 (ji30)).f1))) (ds := []) (upTo 0 30) (by kernel_rfl) rfl rfl ⟨hC BK108.out 0, hC BK108.out 1, hC BK101.out 0, hC BK101.out 1, hC BK101.out 2, hC BK101.out 3, (pB HB.out hw110_0), (pB HB.out hw110_1)⟩ (fun hHeld => ?_); refine with_tabW spec_TopicRight.tab12 spec_TopicRight.bits12 (fun HT_ HW_ => ?_); generalize w48.drew = w49 at BK101 BK108 HB hx110_0 hx110_1 hHeld ⊢; refine pF 0 1 30 59 ?_; refine pT2 1 60 (upTo 2 30) ?_ hHeld; refine oU 2 61 (upTo 3 30) HT_.out (fun K hK => ?_); refine gs Try.func63 #[.string ((rd_T55 l0_3 x4_3).f0)] ?_; with_reducible refine (spec_NameRight.calls k3 ((rd_T55 l0_3 x4_3).f0) true _ A27.out).mono ?_
              rintro e w' ⟨rfl, ⟨nd, rfl⟩⟩; refine ⟨_, rfl, ?_⟩; refine hK.out _ _ ⟨hC BK108.out 0, hC BK108.out 1, hC BK101.out 0, hC BK101.out 1, hC BK101.out 2, hC BK101.out 3, (pB HB.out hw110_0), (pB HB.out hw110_1)⟩ (fun hHeld => ?_); clear hK K; refine nS 61 ?_
              refine pF 3 4 30 62 ?_; refine pF 4 5 30 63 ?_; refine pF 5 6 30 64 ?_; refine pF 6 7 30 65 ?_; refine pF 7 8 30 66 ?_; refine pF 8 9 30 67 ?_; refine pF2 10 69 spec_TopicRight.b0 ?_; refine pF2 11 70 spec_TopicRight.b1 ?_; refine pF2 15 74 spec_TopicRight.b2 ?_; refine pT2 9 68 spec_TopicRight.b3 ?_ hHeld; refine pF2 12 71 spec_TopicRight.b4 ?_; refine pF2 13 72 spec_TopicRight.b5 ?_; refine pT2 14 73 (upTo 16 30) ?_ hHeld; refine pT2 16 75 (upTo 17 30) ?_ hHeld; refine pF 17 18 30 76 ?_; refine pF 18 19 30 77 ?_; refine pF 19 20 30 78 ?_; refine pF 20 21 30 79 ?_; refine pF 21 22 30 80 ?_; refine pF2 23 82 spec_TopicRight.b6 ?_; refine pT2 22 81 (upTo 24 30) ?_ hHeld; refine pT2 24 83 (upTo 25 30) ?_ hHeld; refine pT2 25 84 (upTo 26 30) ?_ hHeld; refine oU 26 85 (upTo 27 30) HT_.out (fun K hK => ?_); refine gs Try.func61 #[.agg #[.string a0_0, .int .i64 a0_1, .slice A0_2 l0_2.length c0_2, .slice (some ad107) l0_3.length c0_3]] ?_; with_reducible refine (spec_l07End.calls a0_0 a0_1 _ _ l0_2 _ _ l0_3 t111 _ ?s1 ?s2 ?s3 ?s4 A34.out).mono ?_
              (case s1 => repeat (first | exact (cB HR0_2.out (bX HB.out)) | (with_reducible first | apply cA | apply cN | apply cD)))
              (case s2 => exact HC0_2.out)
              (case s3 => repeat (first | exact (cB HR0_3.out (bX HB.out)) | (with_reducible first | apply cA | apply cN | apply cD)))
              (case s4 => exact HC0_3.out)
              rintro e w50 ⟨rfl, hb⟩; refine ⟨_, rfl, ?_⟩; replace BK101 := nY BK101 hb; replace BK108 := nY BK108 hb; replace HB := bY HB hb; refine hK.out _ _ ⟨hC BK108.out 0, hC BK108.out 1, hC BK101.out 0, hC BK101.out 1, hC BK101.out 2, hC BK101.out 3, (pB HB.out hw110_0), (pB HB.out hw110_1)⟩ (fun hHeld => ?_); clear hK K; refine nS 85 ?_
              refine oU 27 86 (upTo 28 30) HT_.out (fun K hK => ?_); refine gs Try.func33 #[.int .i64 ((rd_T55 l0_3 x4_3).f1), .int .i64 a0_1, .int .i64 t111] ?_; with_reducible refine (spec_l03Is.calls ((rd_T55 l0_3 x4_3).f1) a0_1 t111 false _ A35.out).mono ?_
              rintro e w' ⟨rfl, ⟨nd, rfl⟩⟩; refine ⟨_, rfl, ?_⟩; refine hK.out _ _ ⟨hC BK108.out 0, hC BK108.out 1, hC BK101.out 0, hC BK101.out 1, hC BK101.out 2, hC BK101.out 3, (pB HB.out hw110_0), (pB HB.out hw110_1)⟩ (fun hHeld => ?_); clear hK K; refine nS 86 ?_
              refine pF 28 29 30 87 ?_; refine pF 29 30 30 88 ?_; refine done_ (done_of HT_.out (by kernel_rfl)) ?_; try go_wp2
              go_ret
              exact ⟨by first | rfl | (simp [errW_none, errW_some] <;> rfl) | (simp only [← hji30]; first | rfl | (simp [errW_none, errW_some] <;> rfl)) | (simp [*, errW_none, errW_some] <;> rfl), bX HB.out⟩
             rw [if_neg c33] at H; have c33b0 : (Op.bytesLess (((rd_T55 l0_3 (ji30)).f0).toList) (((rd_T55 l0_3 x4_3).f0).toList)) = false := by simpa using c33
             clear c33; obtain rfl := Option.some.inj H; have hcz51 := q4 BK101.out; have hfz51 := fZ BK101.out; obtain ⟨p107, q107, ad107, e107, hx107_0, hx107_1⟩ := pQ (at_T55 (cB HR0_3.out HB.out) x4_3); cases e107; try go_wp2_with (first | ((with_reducible refine gate_dst (N := 5) rfl ?_); (try (refine gate_guard (by rfl) ?_; dsimp only)); refine bE (cs := zz2) (t := 55) ?_; intro gb108 hg w52 hbox hb; have GW108 := gY hg HB; have GE108 := GW108; have BK108 := AM (hbox); have NB101_108 := lY hg BK101; have NB108_101 := sY NB101_108; replace BK101 := nY BK101 hb; replace HB := bY HB hb; clear hb hbox hg; have hnb53 := nP NB108_101; have hcz54 := q2 BK108.out; have hfz54 := fZ BK108.out))
             generalize hW_ : ((w52.setCell ⟨gb108, 0, none⟩ (.string ((rd_T55 l0_3 x4_3).f0))).setCell ⟨gb108, 1, none⟩ (.int .i64 ((rd_T55 l0_3 x4_3).f1))) = w55; have n0_ := kW hW_ BK101 (by intro h_; refine kF NB101_108.out ?_; refine kF NB101_108.out ?_; exact kX h_)
             have n1_ := pW2 hW_ BK108
             have n2_ := bW hW_ HB
             (try clear BK101); (try clear BK108); (try clear HB); clear hW_; have BK101 := n0_; have BK108 := n1_; have HB := n2_; clear n0_ n1_ n2_; replace BK101 := kDY BK101; replace BK108 := kDY BK108; replace HB := bDY HB; obtain ⟨p110, q110, ad110, e110, hx110_0, hx110_1⟩ := pQ (at_T55 HR0_3.out (ji30)); have hw110_1 := hx110_1; have hw110_0 := hx110_0; obtain rfl : ad107 = ad110 := (by injection e110); replace hx110_0 := pB HB.out hx110_0; replace hx110_1 := pB HB.out hx110_1; refine start_ (n := 30) (S := fun w' => w'.cell? ⟨gb108, 0, none⟩ = some (.string ((rd_T55 l0_3 x4_3).f0)) ∧ w'.cell? ⟨gb108, 1, none⟩ = some (.int .i64 ((rd_T55 l0_3 x4_3).f1)) ∧ w'.cell? ⟨gb101, 0, none⟩ = some (.string a0_0) ∧ w'.cell? ⟨gb101, 1, none⟩ = some (.int .i64 a0_1) ∧ w'.cell? ⟨gb101, 2, none⟩ = some (.slice A0_2 l0_2.length c0_2) ∧ w'.cell? ⟨gb101, 3, none⟩ = some (.slice (some ad107) l0_3.length c0_3) ∧ w'.cell? (ad107.add (((ji30)).toNat * 2)) = some (.string ((rd_T55 l0_3 (ji30)).f0)) ∧ w'.cell? ⟨(ad107.add (((ji30)).toNat * 2)).block, (ad107.add (((ji30)).toNat * 2)).off + 1, none⟩ = some (.int .i64 ((rd_T55 l0_3 (ji30)).f1))) (ds := []) (upTo 0 30) (by kernel_rfl) rfl rfl ⟨hC BK108.out 0, hC BK108.out 1, hC BK101.out 0, hC BK101.out 1, hC BK101.out 2, hC BK101.out 3, (pB HB.out hw110_0), (pB HB.out hw110_1)⟩ (fun hHeld => ?_); refine with_tabW spec_TopicRight.tab12 spec_TopicRight.bits12 (fun HT_ HW_ => ?_); generalize w55.drew = w56 at BK101 BK108 HB hx110_0 hx110_1 hHeld ⊢; refine pF 0 1 30 59 ?_; refine pT2 1 60 (upTo 2 30) ?_ hHeld; refine oU 2 61 (upTo 3 30) HT_.out (fun K hK => ?_); refine gs Try.func63 #[.string ((rd_T55 l0_3 x4_3).f0)] ?_; with_reducible refine (spec_NameRight.calls k3 ((rd_T55 l0_3 x4_3).f0) true _ A27.out).mono ?_
             rintro e w' ⟨rfl, ⟨nd, rfl⟩⟩; refine ⟨_, rfl, ?_⟩; refine hK.out _ _ ⟨hC BK108.out 0, hC BK108.out 1, hC BK101.out 0, hC BK101.out 1, hC BK101.out 2, hC BK101.out 3, (pB HB.out hw110_0), (pB HB.out hw110_1)⟩ (fun hHeld => ?_); clear hK K; refine nS 61 ?_
             refine pF 3 4 30 62 ?_; refine pF 4 5 30 63 ?_; refine pF 5 6 30 64 ?_; refine pF 6 7 30 65 ?_; refine pF 7 8 30 66 ?_; refine pF 8 9 30 67 ?_; refine pF2 10 69 spec_TopicRight.b0 ?_; refine pF2 11 70 spec_TopicRight.b1 ?_; refine pF2 15 74 spec_TopicRight.b2 ?_; refine pT2 9 68 spec_TopicRight.b3 ?_ hHeld; refine pF2 12 71 spec_TopicRight.b4 ?_; refine pF2 13 72 spec_TopicRight.b5 ?_; refine pT2 14 73 (upTo 16 30) ?_ hHeld; refine pT2 16 75 (upTo 17 30) ?_ hHeld; refine pF 17 18 30 76 ?_; refine pF 18 19 30 77 ?_; refine pF 19 20 30 78 ?_; refine pF 20 21 30 79 ?_; refine pU 21 22 30 80 ?_; refine pU 22 23 30 81 ?_; refine pU 23 24 30 82 ?_; refine pU 24 25 30 83 ?_; refine pU 25 26 30 84 ?_; refine pU 26 27 30 85 ?_; refine pU 27 28 30 86 ?_; refine pU 28 29 30 87 ?_; refine pF 29 30 30 88 ?_; refine done_ (done_of HT_.out (by kernel_rfl)) ?_; try go_wp2
             go_ret
             exact ⟨by first | rfl | (simp [errW_none, errW_some] <;> rfl) | (simp only [← hji30]; first | rfl | (simp [errW_none, errW_some] <;> rfl)) | (simp [*, errW_none, errW_some] <;> rfl), bX HB.out⟩
            rw [if_neg c32] at H; exact absurd H (by simp)
           rw [if_neg c31] at H; exact absurd H (by simp)
          rw [if_neg c29] at H; have c29b0 : decide (0 < x4_3) = false := dN c29; clear c29; replace H := oM H; obtain ⟨t113, A570, H⟩ := H; have A57 := AM A570; clear A570; replace H := oM H; obtain ⟨t114, A580, H⟩ := H; have A58 := AM A580; clear A580; by_cases c59 : t114 = true
          ·
           subst c59; rw [if_pos rfl] at H; have H' := AM H; clear H; have hcz60 := q4 BK101.out; have hfz60 := fZ BK101.out; obtain ⟨p107, q107, ad107, e107, hx107_0, hx107_1⟩ := pQ (at_T55 (cB HR0_3.out HB.out) x4_3); cases e107; try go_wp2_with (first | ((with_reducible refine gate_dst (N := 5) rfl ?_); (try (refine gate_guard (by rfl) ?_; dsimp only)); refine bE (cs := zz2) (t := 55) ?_; intro gb108 hg w61 hbox hb; have GW108 := gY hg HB; have GE108 := GW108; have BK108 := AM (hbox); have NB101_108 := lY hg BK101; have NB108_101 := sY NB101_108; replace BK101 := nY BK101 hb; replace HB := bY HB hb; clear hb hbox hg; have hnb62 := nP NB108_101; have hcz63 := q2 BK108.out; have hfz63 := fZ BK108.out))
           generalize hW_ : ((w61.setCell ⟨gb108, 0, none⟩ (.string ((rd_T55 l0_3 x4_3).f0))).setCell ⟨gb108, 1, none⟩ (.int .i64 ((rd_T55 l0_3 x4_3).f1))) = w64; have n0_ := kW hW_ BK101 (by intro h_; refine kF NB101_108.out ?_; refine kF NB101_108.out ?_; exact kX h_)
           have n1_ := pW2 hW_ BK108
           have n2_ := bW hW_ HB
           (try clear BK101); (try clear BK108); (try clear HB); clear hW_; have BK101 := n0_; have BK108 := n1_; have HB := n2_; clear n0_ n1_ n2_; replace BK101 := kDY BK101; replace BK108 := kDY BK108; replace HB := bDY HB; refine start_ (n := 30) (S := fun w' => w'.cell? ⟨gb108, 0, none⟩ = some (.string ((rd_T55 l0_3 x4_3).f0)) ∧ w'.cell? ⟨gb108, 1, none⟩ = some (.int .i64 ((rd_T55 l0_3 x4_3).f1)) ∧ w'.cell? ⟨gb101, 0, none⟩ = some (.string a0_0) ∧ w'.cell? ⟨gb101, 1, none⟩ = some (.int .i64 a0_1) ∧ w'.cell? ⟨gb101, 2, none⟩ = some (.slice A0_2 l0_2.length c0_2) ∧ w'.cell? ⟨gb101, 3, none⟩ = some (.slice (some ad107) l0_3.length c0_3)) (ds := []) (upTo 0 30) (by kernel_rfl) rfl rfl ⟨hC BK108.out 0, hC BK108.out 1, hC BK101.out 0, hC BK101.out 1, hC BK101.out 2, hC BK101.out 3⟩ (fun hHeld => ?_); refine with_tabW spec_TopicRight.tab12 spec_TopicRight.bits12 (fun HT_ HW_ => ?_); generalize w64.drew = w65 at BK101 BK108 HB hHeld ⊢; refine pF 0 1 30 59 ?_; refine pT2 1 60 (upTo 2 30) ?_ hHeld; refine oU 2 61 (upTo 3 30) HT_.out (fun K hK => ?_); refine gs Try.func63 #[.string ((rd_T55 l0_3 x4_3).f0)] ?_; with_reducible refine (spec_NameRight.calls k3 ((rd_T55 l0_3 x4_3).f0) true _ A27.out).mono ?_
           rintro e w' ⟨rfl, ⟨nd, rfl⟩⟩; refine ⟨_, rfl, ?_⟩; refine hK.out _ _ ⟨hC BK108.out 0, hC BK108.out 1, hC BK101.out 0, hC BK101.out 1, hC BK101.out 2, hC BK101.out 3⟩ (fun hHeld => ?_); clear hK K; refine nS 61 ?_
           refine pF 3 4 30 62 ?_; refine pF 4 5 30 63 ?_; refine pF 5 6 30 64 ?_; refine pF 6 7 30 65 ?_; refine pF 7 8 30 66 ?_; refine pU 8 9 30 67 ?_; refine pU 9 10 30 68 ?_; refine pU 10 11 30 69 ?_; refine pU 11 12 30 70 ?_; refine pU 12 13 30 71 ?_; refine pU 13 14 30 72 ?_; refine pU 14 15 30 73 ?_; refine pU 15 16 30 74 ?_; refine pU 16 17 30 75 ?_; refine pU 17 18 30 76 ?_; refine pF 18 19 30 77 ?_; refine pF 19 20 30 78 ?_; refine pF 20 21 30 79 ?_; refine pF 21 22 30 80 ?_; refine pF2 23 82 spec_TopicRight.b6 ?_; refine pT2 22 81 (upTo 24 30) ?_ hHeld; refine pT2 24 83 (upTo 25 30) ?_ hHeld; refine pT2 25 84 (upTo 26 30) ?_ hHeld; refine oU 26 85 (upTo 27 30) HT_.out (fun K hK => ?_); refine gs Try.func61 #[.agg #[.string a0_0, .int .i64 a0_1, .slice A0_2 l0_2.length c0_2, .slice (some ad107) l0_3.length c0_3]] ?_; with_reducible refine (spec_l07End.calls a0_0 a0_1 _ _ l0_2 _ _ l0_3 t113 _ ?s1 ?s2 ?s3 ?s4 A57.out).mono ?_
           (case s1 => repeat (first | exact (cB HR0_2.out (bX HB.out)) | (with_reducible first | apply cA | apply cN | apply cD)))
           (case s2 => exact HC0_2.out)
           (case s3 => repeat (first | exact (cB HR0_3.out (bX HB.out)) | (with_reducible first | apply cA | apply cN | apply cD)))
           (case s4 => exact HC0_3.out)
           rintro e w66 ⟨rfl, hb⟩; refine ⟨_, rfl, ?_⟩; replace BK101 := nY BK101 hb; replace BK108 := nY BK108 hb; replace HB := bY HB hb; refine hK.out _ _ ⟨hC BK108.out 0, hC BK108.out 1, hC BK101.out 0, hC BK101.out 1, hC BK101.out 2, hC BK101.out 3⟩ (fun hHeld => ?_); clear hK K; refine nS 85 ?_
           refine oU 27 86 (upTo 28 30) HT_.out (fun K hK => ?_); refine gs Try.func33 #[.int .i64 ((rd_T55 l0_3 x4_3).f1), .int .i64 a0_1, .int .i64 t113] ?_; with_reducible refine (spec_l03Is.calls ((rd_T55 l0_3 x4_3).f1) a0_1 t113 true _ A58.out).mono ?_
           rintro e w' ⟨rfl, ⟨nd, rfl⟩⟩; refine ⟨_, rfl, ?_⟩; refine hK.out _ _ ⟨hC BK108.out 0, hC BK108.out 1, hC BK101.out 0, hC BK101.out 1, hC BK101.out 2, hC BK101.out 3⟩ (fun hHeld => ?_); clear hK K; refine nS 86 ?_
           refine pF 28 29 30 87 ?_; refine pF 29 30 30 88 ?_; refine done_ (done_of HT_.out (by kernel_rfl)) ?_; try go_wp2
           go_roundg k3
           case measure => have := HJ1.out; have := HK2.out; have := HK3.out; omega
           case rel => exact ⟨(wrap64 (x4_3 + 1)), rR, H', ⟨by have := HJ1.out; have := HK2.out; have := HK3.out; omega⟩, ⟨kX BK101.out⟩, ⟨bX HB.out⟩⟩
          replace c59 := oE c59; subst c59; rw [if_neg nft] at H; obtain rfl := Option.some.inj H; have hcz67 := q4 BK101.out; have hfz67 := fZ BK101.out; obtain ⟨p107, q107, ad107, e107, hx107_0, hx107_1⟩ := pQ (at_T55 (cB HR0_3.out HB.out) x4_3); cases e107; try go_wp2_with (first | ((with_reducible refine gate_dst (N := 5) rfl ?_); (try (refine gate_guard (by rfl) ?_; dsimp only)); refine bE (cs := zz2) (t := 55) ?_; intro gb108 hg w68 hbox hb; have GW108 := gY hg HB; have GE108 := GW108; have BK108 := AM (hbox); have NB101_108 := lY hg BK101; have NB108_101 := sY NB101_108; replace BK101 := nY BK101 hb; replace HB := bY HB hb; clear hb hbox hg; have hnb69 := nP NB108_101; have hcz70 := q2 BK108.out; have hfz70 := fZ BK108.out))
          generalize hW_ : ((w68.setCell ⟨gb108, 0, none⟩ (.string ((rd_T55 l0_3 x4_3).f0))).setCell ⟨gb108, 1, none⟩ (.int .i64 ((rd_T55 l0_3 x4_3).f1))) = w71; have n0_ := kW hW_ BK101 (by intro h_; refine kF NB101_108.out ?_; refine kF NB101_108.out ?_; exact kX h_)
          have n1_ := pW2 hW_ BK108
          have n2_ := bW hW_ HB
          (try clear BK101); (try clear BK108); (try clear HB); clear hW_; have BK101 := n0_; have BK108 := n1_; have HB := n2_; clear n0_ n1_ n2_; replace BK101 := kDY BK101; replace BK108 := kDY BK108; replace HB := bDY HB; refine start_ (n := 30) (S := fun w' => w'.cell? ⟨gb108, 0, none⟩ = some (.string ((rd_T55 l0_3 x4_3).f0)) ∧ w'.cell? ⟨gb108, 1, none⟩ = some (.int .i64 ((rd_T55 l0_3 x4_3).f1)) ∧ w'.cell? ⟨gb101, 0, none⟩ = some (.string a0_0) ∧ w'.cell? ⟨gb101, 1, none⟩ = some (.int .i64 a0_1) ∧ w'.cell? ⟨gb101, 2, none⟩ = some (.slice A0_2 l0_2.length c0_2) ∧ w'.cell? ⟨gb101, 3, none⟩ = some (.slice (some ad107) l0_3.length c0_3)) (ds := []) (upTo 0 30) (by kernel_rfl) rfl rfl ⟨hC BK108.out 0, hC BK108.out 1, hC BK101.out 0, hC BK101.out 1, hC BK101.out 2, hC BK101.out 3⟩ (fun hHeld => ?_); refine with_tabW spec_TopicRight.tab12 spec_TopicRight.bits12 (fun HT_ HW_ => ?_); generalize w71.drew = w72 at BK101 BK108 HB hHeld ⊢; refine pF 0 1 30 59 ?_; refine pT2 1 60 (upTo 2 30) ?_ hHeld; refine oU 2 61 (upTo 3 30) HT_.out (fun K hK => ?_); refine gs Try.func63 #[.string ((rd_T55 l0_3 x4_3).f0)] ?_; with_reducible refine (spec_NameRight.calls k3 ((rd_T55 l0_3 x4_3).f0) true _ A27.out).mono ?_
          rintro e w' ⟨rfl, ⟨nd, rfl⟩⟩; refine ⟨_, rfl, ?_⟩; refine hK.out _ _ ⟨hC BK108.out 0, hC BK108.out 1, hC BK101.out 0, hC BK101.out 1, hC BK101.out 2, hC BK101.out 3⟩ (fun hHeld => ?_); clear hK K; refine nS 61 ?_
          refine pF 3 4 30 62 ?_; refine pF 4 5 30 63 ?_; refine pF 5 6 30 64 ?_; refine pF 6 7 30 65 ?_; refine pF 7 8 30 66 ?_; refine pU 8 9 30 67 ?_; refine pU 9 10 30 68 ?_; refine pU 10 11 30 69 ?_; refine pU 11 12 30 70 ?_; refine pU 12 13 30 71 ?_; refine pU 13 14 30 72 ?_; refine pU 14 15 30 73 ?_; refine pU 15 16 30 74 ?_; refine pU 16 17 30 75 ?_; refine pU 17 18 30 76 ?_; refine pF 18 19 30 77 ?_; refine pF 19 20 30 78 ?_; refine pF 20 21 30 79 ?_; refine pF 21 22 30 80 ?_; refine pF2 23 82 spec_TopicRight.b6 ?_; refine pT2 22 81 (upTo 24 30) ?_ hHeld; refine pT2 24 83 (upTo 25 30) ?_ hHeld; refine pT2 25 84 (upTo 26 30) ?_ hHeld; refine oU 26 85 (upTo 27 30) HT_.out (fun K hK => ?_); refine gs Try.func61 #[.agg #[.string a0_0, .int .i64 a0_1, .slice A0_2 l0_2.length c0_2, .slice (some ad107) l0_3.length c0_3]] ?_; with_reducible refine (spec_l07End.calls a0_0 a0_1 _ _ l0_2 _ _ l0_3 t113 _ ?s1 ?s2 ?s3 ?s4 A57.out).mono ?_
          (case s1 => repeat (first | exact (cB HR0_2.out (bX HB.out)) | (with_reducible first | apply cA | apply cN | apply cD)))
          (case s2 => exact HC0_2.out)
          (case s3 => repeat (first | exact (cB HR0_3.out (bX HB.out)) | (with_reducible first | apply cA | apply cN | apply cD)))
          (case s4 => exact HC0_3.out)
          rintro e w73 ⟨rfl, hb⟩; refine ⟨_, rfl, ?_⟩; replace BK101 := nY BK101 hb; replace BK108 := nY BK108 hb; replace HB := bY HB hb; refine hK.out _ _ ⟨hC BK108.out 0, hC BK108.out 1, hC BK101.out 0, hC BK101.out 1, hC BK101.out 2, hC BK101.out 3⟩ (fun hHeld => ?_); clear hK K; refine nS 85 ?_
          refine oU 27 86 (upTo 28 30) HT_.out (fun K hK => ?_); refine gs Try.func33 #[.int .i64 ((rd_T55 l0_3 x4_3).f1), .int .i64 a0_1, .int .i64 t113] ?_; with_reducible refine (spec_l03Is.calls ((rd_T55 l0_3 x4_3).f1) a0_1 t113 false _ A58.out).mono ?_
          rintro e w' ⟨rfl, ⟨nd, rfl⟩⟩; refine ⟨_, rfl, ?_⟩; refine hK.out _ _ ⟨hC BK108.out 0, hC BK108.out 1, hC BK101.out 0, hC BK101.out 1, hC BK101.out 2, hC BK101.out 3⟩ (fun hHeld => ?_); clear hK K; refine nS 86 ?_
          refine pF 28 29 30 87 ?_; refine pF 29 30 30 88 ?_; refine done_ (done_of HT_.out (by kernel_rfl)) ?_; try go_wp2
          go_ret
          exact ⟨rE, bX HB.out⟩
         replace c28 := oE c28; subst c28; rw [if_neg nft] at H; obtain rfl := Option.some.inj H; have hcz74 := q4 BK101.out; have hfz74 := fZ BK101.out; obtain ⟨p107, q107, ad107, e107, hx107_0, hx107_1⟩ := pQ (at_T55 (cB HR0_3.out HB.out) x4_3); cases e107; try go_wp2_with (first | ((with_reducible refine gate_dst (N := 5) rfl ?_); (try (refine gate_guard (by rfl) ?_; dsimp only)); refine bE (cs := zz2) (t := 55) ?_; intro gb108 hg w75 hbox hb; have GW108 := gY hg HB; have GE108 := GW108; have BK108 := AM (hbox); have NB101_108 := lY hg BK101; have NB108_101 := sY NB101_108; replace BK101 := nY BK101 hb; replace HB := bY HB hb; clear hb hbox hg; have hnb76 := nP NB108_101; have hcz77 := q2 BK108.out; have hfz77 := fZ BK108.out))
         generalize hW_ : ((w75.setCell ⟨gb108, 0, none⟩ (.string ((rd_T55 l0_3 x4_3).f0))).setCell ⟨gb108, 1, none⟩ (.int .i64 ((rd_T55 l0_3 x4_3).f1))) = w78; have n0_ := kW hW_ BK101 (by intro h_; refine kF NB101_108.out ?_; refine kF NB101_108.out ?_; exact kX h_)
         have n1_ := pW2 hW_ BK108
         have n2_ := bW hW_ HB
         (try clear BK101); (try clear BK108); (try clear HB); clear hW_; have BK101 := n0_; have BK108 := n1_; have HB := n2_; clear n0_ n1_ n2_; replace BK101 := kDY BK101; replace BK108 := kDY BK108; replace HB := bDY HB; refine start_ (n := 30) (S := fun w' => w'.cell? ⟨gb108, 0, none⟩ = some (.string ((rd_T55 l0_3 x4_3).f0)) ∧ w'.cell? ⟨gb108, 1, none⟩ = some (.int .i64 ((rd_T55 l0_3 x4_3).f1))) (ds := []) (upTo 0 30) (by kernel_rfl) rfl rfl ⟨hC BK108.out 0, hC BK108.out 1⟩ (fun hHeld => ?_); refine with_tabW spec_TopicRight.tab12 spec_TopicRight.bits12 (fun HT_ HW_ => ?_); generalize w78.drew = w79 at BK101 BK108 HB hHeld ⊢; refine pF 0 1 30 59 ?_; refine pT2 1 60 (upTo 2 30) ?_ hHeld; refine oU 2 61 (upTo 3 30) HT_.out (fun K hK => ?_); refine gs Try.func63 #[.string ((rd_T55 l0_3 x4_3).f0)] ?_; with_reducible refine (spec_NameRight.calls k3 ((rd_T55 l0_3 x4_3).f0) false _ A27.out).mono ?_
         rintro e w' ⟨rfl, ⟨nd, rfl⟩⟩; refine ⟨_, rfl, ?_⟩; refine hK.out _ _ (q2 BK108.out) (fun hHeld => ?_); clear hK K; refine nS 61 ?_
         refine pF 3 4 30 62 ?_; refine pF 4 5 30 63 ?_; refine pU 5 6 30 64 ?_; refine pU 6 7 30 65 ?_; refine pU 7 8 30 66 ?_; refine pU 8 9 30 67 ?_; refine pU 9 10 30 68 ?_; refine pU 10 11 30 69 ?_; refine pU 11 12 30 70 ?_; refine pU 12 13 30 71 ?_; refine pU 13 14 30 72 ?_; refine pU 14 15 30 73 ?_; refine pU 15 16 30 74 ?_; refine pU 16 17 30 75 ?_; refine pU 17 18 30 76 ?_; refine pU 18 19 30 77 ?_; refine pF 19 20 30 78 ?_; refine pF 20 21 30 79 ?_; refine pU 21 22 30 80 ?_; refine pU 22 23 30 81 ?_; refine pU 23 24 30 82 ?_; refine pU 24 25 30 83 ?_; refine pU 25 26 30 84 ?_; refine pU 26 27 30 85 ?_; refine pU 27 28 30 86 ?_; refine pU 28 29 30 87 ?_; refine pF 29 30 30 88 ?_; refine done_ (done_of HT_.out (by kernel_rfl)) ?_; try go_wp2
         go_ret
         exact ⟨rE, bX HB.out⟩
        rw [if_neg c26] at H; exact absurd H (by simp)
       rw [if_neg c25] at H; have c25b0 := dN c25; clear c25; obtain rfl := Option.some.inj H; have hcz80 := q4 BK101.out; have hfz80 := fZ BK101.out; go_wp2
       go_ret
       exact ⟨rE, bX HB.out⟩

end Go.Proofs.Ytnjnjffjblgldaa.Q
