/- Printed by wip/mp.py: functions as plain Lean functions, and their calls. -/
import Derived.Test.YtmfbkkjlijaabaaQx0
namespace Go.Proofs.Ytmfbkkjlijaabaa.Q
open Go.RowKit Go.Proofs.Ytmfbkkjlijaabaa.HB Go.Proofs.YtmfbkkjlijaabaaW.PrintWords Go.Proofs.YtmfbkkjlijaabaaW.PrintLast Go.Proofs.YtmfbkkjlijaabaaW.PrintMore
attribute [local go_sem] max2_int min2_int max_two min_two max_three min_three max_four min_four   -- for this text's walks alone
set_option linter.unusedVariables false
set_option linter.unusedSimpArgs false

/-! ### spec_l11Voters: function 45 -/

mutual
def spec_l11Voters.l0 : Nat → List (S67) → Int → Int → Int → ByteArray → List Int → Int → Option (List Int)
  | 0, _, _, _, _, _, _, _ => none
  | k + 1, x0, x1, x2, x3, x4, x11, x12 => if x12 < 4 then (spec_l11Voters.l1 k x0 x1 x2 x3 x4 x11 x12 0) else (some x11)
def spec_l11Voters.l1 : Nat → List (S67) → Int → Int → Int → ByteArray → List Int → Int → Int → Option (List Int)
  | 0, _, _, _, _, _, _, _, _ => none
  | k + 1, x0, x1, x2, x3, x4, x11, x12, x13 => if x13 < (x0.length : Int) then (if 0 ≤ x13 then (if ((rd_T67 x0 x13).f4) = x12 then (if ((rd_T67 x0 x13).f0) = x1 then (if ((rd_T67 x0 x13).f1) = x2 then (if ((rd_T67 x0 x13).f2) = x3 then (if ((rd_T67 x0 x13).f3).toList = x4.toList then (if x11.length < 17592186044416 then (spec_l11Voters.l1 k x0 x1 x2 x3 x4 (x11 ++ [x12]) x12 (wrap64 (x13 + 1))) else (none)) else (spec_l11Voters.l1 k x0 x1 x2 x3 x4 x11 x12 (wrap64 (x13 + 1)))) else (spec_l11Voters.l1 k x0 x1 x2 x3 x4 x11 x12 (wrap64 (x13 + 1)))) else (spec_l11Voters.l1 k x0 x1 x2 x3 x4 x11 x12 (wrap64 (x13 + 1)))) else (spec_l11Voters.l1 k x0 x1 x2 x3 x4 x11 x12 (wrap64 (x13 + 1)))) else (spec_l11Voters.l1 k x0 x1 x2 x3 x4 x11 x12 (wrap64 (x13 + 1)))) else (none)) else (spec_l11Voters.l0 k x0 x1 x2 x3 x4 x11 (wrap64 (x12 + 1)))
end
def spec_l11Voters.f (k : Nat) (l0 : List (S67)) (a1 : Int) (a2 : Int) (a3 : Int) (a4 : ByteArray) : Option (List Int) := spec_l11Voters.l0 k l0 a1 a2 a3 a4 (([] : List Int)) 0
set_option maxHeartbeats 60000000 in
set_option maxRecDepth 100000 in
theorem spec_l11Voters.calls (k : Nat) (A0 : Option Addr) (c0 : Nat) (l0 : List (S67)) (a1 : Int) (a2 : Int) (a3 : Int) (a4 : ByteArray) (r : List Int) (w : World) (hr0 : Kd.C k67 w A0 l0.length l0) (hc0 : l0.length ≤ c0) (h : spec_l11Voters.f k l0 a1 a2 a3 a4 = some r) :
    Calls Try.prog 45 #[.slice A0 l0.length c0, .int .i64 a1, .int .i64 a2, .int .i64 a3, .string a4] w fun e w' => ∃ v0_ : Value, e = .returned (v0_) ∧ Kd.R (Kd.int .i64) 2 w' w.heap.size (fun _ => True) v0_ r ∧ Below w.heap.size w w' := by
 have hu67 := Try.underlying67; have HR0 := AM hr0; have HC0 := AM hc0; clear hr0 hc0; have HB := AM (Below.refl w.heap.size w); have H : (spec_l11Voters.l0 k l0 a1 a2 a3 a4 (([] : List Int)) 0) = some r := h; clear h; obtain ⟨y101, hy101⟩ : ∃ y_ : List Int, y_ = (([] : List Int)) := ⟨_, rfl⟩; replace H : (spec_l11Voters.l0 k l0 a1 a2 a3 a4 y101 0) = some r := hS hy101 H
 have Ny101 := AM hy101; clear hy101; have H' := AM H; clear H; go_enter Try.func45, Try.ntmps45
 go_wp2_with (first | ((with_reducible refine gate_dst (N := 15) rfl ?_); refine Kd.R_lit (Kd.int .i64) _ 2 ?hg (N := 15) ?hd (xs := ([] : List Int)) (inner := []) (ok := fun _ => True) (okp := fun _ => True) ?hr ?hp (fun _ hk => hk) trivial (Below.refl _ _) (Nat.le_refl _) (by simp) ?_; (case hd => rfl); (case hg => rfl); (case hr => first | (go_simp; done) | (go_simp; rfl)); (case hp => exact (Reps.none _ _)); intro v102 w6 ho7 hb hg_ hnew_; clear hg_ hnew_; (first | rw [← Ny101.out] at ho7 | (simp only [Int.reduceToNat] at ho7; rw [← Ny101.out] at ho7)); have HO103 := AM (Kd.R_lower ho7 (bZ (bX HB.out))); replace HB := bY HB hb; clear hb ho7))
 go_loopg [11, 12] k (fun kq v11 v12 w' => ∃ (x11_1 : List Int) (x12_1 : Int), v12 = .int .i64 x12_1 ∧ Aside0 (spec_l11Voters.l0 kq l0 a1 a2 a3 a4 x11_1 x12_1 = some r) ∧ Aside0 (kq ≤ k) ∧ Aside0 (Kd.R (Kd.int .i64) 2 w' w.heap.size (fun _ => True) v11 x11_1) ∧ Aside0 (Below w.heap.size w w'))
 case atStart => exact ⟨(y101), (0), rR, H', ⟨Nat.le_refl _⟩, ⟨rX HO103.out⟩, ⟨bX HB.out⟩⟩
 case round =>
  clear H'; (try clear p2); (try clear c4); obtain ⟨x11_1, x12_1, rfl, HA, HK1, HO_11, HB⟩ := hrel
  cases gk with
  | zero => exact absurd HA.out (by simp [spec_l11Voters.l0])
  | succ k1 =>
   have H := HA.out; clear HA; simp only [spec_l11Voters.l0] at H
   by_cases c8 : x12_1 < 4
   ·
    rw [if_pos c8] at H; have c8b0 := dY c8; clear c8; have H' := AM H; clear H; go_wp2
    go_loopg [11, 13] k1 (fun kq v11 v13 w' => ∃ (x11_2 : List Int) (x13_2 : Int), v13 = .int .i64 x13_2 ∧ Aside0 (spec_l11Voters.l1 kq l0 a1 a2 a3 a4 x11_2 x12_1 x13_2 = some r) ∧ Aside0 (kq ≤ k1) ∧ Aside0 (Kd.R (Kd.int .i64) 2 w' w.heap.size (fun _ => True) v11 x11_2) ∧ Aside0 (Below w.heap.size w w'))
    case atStart => exact ⟨(x11_1), (0), rR, H', ⟨Nat.le_refl _⟩, ⟨rX HO_11.out⟩, ⟨bX HB.out⟩⟩
    case round =>
     clear H'; (try clear p2); (try clear c4); (try clear c8); (try clear c8b0); obtain ⟨x11_2, x13_2, rfl, HA, HK2, HO_11, HB⟩ := hrel
     cases gk with
     | zero => exact absurd HA.out (by simp [spec_l11Voters.l1])
     | succ k2 =>
      have H := HA.out; clear HA; simp only [spec_l11Voters.l1] at H
      by_cases c9 : x13_2 < (l0.length : Int)
      ·
       rw [if_pos c9] at H; have c9b0 := dY c9; clear c9; by_cases c10 : 0 ≤ x13_2
       ·
        rw [if_pos c10] at H; have c10b0 := dY c10; clear c10; by_cases c11 : ((rd_T67 l0 x13_2).f4) = x12_1
        ·
         rw [if_pos c11] at H; have c11b0 : (((rd_T67 l0 x13_2).f4) == x12_1) = true := beq_iff_eq.mpr c11; have c11b1 : (((rd_T67 l0 x13_2).f4) != x12_1) = false := bne_eq_false_iff_eq.mpr c11; clear c11; by_cases c12 : ((rd_T67 l0 x13_2).f0) = a1
         ·
          rw [if_pos c12] at H; have c12b0 : (((rd_T67 l0 x13_2).f0) == a1) = true := beq_iff_eq.mpr c12; have c12b1 : (((rd_T67 l0 x13_2).f0) != a1) = false := bne_eq_false_iff_eq.mpr c12; clear c12; by_cases c13 : ((rd_T67 l0 x13_2).f1) = a2
          ·
           rw [if_pos c13] at H; have c13b0 : (((rd_T67 l0 x13_2).f1) == a2) = true := beq_iff_eq.mpr c13; have c13b1 : (((rd_T67 l0 x13_2).f1) != a2) = false := bne_eq_false_iff_eq.mpr c13; clear c13; by_cases c14 : ((rd_T67 l0 x13_2).f2) = a3
           ·
            rw [if_pos c14] at H; have c14b0 : (((rd_T67 l0 x13_2).f2) == a3) = true := beq_iff_eq.mpr c14; have c14b1 : (((rd_T67 l0 x13_2).f2) != a3) = false := bne_eq_false_iff_eq.mpr c14; clear c14; by_cases c15 : ((rd_T67 l0 x13_2).f3).toList = a4.toList
            ·
             rw [if_pos c15] at H; have c15b0 : (((rd_T67 l0 x13_2).f3).toList == a4.toList) = true := beq_iff_eq.mpr c15; have c15b1 : (((rd_T67 l0 x13_2).f3).toList != a4.toList) = false := bne_eq_false_iff_eq.mpr c15; clear c15; by_cases c16 : x11_2.length < 17592186044416
             ·
              rw [if_pos c16] at H; have LMc16 := AM c16; clear c16; obtain ⟨y106, hy106⟩ : ∃ y_ : List Int, y_ = (x11_2 ++ [x12_1]) := ⟨_, rfl⟩; replace H : (spec_l11Voters.l1 k2 l0 a1 a2 a3 a4 y106 x12_1 (wrap64 (x13_2 + 1))) = some r := hS hy106 H
              have Ny106 := AM hy106; clear hy106; have H' := AM H; clear H; obtain ⟨p104, q104, ad104, e104, hx104_0, hx104_1, hx104_2, hx104_3, hx104_4⟩ := pQ (at_T67 (cB HR0.out HB.out) x13_2); cases e104; go_wp2_with (first | (refine bE (N := 14) (cs := zz0) (t := 67) ?_; intro gb105 hg w17 hbox hb; have GW105 := gY hg HB; have GE105 := GW105; have BK105 := AM (hbox); replace HO_11 := rY HO_11 hb; replace HB := bY HB hb; clear hb hbox hg; have hcz18 := q5 BK105.out; have hfz18 := fZ BK105.out) | ((with_reducible refine gate_builtin (b := .append) (xs := #[.tmp 58, .tmp 60]) rfl ?_); at_builtin; refine Kd.R_append (Kd.int .i64) (w0 := w) w.heap.size rfl (.tmp 58) (.tmp 60) 30 2 (.int .i64 0) 8 rfl Try.underlying30 info2 rfl (by decide) (by omega) u11 x11_2 x12_1 [.int .i64 x12_1] (fun _ => True) (fun _ => False) rfl (by first | (go_simp; done) | (go_simp; rfl)) ?aP (fun _ hk => hk.elim) ?aF ?aO ?aB ?aS ?aL ?_; (case aP => exact rfl); (case aB => exact (bX HB.out)); (case aF => exact (fun _ _ => trivial)); (case aO => exact (by (with_reducible repeat (first | apply rA | apply rN | apply rD)); exact rt5 HO_11.out BK105.out (by decide) (fun _ hk => trivial))); (case aS => exact (bZ (bX HB.out))); (case aL => have := LMc16.out; omega); intro v107 w19 ho hb hg hat; rw [← Ny106.out] at ho; have _ := AM (blk_grown (g := gb105) (o := .cells #[.int .i64 ((rd_T67 l0 x13_2).f0), .int .i64 ((rd_T67 l0 x13_2).f1), .int .i64 ((rd_T67 l0 x13_2).f2), .string ((rd_T67 l0 x13_2).f3), .int .i64 ((rd_T67 l0 x13_2).f4)] 67 (0, 0)) (by refine pk5 zz0 ?_; exact kX BK105.out) hg (Kd.R_ne HO_11.out BK105.out (by decide))); have _ := AM (hb); have _ := AM (ho); clear BK105 HB HO_11; rename_i BK105 HB HO108; clear ho hb hg hat))
              go_roundg k2
              case measure => have := HK1.out; have := HK2.out; omega
              case rel => exact ⟨(y106), (wrap64 (x13_2 + 1)), rR, H', ⟨by have := HK1.out; have := HK2.out; omega⟩, ⟨rX HO108.out⟩, ⟨bX HB.out⟩⟩
             rw [if_neg c16] at H; exact absurd H (by simp)
            rw [if_neg c15] at H; have c15b0 : (((rd_T67 l0 x13_2).f3).toList == a4.toList) = false := beq_eq_false_iff_ne.mpr c15; have c15b1 : (((rd_T67 l0 x13_2).f3).toList != a4.toList) = true := bne_iff_ne.mpr c15; have H' := AM H; clear H; obtain ⟨p104, q104, ad104, e104, hx104_0, hx104_1, hx104_2, hx104_3, hx104_4⟩ := pQ (at_T67 (cB HR0.out HB.out) x13_2); cases e104; go_wp2_with (first | (refine bE (N := 14) (cs := zz0) (t := 67) ?_; intro gb105 hg w20 hbox hb; have GW105 := gY hg HB; have GE105 := GW105; have BK105 := AM (hbox); replace HO_11 := rY HO_11 hb; replace HB := bY HB hb; clear hb hbox hg; have hcz21 := q5 BK105.out; have hfz21 := fZ BK105.out))
            go_roundg k2
            case measure => have := HK1.out; have := HK2.out; omega
            case rel => exact ⟨(x11_2), (wrap64 (x13_2 + 1)), rR, H', ⟨by have := HK1.out; have := HK2.out; omega⟩, ⟨by (with_reducible repeat (first | apply rA | apply rN | apply rD)); exact rt5 HO_11.out BK105.out (by decide) (fun _ hk => trivial)⟩, ⟨bX HB.out⟩⟩
           rw [if_neg c14] at H; have c14b0 : (((rd_T67 l0 x13_2).f2) == a3) = false := beq_eq_false_iff_ne.mpr c14; have c14b1 : (((rd_T67 l0 x13_2).f2) != a3) = true := bne_iff_ne.mpr c14; have H' := AM H; clear H; obtain ⟨p104, q104, ad104, e104, hx104_0, hx104_1, hx104_2, hx104_3, hx104_4⟩ := pQ (at_T67 (cB HR0.out HB.out) x13_2); cases e104; go_wp2_with (first | (refine bE (N := 14) (cs := zz0) (t := 67) ?_; intro gb105 hg w22 hbox hb; have GW105 := gY hg HB; have GE105 := GW105; have BK105 := AM (hbox); replace HO_11 := rY HO_11 hb; replace HB := bY HB hb; clear hb hbox hg; have hcz23 := q5 BK105.out; have hfz23 := fZ BK105.out))
           go_roundg k2
           case measure => have := HK1.out; have := HK2.out; omega
           case rel => exact ⟨(x11_2), (wrap64 (x13_2 + 1)), rR, H', ⟨by have := HK1.out; have := HK2.out; omega⟩, ⟨by (with_reducible repeat (first | apply rA | apply rN | apply rD)); exact rt5 HO_11.out BK105.out (by decide) (fun _ hk => trivial)⟩, ⟨bX HB.out⟩⟩
          rw [if_neg c13] at H; have c13b0 : (((rd_T67 l0 x13_2).f1) == a2) = false := beq_eq_false_iff_ne.mpr c13; have c13b1 : (((rd_T67 l0 x13_2).f1) != a2) = true := bne_iff_ne.mpr c13; have H' := AM H; clear H; obtain ⟨p104, q104, ad104, e104, hx104_0, hx104_1, hx104_2, hx104_3, hx104_4⟩ := pQ (at_T67 (cB HR0.out HB.out) x13_2); cases e104; go_wp2_with (first | (refine bE (N := 14) (cs := zz0) (t := 67) ?_; intro gb105 hg w24 hbox hb; have GW105 := gY hg HB; have GE105 := GW105; have BK105 := AM (hbox); replace HO_11 := rY HO_11 hb; replace HB := bY HB hb; clear hb hbox hg; have hcz25 := q5 BK105.out; have hfz25 := fZ BK105.out))
          go_roundg k2
          case measure => have := HK1.out; have := HK2.out; omega
          case rel => exact ⟨(x11_2), (wrap64 (x13_2 + 1)), rR, H', ⟨by have := HK1.out; have := HK2.out; omega⟩, ⟨by (with_reducible repeat (first | apply rA | apply rN | apply rD)); exact rt5 HO_11.out BK105.out (by decide) (fun _ hk => trivial)⟩, ⟨bX HB.out⟩⟩
         rw [if_neg c12] at H; have c12b0 : (((rd_T67 l0 x13_2).f0) == a1) = false := beq_eq_false_iff_ne.mpr c12; have c12b1 : (((rd_T67 l0 x13_2).f0) != a1) = true := bne_iff_ne.mpr c12; have H' := AM H; clear H; obtain ⟨p104, q104, ad104, e104, hx104_0, hx104_1, hx104_2, hx104_3, hx104_4⟩ := pQ (at_T67 (cB HR0.out HB.out) x13_2); cases e104; go_wp2_with (first | (refine bE (N := 14) (cs := zz0) (t := 67) ?_; intro gb105 hg w26 hbox hb; have GW105 := gY hg HB; have GE105 := GW105; have BK105 := AM (hbox); replace HO_11 := rY HO_11 hb; replace HB := bY HB hb; clear hb hbox hg; have hcz27 := q5 BK105.out; have hfz27 := fZ BK105.out))
         go_roundg k2
         case measure => have := HK1.out; have := HK2.out; omega
         case rel => exact ⟨(x11_2), (wrap64 (x13_2 + 1)), rR, H', ⟨by have := HK1.out; have := HK2.out; omega⟩, ⟨by (with_reducible repeat (first | apply rA | apply rN | apply rD)); exact rt5 HO_11.out BK105.out (by decide) (fun _ hk => trivial)⟩, ⟨bX HB.out⟩⟩
        rw [if_neg c11] at H; have c11b0 : (((rd_T67 l0 x13_2).f4) == x12_1) = false := beq_eq_false_iff_ne.mpr c11; have c11b1 : (((rd_T67 l0 x13_2).f4) != x12_1) = true := bne_iff_ne.mpr c11; have H' := AM H; clear H; obtain ⟨p104, q104, ad104, e104, hx104_0, hx104_1, hx104_2, hx104_3, hx104_4⟩ := pQ (at_T67 (cB HR0.out HB.out) x13_2); cases e104; go_wp2_with (first | (refine bE (N := 14) (cs := zz0) (t := 67) ?_; intro gb105 hg w28 hbox hb; have GW105 := gY hg HB; have GE105 := GW105; have BK105 := AM (hbox); replace HO_11 := rY HO_11 hb; replace HB := bY HB hb; clear hb hbox hg; have hcz29 := q5 BK105.out; have hfz29 := fZ BK105.out))
        go_roundg k2
        case measure => have := HK1.out; have := HK2.out; omega
        case rel => exact ⟨(x11_2), (wrap64 (x13_2 + 1)), rR, H', ⟨by have := HK1.out; have := HK2.out; omega⟩, ⟨by (with_reducible repeat (first | apply rA | apply rN | apply rD)); exact rt5 HO_11.out BK105.out (by decide) (fun _ hk => trivial)⟩, ⟨bX HB.out⟩⟩
       rw [if_neg c10] at H; exact absurd H (by simp)
      rw [if_neg c9] at H; have c9b0 := dN c9; clear c9; have H' := AM H; clear H; go_wp2
      go_roundg k2
      case measure => have := HK1.out; have := HK2.out; omega
      case rel => exact ⟨(x11_2), (wrap64 (x12_1 + 1)), rR, H', ⟨by have := HK1.out; have := HK2.out; omega⟩, ⟨rX HO_11.out⟩, ⟨bX HB.out⟩⟩
   rw [if_neg c8] at H; have c8b0 := dN c8; clear c8; obtain rfl := Option.some.inj H; go_wp2
   go_ret
   exact ⟨_, rE, rX HO_11.out, bX HB.out⟩

end Go.Proofs.Ytmfbkkjlijaabaa.Q
