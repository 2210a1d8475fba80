/- Printed by wip/mp.py: functions as plain Lean functions, and their calls. -/
import Derived.Test.YtmfbkkjlijaabaaQx4
namespace Go.Proofs.Ytmfbkkjlijaabaa.Q
open Go.RowKit Go.Proofs.Ytmfbkkjlijaabaa.HB Go.Proofs.YtmfbkkjlijaabaaW.PrintWords Go.Proofs.YtmfbkkjlijaabaaW.PrintLast Go.Proofs.YtmfbkkjlijaabaaW.PrintMore
attribute [local go_sem] max2_int min2_int max_two min_two max_three min_three max_four min_four   -- for this text's walks alone
set_option linter.unusedVariables false
set_option linter.unusedSimpArgs false

/-! ### impl_Wanted: function 5 -/
abbrev impl_Wanted.b0 : Array Bool := #[true, true, true, true, true, true, true, true, true, true, true, true, false, true, false, false, false, false]
def impl_Wanted.l0 : Nat → List (S29) → List (S29) → Int → Int → Option ((List (S34)))
  | 0, _, _, _, _ => none
  | k + 1, x0, x8, x9, x10 => if x10 < x9 then (if 0 ≤ x10 then (if x10 < (x8.length : Int) then ((impl_isChange.f k ((rd_T29 x8 x10).f0) ((rd_T29 x8 x10).f1) ((rd_T29 x8 x10).f2)).bind fun t103 => (if t103 = true then (if x10 > 0 then (if 0 ≤ (wrap64 (x10 - 1)) then (if (wrap64 (x10 - 1)) < (x0.length : Int) then (if ((rd_T29 x0 (wrap64 (x10 - 1))).f0) ≥ ((rd_T29 x8 x10).f0) then (some ([] : List (S34))) else (impl_Wanted.l0 k x0 x8 x9 (wrap64 (x10 + 1)))) else (none)) else (none)) else (impl_Wanted.l0 k x0 x8 x9 (wrap64 (x10 + 1)))) else (some ([] : List (S34))))) else (none)) else (none)) else ((impl_wanted.f x0).bind fun t105 => (some t105))
def impl_Wanted.f (k : Nat) (l0 : List (S29)) : Option ((List (S34))) := if (l0.length : Int) > 4 then (some ([] : List (S34))) else (impl_Wanted.l0 k l0 l0 (l0.length : Int) 0)
def impl_Wanted.T6 : Bool × List (List Nat × List Nat) := (true, [([], []), ([0], [0]), ([1], [1]), ([2, 1], [2]), ([3], [3]), ([4, 3], [3, 4]), ([5, 3, 3], [3, 5]), ([6], [6]), ([6], [6]), ([8, 6], [6, 8]), ([7, 9, 6], [6, 7, 9]), ([10, 6], [6, 10]), ([11, 6], [6, 11]), ([6], [6]), ([13, 6], [6, 13]), ([12, 14, 6], [6, 12, 14]), ([6, 15, 3], [3, 6, 15]), ([3, 16], [3, 16])])
def impl_Wanted.B6 : List Nat := [0, 1, 3, 7, 15, 31, 63, 127, 127, 383, 1023, 2047, 4095, 127, 8319, 32767, 65535, 131071]
theorem impl_Wanted.tab6 : rtab .any (opsOf Try.f5 6) = impl_Wanted.T6 := by kernel_rfl
theorem impl_Wanted.bits6 : waitsOk impl_Wanted.T6.2 impl_Wanted.B6 = true := by kernel_rfl
set_option maxHeartbeats 60000000 in
set_option maxRecDepth 100000 in
theorem impl_Wanted.calls (k : Nat) (A0 : Option Addr) (c0 : Nat) (l0 : List (S29)) (r : List (S34)) (w : World) (hr0 : Kd.C k29 w A0 l0.length l0) (hc0 : l0.length ≤ c0) (h : impl_Wanted.f k l0 = some r) :
    Calls Try.prog 5 #[.slice A0 l0.length c0] w fun e w' => ∃ v0_ : Value, e = .returned (v0_) ∧ Kd.R k34 34 w' w.heap.size (fun _ => True) v0_ r ∧ Below w.heap.size w w' := by
 have hu29 := Try.underlying29; have HR0 := AM hr0; have HC0 := AM hc0; clear hr0 hc0; have HB := AM (Below.refl w.heap.size w); have H : (if (l0.length : Int) > 4 then (some ([] : List (S34))) else (impl_Wanted.l0 k l0 l0 (l0.length : Int) 0)) = some r := h; clear h; by_cases c2 : (l0.length : Int) > 4
 ·
  rw [if_pos c2] at H; have c2b0 : decide (4 < (l0.length : Int)) = true := dY c2; have c2b1 : decide (4 < l0.length) = true := dY (by omega); clear c2; obtain rfl := Option.some.inj H; go_enter Try.func5, Try.ntmps5
  go_wp2
  go_ret
  exact ⟨_, rE, by first | exact Kd.R_nil _ _ _ _ _ | exact Kd.N_nil _ _ _ _ _ | exact Kd.V_nil _ _ _ _ _ | exact Kd.Q_nil _ _ _ _ _ | exact Kd.S_nil _ _ _ _ _, bX HB.out⟩
 rw [if_neg c2] at H; have c2b0 : decide (4 < (l0.length : Int)) = false := dN c2; have c2b1 : decide (4 < l0.length) = false := dN (by omega); clear c2; have H' := AM H; clear H; go_enter Try.func5, Try.ntmps5
 go_wp2
 go_loopg [10] k (fun kq v10 w' => ∃ (x10_1 : Int), v10 = .int .i64 x10_1 ∧ Aside0 (impl_Wanted.l0 kq l0 l0 (l0.length : Int) x10_1 = some r) ∧ Aside0 (kq ≤ k) ∧ Aside0 (Below w.heap.size w w'))
 case atStart => exact ⟨(0), rR, H', ⟨Nat.le_refl _⟩, ⟨bX HB.out⟩⟩
 case round =>
  clear H'; (try clear c2); (try clear c2b0); (try clear c2b1); (try clear p2); obtain ⟨x10_1, rfl, HA, HK1, HB⟩ := hrel
  cases gk with
  | zero => exact absurd HA.out (by simp [impl_Wanted.l0])
  | succ k1 =>
   have H := HA.out; clear HA; simp only [impl_Wanted.l0] at H
   by_cases c3 : x10_1 < (l0.length : Int)
   ·
    rw [if_pos c3] at H; have c3b0 := dY c3; clear c3; by_cases c4 : 0 ≤ x10_1
    ·
     rw [if_pos c4] at H; have c4b0 := dY c4; clear c4; by_cases c5 : x10_1 < (l0.length : Int)
     ·
      rw [if_pos c5] at H; have c5b0 := dY c5; clear c5; replace H := oM H; obtain ⟨t103, A60, H⟩ := H; have A6 := AM A60; clear A60; by_cases c7 : t103 = true
      ·
       subst c7; rw [if_pos rfl] at H; by_cases c8 : x10_1 > 0
       ·
        rw [if_pos c8] at H; have c8b0 : decide (0 < x10_1) = true := dY c8; clear c8; obtain ⟨ji9, hji9⟩ : ∃ j_ : Int, (wrap64 (x10_1 - 1)) = j_ := ⟨_, rfl⟩; replace H : (if 0 ≤ (ji9) then (if (ji9) < (l0.length : Int) then (if ((rd_T29 l0 (ji9)).f0) ≥ ((rd_T29 l0 x10_1).f0) then (some ([] : List (S34))) else (impl_Wanted.l0 k1 l0 l0 (l0.length : Int) (wrap64 (x10_1 + 1)))) else (none)) else (none)) = some r := by first | (rw [hji9] at H; exact H) | (simp only [hji9] at H ⊢; exact H)
        (try rw [hji9] at A6); have hji9w : (IntKind.i64.wrap (x10_1 - 1)) = ji9 := (i64_w _).trans hji9; by_cases c10 : 0 ≤ (ji9)
        ·
         rw [if_pos c10] at H; have c10b0 := dY c10; clear c10; by_cases c11 : (ji9) < (l0.length : Int)
         ·
          rw [if_pos c11] at H; have c11b0 := dY c11; clear c11; by_cases c12 : ((rd_T29 l0 (ji9)).f0) ≥ ((rd_T29 l0 x10_1).f0)
          ·
           rw [if_pos c12] at H; have c12b0 : decide (((rd_T29 l0 x10_1).f0) ≤ ((rd_T29 l0 (ji9)).f0)) = true := dY c12; clear c12; obtain rfl := Option.some.inj H; obtain ⟨p101, q101, ad101, A101_2, c101_2, e101, hx101_0, hx101_1, hx101_2, hl101_2, hi101_2⟩ := pQ (at_T29 HR0.out x10_1); cases e101; replace hx101_0 := pB HB.out hx101_0; replace hx101_1 := pB HB.out hx101_1; replace hx101_2 := pB HB.out hx101_2; have HR101_2 := AM hi101_2; have HC101_2 := AM hl101_2; clear hi101_2 hl101_2; try go_wp2_with (first | (refine bE (N := 4) (cs := zz2) (t := 29) ?_; intro gb102 hg w13 hbox hb; have GW102 := gY hg HB; have GE102 := GW102; have BK102 := AM (hbox); replace HB := bY HB hb; clear hb hbox hg; have hcz14 := q3 BK102.out; have hfz14 := fZ BK102.out))
           generalize hW_ : (((w13.setCell ⟨gb102, 0, none⟩ (.int .i64 ((rd_T29 l0 x10_1).f0))).setCell ⟨gb102, 1, none⟩ (.int .i64 ((rd_T29 l0 x10_1).f1))).setCell ⟨gb102, 2, none⟩ (.slice A101_2 ((rd_T29 l0 x10_1).f2).length c101_2)) = w15; have n0_ := pW3 hW_ BK102
           have n1_ := bW hW_ HB
           (try clear BK102); (try clear HB); clear hW_; have BK102 := n0_; have HB := n1_; clear n0_ n1_; replace BK102 := kDY BK102; replace HB := bDY HB; obtain ⟨p104, q104, ad104, A104_2, c104_2, e104, hx104_0, hx104_1, hx104_2, hl104_2, hi104_2⟩ := pQ (at_T29 HR0.out (ji9)); have hw104_2 := hx104_2; have hw104_1 := hx104_1; have hw104_0 := hx104_0; obtain rfl : ad101 = ad104 := (by injection e104); replace hx104_0 := pB HB.out hx104_0; replace hx104_1 := pB HB.out hx104_1; replace hx104_2 := pB HB.out hx104_2; have HR104_2 := AM hi104_2; have HC104_2 := AM hl104_2; clear hi104_2 hl104_2; refine start_ (n := 18) (S := fun w' => w'.cell? ⟨gb102, 0, none⟩ = some (.int .i64 ((rd_T29 l0 x10_1).f0)) ∧ w'.cell? ⟨gb102, 1, none⟩ = some (.int .i64 ((rd_T29 l0 x10_1).f1)) ∧ w'.cell? ⟨gb102, 2, none⟩ = some (.slice A101_2 ((rd_T29 l0 x10_1).f2).length c101_2) ∧ w'.cell? (ad101.add (((ji9)).toNat * 3)) = some (.int .i64 ((rd_T29 l0 (ji9)).f0)) ∧ w'.cell? ⟨(ad101.add (((ji9)).toNat * 3)).block, (ad101.add (((ji9)).toNat * 3)).off + 1, none⟩ = some (.int .i64 ((rd_T29 l0 (ji9)).f1)) ∧ w'.cell? ⟨(ad101.add (((ji9)).toNat * 3)).block, (ad101.add (((ji9)).toNat * 3)).off + 2, none⟩ = some (.slice A104_2 ((rd_T29 l0 (ji9)).f2).length c104_2)) (ds := []) (upTo 0 18) (by kernel_rfl) rfl rfl ⟨hC BK102.out 0, hC BK102.out 1, hC BK102.out 2, (pB HB.out hw104_0), (pB HB.out hw104_1), (pB HB.out hw104_2)⟩ (fun hHeld => ?_); refine with_tabW impl_Wanted.tab6 impl_Wanted.bits6 (fun HT_ HW_ => ?_); generalize w15.drew = w16 at BK102 HB HR104_2 hx104_0 hx104_1 hx104_2 hHeld ⊢; refine pT2 0 15 (upTo 1 18) ?_ hHeld; refine oU 1 16 (upTo 2 18) HT_.out (fun K hK => ?_); refine gs Try.func18 #[.agg #[.int .i64 ((rd_T29 l0 x10_1).f0), .int .i64 ((rd_T29 l0 x10_1).f1), .slice A101_2 ((rd_T29 l0 x10_1).f2).length c101_2]] ?_; with_reducible refine (impl_isChange.calls k1 ((rd_T29 l0 x10_1).f0) ((rd_T29 l0 x10_1).f1) _ _ ((rd_T29 l0 x10_1).f2) true _ ?s1 ?s2 A6.out).mono ?_
           (case s1 => exact cY HR101_2 HB)
           (case s2 => exact HC101_2.out)
           rintro e w17 ⟨rfl, hb⟩; refine ⟨_, rfl, ?_⟩; replace BK102 := nY BK102 hb; replace HB := bY HB hb; refine hK.out _ _ ⟨hC BK102.out 0, hC BK102.out 1, hC BK102.out 2, (pB HB.out hw104_0), (pB HB.out hw104_1), (pB HB.out hw104_2)⟩ (fun hHeld => ?_); clear hK K; refine nS 16 ?_
           refine pF 2 3 18 17 ?_; refine pF 3 4 18 18 ?_; refine pF 4 5 18 19 ?_; refine pF 5 6 18 20 ?_; refine pF 6 7 18 21 ?_; refine pF 7 8 18 22 ?_; refine pF 8 9 18 23 ?_; refine pF 9 10 18 24 ?_; refine pF 10 11 18 25 ?_; refine pF 11 12 18 26 ?_; refine pF2 13 28 impl_Wanted.b0 ?_; refine pT2 12 27 (upTo 14 18) ?_ hHeld; refine pT2 14 29 (upTo 15 18) ?_ hHeld; refine pF 15 16 18 30 ?_; refine pF 16 17 18 31 ?_; refine pF 17 18 18 32 ?_; refine done_ (done_of HT_.out (by kernel_rfl)) ?_; try go_wp2
           go_ret
           exact ⟨_, by first | rfl | (simp [errW_none, errW_some] <;> rfl) | (simp only [← hji9]; first | rfl | (simp [errW_none, errW_some] <;> rfl)) | (simp [*, errW_none, errW_some] <;> rfl), by first | exact Kd.R_nil _ _ _ _ _ | exact Kd.N_nil _ _ _ _ _ | exact Kd.V_nil _ _ _ _ _ | exact Kd.Q_nil _ _ _ _ _ | exact Kd.S_nil _ _ _ _ _, bX HB.out⟩
          rw [if_neg c12] at H; have c12b0 : decide (((rd_T29 l0 x10_1).f0) ≤ ((rd_T29 l0 (ji9)).f0)) = false := dN c12; clear c12; have H' := AM H; clear H; obtain ⟨p101, q101, ad101, A101_2, c101_2, e101, hx101_0, hx101_1, hx101_2, hl101_2, hi101_2⟩ := pQ (at_T29 HR0.out x10_1); cases e101; replace hx101_0 := pB HB.out hx101_0; replace hx101_1 := pB HB.out hx101_1; replace hx101_2 := pB HB.out hx101_2; have HR101_2 := AM hi101_2; have HC101_2 := AM hl101_2; clear hi101_2 hl101_2; try go_wp2_with (first | (refine bE (N := 4) (cs := zz2) (t := 29) ?_; intro gb102 hg w18 hbox hb; have GW102 := gY hg HB; have GE102 := GW102; have BK102 := AM (hbox); replace HB := bY HB hb; clear hb hbox hg; have hcz19 := q3 BK102.out; have hfz19 := fZ BK102.out))
          generalize hW_ : (((w18.setCell ⟨gb102, 0, none⟩ (.int .i64 ((rd_T29 l0 x10_1).f0))).setCell ⟨gb102, 1, none⟩ (.int .i64 ((rd_T29 l0 x10_1).f1))).setCell ⟨gb102, 2, none⟩ (.slice A101_2 ((rd_T29 l0 x10_1).f2).length c101_2)) = w20; have n0_ := pW3 hW_ BK102
          have n1_ := bW hW_ HB
          (try clear BK102); (try clear HB); clear hW_; have BK102 := n0_; have HB := n1_; clear n0_ n1_; replace BK102 := kDY BK102; replace HB := bDY HB; obtain ⟨p104, q104, ad104, A104_2, c104_2, e104, hx104_0, hx104_1, hx104_2, hl104_2, hi104_2⟩ := pQ (at_T29 HR0.out (ji9)); have hw104_2 := hx104_2; have hw104_1 := hx104_1; have hw104_0 := hx104_0; obtain rfl : ad101 = ad104 := (by injection e104); replace hx104_0 := pB HB.out hx104_0; replace hx104_1 := pB HB.out hx104_1; replace hx104_2 := pB HB.out hx104_2; have HR104_2 := AM hi104_2; have HC104_2 := AM hl104_2; clear hi104_2 hl104_2; refine start_ (n := 18) (S := fun w' => w'.cell? ⟨gb102, 0, none⟩ = some (.int .i64 ((rd_T29 l0 x10_1).f0)) ∧ w'.cell? ⟨gb102, 1, none⟩ = some (.int .i64 ((rd_T29 l0 x10_1).f1)) ∧ w'.cell? ⟨gb102, 2, none⟩ = some (.slice A101_2 ((rd_T29 l0 x10_1).f2).length c101_2) ∧ w'.cell? (ad101.add (((ji9)).toNat * 3)) = some (.int .i64 ((rd_T29 l0 (ji9)).f0)) ∧ w'.cell? ⟨(ad101.add (((ji9)).toNat * 3)).block, (ad101.add (((ji9)).toNat * 3)).off + 1, none⟩ = some (.int .i64 ((rd_T29 l0 (ji9)).f1)) ∧ w'.cell? ⟨(ad101.add (((ji9)).toNat * 3)).block, (ad101.add (((ji9)).toNat * 3)).off + 2, none⟩ = some (.slice A104_2 ((rd_T29 l0 (ji9)).f2).length c104_2)) (ds := []) (upTo 0 18) (by kernel_rfl) rfl rfl ⟨hC BK102.out 0, hC BK102.out 1, hC BK102.out 2, (pB HB.out hw104_0), (pB HB.out hw104_1), (pB HB.out hw104_2)⟩ (fun hHeld => ?_); refine with_tabW impl_Wanted.tab6 impl_Wanted.bits6 (fun HT_ HW_ => ?_); generalize w20.drew = w21 at BK102 HB HR104_2 hx104_0 hx104_1 hx104_2 hHeld ⊢; refine pT2 0 15 (upTo 1 18) ?_ hHeld; refine oU 1 16 (upTo 2 18) HT_.out (fun K hK => ?_); refine gs Try.func18 #[.agg #[.int .i64 ((rd_T29 l0 x10_1).f0), .int .i64 ((rd_T29 l0 x10_1).f1), .slice A101_2 ((rd_T29 l0 x10_1).f2).length c101_2]] ?_; with_reducible refine (impl_isChange.calls k1 ((rd_T29 l0 x10_1).f0) ((rd_T29 l0 x10_1).f1) _ _ ((rd_T29 l0 x10_1).f2) true _ ?s1 ?s2 A6.out).mono ?_
          (case s1 => exact cY HR101_2 HB)
          (case s2 => exact HC101_2.out)
          rintro e w22 ⟨rfl, hb⟩; refine ⟨_, rfl, ?_⟩; replace BK102 := nY BK102 hb; replace HB := bY HB hb; refine hK.out _ _ ⟨hC BK102.out 0, hC BK102.out 1, hC BK102.out 2, (pB HB.out hw104_0), (pB HB.out hw104_1), (pB HB.out hw104_2)⟩ (fun hHeld => ?_); clear hK K; refine nS 16 ?_
          refine pF 2 3 18 17 ?_; refine pF 3 4 18 18 ?_; refine pF 4 5 18 19 ?_; refine pF 5 6 18 20 ?_; refine pF 6 7 18 21 ?_; refine pF 7 8 18 22 ?_; refine pF 8 9 18 23 ?_; refine pF 9 10 18 24 ?_; refine pF 10 11 18 25 ?_; refine pF 11 12 18 26 ?_; refine pF2 13 28 impl_Wanted.b0 ?_; refine pT2 12 27 (upTo 14 18) ?_ hHeld; refine pT2 14 29 (upTo 15 18) ?_ hHeld; refine pF 15 16 18 30 ?_; refine pF 16 17 18 31 ?_; refine pF 17 18 18 32 ?_; refine done_ (done_of HT_.out (by kernel_rfl)) ?_; try go_wp2
          go_roundg k1
          case measure => have := HK1.out; omega
          case rel => exact ⟨(wrap64 (x10_1 + 1)), rR, H', ⟨by have := HK1.out; omega⟩, ⟨bX HB.out⟩⟩
         rw [if_neg c11] at H; exact absurd H (by simp)
        rw [if_neg c10] at H; exact absurd H (by simp)
       rw [if_neg c8] at H; have c8b0 : decide (0 < x10_1) = false := dN c8; clear c8; have H' := AM H; clear H; obtain ⟨p101, q101, ad101, A101_2, c101_2, e101, hx101_0, hx101_1, hx101_2, hl101_2, hi101_2⟩ := pQ (at_T29 HR0.out x10_1); cases e101; replace hx101_0 := pB HB.out hx101_0; replace hx101_1 := pB HB.out hx101_1; replace hx101_2 := pB HB.out hx101_2; have HR101_2 := AM hi101_2; have HC101_2 := AM hl101_2; clear hi101_2 hl101_2; try go_wp2_with (first | (refine bE (N := 4) (cs := zz2) (t := 29) ?_; intro gb102 hg w23 hbox hb; have GW102 := gY hg HB; have GE102 := GW102; have BK102 := AM (hbox); replace HB := bY HB hb; clear hb hbox hg; have hcz24 := q3 BK102.out; have hfz24 := fZ BK102.out))
       generalize hW_ : (((w23.setCell ⟨gb102, 0, none⟩ (.int .i64 ((rd_T29 l0 x10_1).f0))).setCell ⟨gb102, 1, none⟩ (.int .i64 ((rd_T29 l0 x10_1).f1))).setCell ⟨gb102, 2, none⟩ (.slice A101_2 ((rd_T29 l0 x10_1).f2).length c101_2)) = w25; have n0_ := pW3 hW_ BK102
       have n1_ := bW hW_ HB
       (try clear BK102); (try clear HB); clear hW_; have BK102 := n0_; have HB := n1_; clear n0_ n1_; replace BK102 := kDY BK102; replace HB := bDY HB; refine start_ (n := 18) (S := fun w' => w'.cell? ⟨gb102, 0, none⟩ = some (.int .i64 ((rd_T29 l0 x10_1).f0)) ∧ w'.cell? ⟨gb102, 1, none⟩ = some (.int .i64 ((rd_T29 l0 x10_1).f1)) ∧ w'.cell? ⟨gb102, 2, none⟩ = some (.slice A101_2 ((rd_T29 l0 x10_1).f2).length c101_2)) (ds := []) (upTo 0 18) (by kernel_rfl) rfl rfl ⟨hC BK102.out 0, hC BK102.out 1, hC BK102.out 2⟩ (fun hHeld => ?_); refine with_tabW impl_Wanted.tab6 impl_Wanted.bits6 (fun HT_ HW_ => ?_); generalize w25.drew = w26 at BK102 HB hHeld ⊢; refine pT2 0 15 (upTo 1 18) ?_ hHeld; refine oU 1 16 (upTo 2 18) HT_.out (fun K hK => ?_); refine gs Try.func18 #[.agg #[.int .i64 ((rd_T29 l0 x10_1).f0), .int .i64 ((rd_T29 l0 x10_1).f1), .slice A101_2 ((rd_T29 l0 x10_1).f2).length c101_2]] ?_; with_reducible refine (impl_isChange.calls k1 ((rd_T29 l0 x10_1).f0) ((rd_T29 l0 x10_1).f1) _ _ ((rd_T29 l0 x10_1).f2) true _ ?s1 ?s2 A6.out).mono ?_
       (case s1 => exact cY HR101_2 HB)
       (case s2 => exact HC101_2.out)
       rintro e w27 ⟨rfl, hb⟩; refine ⟨_, rfl, ?_⟩; replace BK102 := nY BK102 hb; replace HB := bY HB hb; refine hK.out _ _ (q3 BK102.out) (fun hHeld => ?_); clear hK K; refine nS 16 ?_
       refine pF 2 3 18 17 ?_; refine pF 3 4 18 18 ?_; refine pF 4 5 18 19 ?_; refine pF 5 6 18 20 ?_; refine pF 6 7 18 21 ?_; refine pU 7 8 18 22 ?_; refine pU 8 9 18 23 ?_; refine pU 9 10 18 24 ?_; refine pU 10 11 18 25 ?_; refine pU 11 12 18 26 ?_; refine pU 12 13 18 27 ?_; refine pU 13 14 18 28 ?_; refine pU 14 15 18 29 ?_; refine pU 15 16 18 30 ?_; refine pF 16 17 18 31 ?_; refine pF 17 18 18 32 ?_; refine done_ (done_of HT_.out (by kernel_rfl)) ?_; try go_wp2
       go_roundg k1
       case measure => have := HK1.out; omega
       case rel => exact ⟨(wrap64 (x10_1 + 1)), rR, H', ⟨by have := HK1.out; omega⟩, ⟨bX HB.out⟩⟩
      replace c7 := oE c7; subst c7; rw [if_neg nft] at H; obtain rfl := Option.some.inj H; obtain ⟨p101, q101, ad101, A101_2, c101_2, e101, hx101_0, hx101_1, hx101_2, hl101_2, hi101_2⟩ := pQ (at_T29 HR0.out x10_1); cases e101; replace hx101_0 := pB HB.out hx101_0; replace hx101_1 := pB HB.out hx101_1; replace hx101_2 := pB HB.out hx101_2; have HR101_2 := AM hi101_2; have HC101_2 := AM hl101_2; clear hi101_2 hl101_2; try go_wp2_with (first | (refine bE (N := 4) (cs := zz2) (t := 29) ?_; intro gb102 hg w28 hbox hb; have GW102 := gY hg HB; have GE102 := GW102; have BK102 := AM (hbox); replace HB := bY HB hb; clear hb hbox hg; have hcz29 := q3 BK102.out; have hfz29 := fZ BK102.out))
      generalize hW_ : (((w28.setCell ⟨gb102, 0, none⟩ (.int .i64 ((rd_T29 l0 x10_1).f0))).setCell ⟨gb102, 1, none⟩ (.int .i64 ((rd_T29 l0 x10_1).f1))).setCell ⟨gb102, 2, none⟩ (.slice A101_2 ((rd_T29 l0 x10_1).f2).length c101_2)) = w30; have n0_ := pW3 hW_ BK102
      have n1_ := bW hW_ HB
      (try clear BK102); (try clear HB); clear hW_; have BK102 := n0_; have HB := n1_; clear n0_ n1_; replace BK102 := kDY BK102; replace HB := bDY HB; refine start_ (n := 18) (S := fun w' => w'.cell? ⟨gb102, 0, none⟩ = some (.int .i64 ((rd_T29 l0 x10_1).f0)) ∧ w'.cell? ⟨gb102, 1, none⟩ = some (.int .i64 ((rd_T29 l0 x10_1).f1)) ∧ w'.cell? ⟨gb102, 2, none⟩ = some (.slice A101_2 ((rd_T29 l0 x10_1).f2).length c101_2)) (ds := []) (upTo 0 18) (by kernel_rfl) rfl rfl ⟨hC BK102.out 0, hC BK102.out 1, hC BK102.out 2⟩ (fun hHeld => ?_); refine with_tabW impl_Wanted.tab6 impl_Wanted.bits6 (fun HT_ HW_ => ?_); generalize w30.drew = w31 at BK102 HB hHeld ⊢; refine pT2 0 15 (upTo 1 18) ?_ hHeld; refine oU 1 16 (upTo 2 18) HT_.out (fun K hK => ?_); refine gs Try.func18 #[.agg #[.int .i64 ((rd_T29 l0 x10_1).f0), .int .i64 ((rd_T29 l0 x10_1).f1), .slice A101_2 ((rd_T29 l0 x10_1).f2).length c101_2]] ?_; with_reducible refine (impl_isChange.calls k1 ((rd_T29 l0 x10_1).f0) ((rd_T29 l0 x10_1).f1) _ _ ((rd_T29 l0 x10_1).f2) false _ ?s1 ?s2 A6.out).mono ?_
      (case s1 => exact cY HR101_2 HB)
      (case s2 => exact HC101_2.out)
      rintro e w32 ⟨rfl, hb⟩; refine ⟨_, rfl, ?_⟩; replace BK102 := nY BK102 hb; replace HB := bY HB hb; refine hK.out _ _ (q3 BK102.out) (fun hHeld => ?_); clear hK K; refine nS 16 ?_
      refine pF 2 3 18 17 ?_; refine pF 3 4 18 18 ?_; refine pU 4 5 18 19 ?_; refine pU 5 6 18 20 ?_; refine pU 6 7 18 21 ?_; refine pU 7 8 18 22 ?_; refine pU 8 9 18 23 ?_; refine pU 9 10 18 24 ?_; refine pU 10 11 18 25 ?_; refine pU 11 12 18 26 ?_; refine pU 12 13 18 27 ?_; refine pU 13 14 18 28 ?_; refine pU 14 15 18 29 ?_; refine pU 15 16 18 30 ?_; refine pU 16 17 18 31 ?_; refine pF 17 18 18 32 ?_; refine done_ (done_of HT_.out (by kernel_rfl)) ?_; try go_wp2
      go_ret
      exact ⟨_, rE, by first | exact Kd.R_nil _ _ _ _ _ | exact Kd.N_nil _ _ _ _ _ | exact Kd.V_nil _ _ _ _ _ | exact Kd.Q_nil _ _ _ _ _ | exact Kd.S_nil _ _ _ _ _, bX HB.out⟩
     rw [if_neg c5] at H; exact absurd H (by simp)
    rw [if_neg c4] at H; exact absurd H (by simp)
   rw [if_neg c3] at H; have c3b0 := dN c3; clear c3; replace H := oM H; obtain ⟨t105, A330, H⟩ := H; have A33 := AM A330; clear A330; obtain rfl := Option.some.inj H; go_wp2_with (first | ((with_reducible refine gate_callee (f := 19) rfl ?_); refine gL (some 35) Try.func19 #[.slice A0 l0.length c0] ?_; (with_reducible refine (impl_wanted.calls _ _ _ _ _ ?s1 ?s2 A33.out).mono ?_); (case s1 => exact cY HR0 HB); (case s2 => exact HC0.out); rintro e w34 ⟨v106, rfl, ho0, hb⟩; refine ⟨_, rfl, ?_⟩; have HO107 := AM (Kd.R_lower ho0 (bZ (bX HB.out))); replace HB := bY HB hb; (try clear ho0)))
   go_ret
   exact ⟨_, rE, rX HO107.out, bX HB.out⟩

/-! ### spec_l03Is: function 28 -/

def spec_l03Is.f (a0 : Int) (a1 : Int) (a2 : Int) : Option (Bool) := if a0 ≥ a1 then (some (decide (a0 ≤ a2))) else (some false)
set_option maxHeartbeats 60000000 in
set_option maxRecDepth 100000 in
theorem spec_l03Is.calls (a0 : Int) (a1 : Int) (a2 : Int) (r : Bool) (w : World) (h : spec_l03Is.f a0 a1 a2 = some r) :
    Calls Try.prog 28 #[.int .i64 a0, .int .i64 a1, .int .i64 a2] w fun e w' => e = .returned (.bool r) ∧ Drawn0 w w' := by
 have H : (if a0 ≥ a1 then (some (decide (a0 ≤ a2))) else (some false)) = some r := h; clear h; by_cases c4 : a0 ≥ a1
 ·
  rw [if_pos c4] at H; have c4b0 : decide (a1 ≤ a0) = true := dY c4; clear c4; obtain rfl := Option.some.inj H; go_enter Try.func28, Try.ntmps28
  go_wp2
  go_ret
  exact ⟨by first | rfl | (simp; done) | (simp [*]; done), drX⟩
 rw [if_neg c4] at H; have c4b0 : decide (a1 ≤ a0) = false := dN c4; clear c4; obtain rfl := Option.some.inj H; go_enter Try.func28, Try.ntmps28
 go_wp2
 go_ret
 exact ⟨by first | rfl | (simp; done) | (simp [*]; done), drX⟩

/-! ### spec_l09Who: function 27 -/

def spec_l09Who.f (a0 : Int) : Option (Bool) := (spec_l03Is.f a0 0 3).bind fun t101 => (some t101)
set_option maxHeartbeats 60000000 in
set_option maxRecDepth 100000 in
theorem spec_l09Who.calls (a0 : Int) (r : Bool) (w : World) (h : spec_l09Who.f a0 = some r) :
    Calls Try.prog 27 #[.int .i64 a0] w fun e w' => e = .returned (.bool r) ∧ Drawn0 w w' := by
 have H : ((spec_l03Is.f a0 0 3).bind fun t101 => (some t101)) = some r := h; clear h; replace H := oM H; obtain ⟨t101, A20, H⟩ := H; have A2 := AM A20; clear A20; obtain rfl := Option.some.inj H; go_enter Try.func27, Try.ntmps27
 go_wp2_with (first | ((with_reducible refine gate_callee (f := 28) rfl ?_); refine gL (some 4) Try.func28 #[.int .i64 a0, .int .i64 0, .int .i64 3] ?_; (with_reducible refine (spec_l03Is.calls _ _ _ _ _ A2.out).mono ?_); rintro e w' ⟨rfl, ⟨nd, rfl⟩⟩; refine ⟨_, rfl, ?_⟩))
 go_ret
 exact ⟨by first | rfl | (simp; done) | (simp [*]; done), drX⟩

/-! ### spec_l10View: function 46 -/

def spec_l10View.f (a0 : Int) : Option (Bool) := (spec_l03Is.f a0 0 7).bind fun t101 => (some t101)
set_option maxHeartbeats 60000000 in
set_option maxRecDepth 100000 in
theorem spec_l10View.calls (a0 : Int) (r : Bool) (w : World) (h : spec_l10View.f a0 = some r) :
    Calls Try.prog 46 #[.int .i64 a0] w fun e w' => e = .returned (.bool r) ∧ Drawn0 w w' := by
 have H : ((spec_l03Is.f a0 0 7).bind fun t101 => (some t101)) = some r := h; clear h; replace H := oM H; obtain ⟨t101, A20, H⟩ := H; have A2 := AM A20; clear A20; obtain rfl := Option.some.inj H; go_enter Try.func46, Try.ntmps46
 go_wp2_with (first | ((with_reducible refine gate_callee (f := 28) rfl ?_); refine gL (some 4) Try.func28 #[.int .i64 a0, .int .i64 0, .int .i64 7] ?_; (with_reducible refine (spec_l03Is.calls _ _ _ _ _ A2.out).mono ?_); rintro e w' ⟨rfl, ⟨nd, rfl⟩⟩; refine ⟨_, rfl, ?_⟩))
 go_ret
 exact ⟨by first | rfl | (simp; done) | (simp [*]; done), drX⟩

/-! ### spec_l10Seq: function 47 -/

def spec_l10Seq.f (a0 : Int) : Option (Bool) := (spec_l03Is.f a0 1 6).bind fun t101 => (some t101)
set_option maxHeartbeats 60000000 in
set_option maxRecDepth 100000 in
theorem spec_l10Seq.calls (a0 : Int) (r : Bool) (w : World) (h : spec_l10Seq.f a0 = some r) :
    Calls Try.prog 47 #[.int .i64 a0] w fun e w' => e = .returned (.bool r) ∧ Drawn0 w w' := by
 have H : ((spec_l03Is.f a0 1 6).bind fun t101 => (some t101)) = some r := h; clear h; replace H := oM H; obtain ⟨t101, A20, H⟩ := H; have A2 := AM A20; clear A20; obtain rfl := Option.some.inj H; go_enter Try.func47, Try.ntmps47
 go_wp2_with (first | ((with_reducible refine gate_callee (f := 28) rfl ?_); refine gL (some 4) Try.func28 #[.int .i64 a0, .int .i64 1, .int .i64 6] ?_; (with_reducible refine (spec_l03Is.calls _ _ _ _ _ A2.out).mono ?_); rintro e w' ⟨rfl, ⟨nd, rfl⟩⟩; refine ⟨_, rfl, ?_⟩))
 go_ret
 exact ⟨by first | rfl | (simp; done) | (simp [*]; done), drX⟩

/-! ### spec_OpRight: function 48 -/

def spec_OpRight.f (a0 : ByteArray) : Option (Bool) := some (decide ((a0.size : Int) ≤ 120))
set_option maxHeartbeats 60000000 in
set_option maxRecDepth 100000 in
theorem spec_OpRight.calls (a0 : ByteArray) (r : Bool) (w : World) (h : spec_OpRight.f a0 = some r) :
    Calls Try.prog 48 #[.string a0] w fun e w' => e = .returned (.bool r) ∧ Drawn0 w w' := by
 have H : (some (decide ((a0.size : Int) ≤ 120))) = some r := h; clear h; obtain rfl := Option.some.inj H; go_enter Try.func48, Try.ntmps48
 go_wp2
 go_ret
 exact ⟨by first | rfl | (simp; done) | (simp [*]; done), drX⟩

/-! ### spec_QuorumRight: function 49 -/

def spec_QuorumRight.l0 : Nat → List Int → Int → Option (Bool)
  | 0, _, _ => none
  | k + 1, x0, x3 => if x3 < (x0.length : Int) then (if 0 ≤ x3 then ((spec_l09Who.f (rd x0 x3)).bind fun t102 => (if t102 = true then (if x3 > 0 then (if 0 ≤ (wrap64 (x3 - 1)) then (if (wrap64 (x3 - 1)) < (x0.length : Int) then (if (rd x0 (wrap64 (x3 - 1))) ≥ (rd x0 x3) then (some false) else (spec_QuorumRight.l0 k x0 (wrap64 (x3 + 1)))) else (none)) else (none)) else (spec_QuorumRight.l0 k x0 (wrap64 (x3 + 1)))) else (some false))) else (none)) else (some (decide ((x0.length : Int) ≥ 3)))
def spec_QuorumRight.f (k : Nat) (l0 : List Int) : Option (Bool) := spec_QuorumRight.l0 k l0 0
set_option maxHeartbeats 60000000 in
set_option maxRecDepth 100000 in
theorem spec_QuorumRight.calls (k : Nat) (A0 : Option Addr) (c0 : Nat) (l0 : List Int) (r : Bool) (w : World) (hr0 : Kd.C (Kd.int .i64) w A0 l0.length l0) (hc0 : l0.length ≤ c0) (h : spec_QuorumRight.f k l0 = some r) :
    Calls Try.prog 49 #[.slice A0 l0.length c0] w fun e w' => e = .returned (.bool r) ∧ Drawn0 w w' := by
 have HR0 := AM hr0; have HC0 := AM hc0; clear hr0 hc0; have H : (spec_QuorumRight.l0 k l0 0) = some r := h; clear h; have H' := AM H; clear H; go_enter Try.func49, Try.ntmps49
 go_wp2
 repeat (go_quiet (fail); try go_wp2)
 go_loopg [3] k (fun kq v3 w' => ∃ (x3_1 : Int), v3 = .int .i64 x3_1 ∧ Aside0 (spec_QuorumRight.l0 kq l0 x3_1 = some r) ∧ Aside0 (kq ≤ k) ∧ Drawn0 w w')
 case atStart => exact ⟨(0), rR, H', ⟨Nat.le_refl _⟩, drX⟩
 case round =>
  clear H'; obtain ⟨x3_1, rfl, HA, HK1, ⟨m1, rfl⟩⟩ := hrel
  cases gk with
  | zero => exact absurd HA.out (by simp [spec_QuorumRight.l0])
  | succ k1 =>
   have H := HA.out; clear HA; simp only [spec_QuorumRight.l0] at H
   by_cases c2 : x3_1 < (l0.length : Int)
   ·
    rw [if_pos c2] at H; have c2b0 := dY c2; clear c2; by_cases c3 : 0 ≤ x3_1
    ·
     rw [if_pos c3] at H; have c3b0 := dY c3; clear c3; replace H := oM H; obtain ⟨t102, A40, H⟩ := H; have A4 := AM A40; clear A40; by_cases c5 : t102 = true
     ·
      subst c5; rw [if_pos rfl] at H; by_cases c6 : x3_1 > 0
      ·
       rw [if_pos c6] at H; have c6b0 : decide (0 < x3_1) = true := dY c6; clear c6; obtain ⟨ji7, hji7⟩ : ∃ j_ : Int, (wrap64 (x3_1 - 1)) = j_ := ⟨_, rfl⟩; replace H : (if 0 ≤ (ji7) then (if (ji7) < (l0.length : Int) then (if (rd l0 (ji7)) ≥ (rd l0 x3_1) then (some false) else (spec_QuorumRight.l0 k1 l0 (wrap64 (x3_1 + 1)))) else (none)) else (none)) = some r := by first | (rw [hji7] at H; exact H) | (simp only [hji7] at H ⊢; exact H)
       (try rw [hji7] at A4); have hji7w : (IntKind.i64.wrap (x3_1 - 1)) = ji7 := (i64_w _).trans hji7; by_cases c8 : 0 ≤ (ji7)
       ·
        rw [if_pos c8] at H; have c8b0 := dY c8; clear c8; by_cases c9 : (ji7) < (l0.length : Int)
        ·
         rw [if_pos c9] at H; have c9b0 := dY c9; clear c9; by_cases c10 : (rd l0 (ji7)) ≥ (rd l0 x3_1)
         ·
          rw [if_pos c10] at H; have c10b0 : decide ((rd l0 x3_1) ≤ (rd l0 (ji7))) = true := dY c10; clear c10; obtain rfl := Option.some.inj H; obtain ⟨p101, q101, ad101, e101, hx101_0⟩ := pQ (Kd.at_int HR0.out x3_1); cases e101; go_wp2_with (first | (go_at_call 27; (with_reducible refine (spec_l09Who.calls _ _ _ A4.out).mono ?_); rintro e w' ⟨rfl, ⟨nd, rfl⟩⟩; (try first | exact ⟨rfl, _, dD⟩ | exact ⟨rfl, _, dA⟩)))
          obtain ⟨p103, q103, ad103, e103, hx103_0⟩ := pQ (Kd.at_int HR0.out (ji7)); obtain rfl : ad101 = ad103 := (by injection e103); obtain ⟨p104, q104, ad104, e104, hx104_0⟩ := pQ (Kd.at_int HR0.out x3_1); obtain rfl : ad101 = ad104 := (by injection e104)
          repeat (go_quiet (first | (go_at_call 27; (with_reducible refine (spec_l09Who.calls _ _ _ A4.out).mono ?_); rintro e w' ⟨rfl, ⟨nd, rfl⟩⟩; (try first | exact ⟨rfl, _, dD⟩ | exact ⟨rfl, _, dA⟩))); try go_wp2_with (first | (go_at_call 27; (with_reducible refine (spec_l09Who.calls _ _ _ A4.out).mono ?_); rintro e w' ⟨rfl, ⟨nd, rfl⟩⟩; (try first | exact ⟨rfl, _, dD⟩ | exact ⟨rfl, _, dA⟩))))
          go_ret
          exact ⟨by first | rfl | (simp; done) | (simp only [← hji7] <;> (first | rfl | simp)) | (simp [*]; done), drX⟩
         rw [if_neg c10] at H; have c10b0 : decide ((rd l0 x3_1) ≤ (rd l0 (ji7))) = false := dN c10; clear c10; have H' := AM H; clear H; obtain ⟨p101, q101, ad101, e101, hx101_0⟩ := pQ (Kd.at_int HR0.out x3_1); cases e101; go_wp2_with (first | (go_at_call 27; (with_reducible refine (spec_l09Who.calls _ _ _ A4.out).mono ?_); rintro e w' ⟨rfl, ⟨nd, rfl⟩⟩; (try first | exact ⟨rfl, _, dD⟩ | exact ⟨rfl, _, dA⟩)))
         obtain ⟨p103, q103, ad103, e103, hx103_0⟩ := pQ (Kd.at_int HR0.out (ji7)); obtain rfl : ad101 = ad103 := (by injection e103); obtain ⟨p104, q104, ad104, e104, hx104_0⟩ := pQ (Kd.at_int HR0.out x3_1); obtain rfl : ad101 = ad104 := (by injection e104)
         repeat (go_quiet (first | (go_at_call 27; (with_reducible refine (spec_l09Who.calls _ _ _ A4.out).mono ?_); rintro e w' ⟨rfl, ⟨nd, rfl⟩⟩; (try first | exact ⟨rfl, _, dD⟩ | exact ⟨rfl, _, dA⟩))); try go_wp2_with (first | (go_at_call 27; (with_reducible refine (spec_l09Who.calls _ _ _ A4.out).mono ?_); rintro e w' ⟨rfl, ⟨nd, rfl⟩⟩; (try first | exact ⟨rfl, _, dD⟩ | exact ⟨rfl, _, dA⟩))))
         go_roundg k1
         case measure => have := HK1.out; omega
         case rel => exact ⟨(wrap64 (x3_1 + 1)), rR, H', ⟨by have := HK1.out; omega⟩, drX⟩
        rw [if_neg c9] at H; exact absurd H (by simp)
       rw [if_neg c8] at H; exact absurd H (by simp)
      rw [if_neg c6] at H; have c6b0 : decide (0 < x3_1) = false := dN c6; clear c6; have H' := AM H; clear H; obtain ⟨p101, q101, ad101, e101, hx101_0⟩ := pQ (Kd.at_int HR0.out x3_1); cases e101; go_wp2_with (first | (go_at_call 27; (with_reducible refine (spec_l09Who.calls _ _ _ A4.out).mono ?_); rintro e w' ⟨rfl, ⟨nd, rfl⟩⟩; (try first | exact ⟨rfl, _, dD⟩ | exact ⟨rfl, _, dA⟩)))
      repeat (go_quiet (first | (go_at_call 27; (with_reducible refine (spec_l09Who.calls _ _ _ A4.out).mono ?_); rintro e w' ⟨rfl, ⟨nd, rfl⟩⟩; (try first | exact ⟨rfl, _, dD⟩ | exact ⟨rfl, _, dA⟩))); try go_wp2_with (first | (go_at_call 27; (with_reducible refine (spec_l09Who.calls _ _ _ A4.out).mono ?_); rintro e w' ⟨rfl, ⟨nd, rfl⟩⟩; (try first | exact ⟨rfl, _, dD⟩ | exact ⟨rfl, _, dA⟩))))
      go_roundg k1
      case measure => have := HK1.out; omega
      case rel => exact ⟨(wrap64 (x3_1 + 1)), rR, H', ⟨by have := HK1.out; omega⟩, drX⟩
     replace c5 := oE c5; subst c5; rw [if_neg nft] at H; obtain rfl := Option.some.inj H; obtain ⟨p101, q101, ad101, e101, hx101_0⟩ := pQ (Kd.at_int HR0.out x3_1); cases e101; go_wp2_with (first | (go_at_call 27; (with_reducible refine (spec_l09Who.calls _ _ _ A4.out).mono ?_); rintro e w' ⟨rfl, ⟨nd, rfl⟩⟩; (try first | exact ⟨rfl, _, dD⟩ | exact ⟨rfl, _, dA⟩)))
     repeat (go_quiet (first | (go_at_call 27; (with_reducible refine (spec_l09Who.calls _ _ _ A4.out).mono ?_); rintro e w' ⟨rfl, ⟨nd, rfl⟩⟩; (try first | exact ⟨rfl, _, dD⟩ | exact ⟨rfl, _, dA⟩))); try go_wp2_with (first | (go_at_call 27; (with_reducible refine (spec_l09Who.calls _ _ _ A4.out).mono ?_); rintro e w' ⟨rfl, ⟨nd, rfl⟩⟩; (try first | exact ⟨rfl, _, dD⟩ | exact ⟨rfl, _, dA⟩))))
     go_ret
     exact ⟨by first | rfl | (simp; done) | (simp [*]; done), drX⟩
    rw [if_neg c3] at H; exact absurd H (by simp)
   rw [if_neg c2] at H; have c2b0 := dN c2; clear c2; obtain rfl := Option.some.inj H; go_wp2
   repeat (go_quiet (fail); try go_wp2)
   go_ret
   exact ⟨by first | rfl | (simp; done) | (simp [*]; done), drX⟩

/-! ### spec_ProofRight: function 32 -/

def spec_ProofRight.f (k : Nat) (a0_0 : Int) (a0_1 : Int) (a0_2 : ByteArray) (l0_3 : List Int) : Option (Bool) := (spec_l10View.f a0_0).bind fun t102 => (if t102 = true then ((spec_l10Seq.f a0_1).bind fun t103 => (if t103 = true then ((spec_OpRight.f a0_2).bind fun t104 => (if t104 = true then ((spec_QuorumRight.f k l0_3).bind fun t105 => (some t105)) else (some false))) else (some false))) else (some false))
set_option maxHeartbeats 60000000 in
set_option maxRecDepth 100000 in
theorem spec_ProofRight.calls (k : Nat) (a0_0 : Int) (a0_1 : Int) (a0_2 : ByteArray) (A0_3 : Option Addr) (c0_3 : Nat) (l0_3 : List Int) (r : Bool) (w : World) (hr0_3 : Kd.C (Kd.int .i64) w A0_3 l0_3.length l0_3) (hc0_3 : l0_3.length ≤ c0_3) (h : spec_ProofRight.f k a0_0 a0_1 a0_2 l0_3 = some r) :
    Calls Try.prog 32 #[.agg #[.int .i64 a0_0, .int .i64 a0_1, .string a0_2, .slice A0_3 l0_3.length c0_3]] w fun e w' => e = .returned (.bool r) ∧ Below w.heap.size w w' := by
 have hu32 := Try.underlying32; have HR0_3 := AM hr0_3; have HC0_3 := AM hc0_3; clear hr0_3 hc0_3; have HB := AM (Below.refl w.heap.size w); have H : ((spec_l10View.f a0_0).bind fun t102 => (if t102 = true then ((spec_l10Seq.f a0_1).bind fun t103 => (if t103 = true then ((spec_OpRight.f a0_2).bind fun t104 => (if t104 = true then ((spec_QuorumRight.f k l0_3).bind fun t105 => (some t105)) else (some false))) else (some false))) else (some false))) = some r := h; clear h; replace H := oM H; obtain ⟨t102, A20, H⟩ := H; have A2 := AM A20; clear A20; by_cases c3 : t102 = true
 ·
  subst c3; rw [if_pos rfl] at H; replace H := oM H; obtain ⟨t103, A40, H⟩ := H; have A4 := AM A40; clear A40; by_cases c5 : t103 = true
  ·
   subst c5; rw [if_pos rfl] at H; replace H := oM H; obtain ⟨t104, A60, H⟩ := H; have A6 := AM A60; clear A60; by_cases c7 : t104 = true
   ·
    subst c7; rw [if_pos rfl] at H; replace H := oM H; obtain ⟨t105, A80, H⟩ := H; have A8 := AM A80; clear A80; obtain rfl := Option.some.inj H; go_enter Try.func32, Try.ntmps32
    go_wp2_with (first | (refine bE (N := 1) (cs := #[.int .i64 a0_0, .int .i64 a0_1, .string a0_2, .slice A0_3 l0_3.length c0_3]) (t := 32) ?_; intro gb101 hg w9 hbox hb; have GW101 := gY hg HB; have GE101 := GW101; have BK101 := AM (hbox); replace HB := bY HB hb; clear hb hbox hg; have hcz10 := q4 BK101.out; have hfz10 := fZ BK101.out) | ((with_reducible refine gate_callee (f := 46) rfl ?_); refine gL (some 5) Try.func46 #[.int .i64 a0_0] ?_; (with_reducible refine (spec_l10View.calls _ _ _ A2.out).mono ?_); rintro e w' ⟨rfl, ⟨nd, rfl⟩⟩; refine ⟨_, rfl, ?_⟩) | (go_at_call 47; (with_reducible refine (spec_l10Seq.calls _ _ _ A4.out).mono ?_); rintro e w' ⟨rfl, ⟨nd, rfl⟩⟩) | (go_at_call 48; (with_reducible refine (spec_OpRight.calls _ _ _ A6.out).mono ?_); rintro e w' ⟨rfl, ⟨nd, rfl⟩⟩) | (go_at_call 49; (with_reducible refine (spec_QuorumRight.calls _ _ _ _ _ _ ?s1 ?s2 A8.out).mono ?_); (case s1 => repeat (first | exact (cB HR0_3.out (bX HB.out)) | (with_reducible first | apply cA | apply cN | apply cD))); (case s2 => exact HC0_3.out); rintro e w' ⟨rfl, ⟨nd, rfl⟩⟩))
    go_ret
    exact ⟨rE, bX HB.out⟩
   replace c7 := oE c7; subst c7; rw [if_neg nft] at H; obtain rfl := Option.some.inj H; go_enter Try.func32, Try.ntmps32
   go_wp2_with (first | (refine bE (N := 1) (cs := #[.int .i64 a0_0, .int .i64 a0_1, .string a0_2, .slice A0_3 l0_3.length c0_3]) (t := 32) ?_; intro gb101 hg w11 hbox hb; have GW101 := gY hg HB; have GE101 := GW101; have BK101 := AM (hbox); replace HB := bY HB hb; clear hb hbox hg; have hcz12 := q4 BK101.out; have hfz12 := fZ BK101.out) | ((with_reducible refine gate_callee (f := 46) rfl ?_); refine gL (some 5) Try.func46 #[.int .i64 a0_0] ?_; (with_reducible refine (spec_l10View.calls _ _ _ A2.out).mono ?_); rintro e w' ⟨rfl, ⟨nd, rfl⟩⟩; refine ⟨_, rfl, ?_⟩) | (go_at_call 47; (with_reducible refine (spec_l10Seq.calls _ _ _ A4.out).mono ?_); rintro e w' ⟨rfl, ⟨nd, rfl⟩⟩) | (go_at_call 48; (with_reducible refine (spec_OpRight.calls _ _ _ A6.out).mono ?_); rintro e w' ⟨rfl, ⟨nd, rfl⟩⟩))
   go_ret
   exact ⟨rE, bX HB.out⟩
  replace c5 := oE c5; subst c5; rw [if_neg nft] at H; obtain rfl := Option.some.inj H; go_enter Try.func32, Try.ntmps32
  go_wp2_with (first | (refine bE (N := 1) (cs := #[.int .i64 a0_0, .int .i64 a0_1, .string a0_2, .slice A0_3 l0_3.length c0_3]) (t := 32) ?_; intro gb101 hg w13 hbox hb; have GW101 := gY hg HB; have GE101 := GW101; have BK101 := AM (hbox); replace HB := bY HB hb; clear hb hbox hg; have hcz14 := q4 BK101.out; have hfz14 := fZ BK101.out) | ((with_reducible refine gate_callee (f := 46) rfl ?_); refine gL (some 5) Try.func46 #[.int .i64 a0_0] ?_; (with_reducible refine (spec_l10View.calls _ _ _ A2.out).mono ?_); rintro e w' ⟨rfl, ⟨nd, rfl⟩⟩; refine ⟨_, rfl, ?_⟩) | (go_at_call 47; (with_reducible refine (spec_l10Seq.calls _ _ _ A4.out).mono ?_); rintro e w' ⟨rfl, ⟨nd, rfl⟩⟩))
  go_ret
  exact ⟨rE, bX HB.out⟩
 replace c3 := oE c3; subst c3; rw [if_neg nft] at H; obtain rfl := Option.some.inj H; go_enter Try.func32, Try.ntmps32
 go_wp2_with (first | (refine bE (N := 1) (cs := #[.int .i64 a0_0, .int .i64 a0_1, .string a0_2, .slice A0_3 l0_3.length c0_3]) (t := 32) ?_; intro gb101 hg w15 hbox hb; have GW101 := gY hg HB; have GE101 := GW101; have BK101 := AM (hbox); replace HB := bY HB hb; clear hb hbox hg; have hcz16 := q4 BK101.out; have hfz16 := fZ BK101.out) | ((with_reducible refine gate_callee (f := 46) rfl ?_); refine gL (some 5) Try.func46 #[.int .i64 a0_0] ?_; (with_reducible refine (spec_l10View.calls _ _ _ A2.out).mono ?_); rintro e w' ⟨rfl, ⟨nd, rfl⟩⟩; refine ⟨_, rfl, ?_⟩))
 go_ret
 exact ⟨rE, bX HB.out⟩

end Go.Proofs.Ytmfbkkjlijaabaa.Q
