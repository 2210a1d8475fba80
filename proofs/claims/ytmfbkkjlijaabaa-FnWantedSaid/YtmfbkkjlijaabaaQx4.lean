/- Printed by wip/mp.py: functions as plain Lean functions, and their calls. -/
import Derived.Test.YtmfbkkjlijaabaaQx3
namespace Go.Proofs.Ytmfbkkjlijaabaa.Q
open Go.RowKit Go.Proofs.Ytmfbkkjlijaabaa.HB Go.Proofs.YtmfbkkjlijaabaaW.PrintWords Go.Proofs.YtmfbkkjlijaabaaW.PrintLast Go.Proofs.YtmfbkkjlijaabaaW.PrintMore
attribute [local go_sem] max2_int min2_int max_two min_two max_three min_three max_four min_four   -- for this text's walks alone
set_option linter.unusedVariables false
set_option linter.unusedSimpArgs false

/-! ### impl_isChange: function 18 -/
abbrev impl_isChange.b0 : Array Bool := #[true, true, true, true, true, true, true, true, false, true, false, false, false, false, false, false, false, false, false, false, false, false, false, false, false, false]
abbrev impl_isChange.b1 : Array Bool := #[true, true, true, true, true, true, true, true, false, true, true, false, false, false, false, false, false, false, false, false, false, false, false, false, false, false]
abbrev impl_isChange.b2 : Array Bool := #[true, true, true, true, true, true, true, true, false, true, true, false, false, false, true, false, false, false, false, false, false, false, false, false, false, false]
abbrev impl_isChange.b3 : Array Bool := #[true, true, true, true, true, true, true, true, true, true, true, false, false, false, true, false, false, false, false, false, false, false, false, false, false, false]
abbrev impl_isChange.b4 : Array Bool := #[true, true, true, true, true, true, true, true, true, true, true, true, false, false, true, false, false, false, false, false, false, false, false, false, false, false]
abbrev impl_isChange.b5 : Array Bool := #[true, true, true, true, true, true, true, true, true, true, true, true, true, false, true, false, false, false, false, false, false, false, false, false, false, false]
abbrev impl_isChange.b6 : Array Bool := #[true, true, true, true, true, true, true, true, true, true, true, true, true, true, true, true, true, true, true, true, true, false, true, false, false, false]
def impl_isChange.l0 : Nat → List (S32) → Int → Int → Int → Int → List (S32) → Option (Bool)
  | 0, _, _, _, _, _, _ => none
  | k + 1, x6, x7, x8, x102000, x102001, x102002 => if x8 < x7 then (if 0 ≤ x8 then (if x8 < (x6.length : Int) then ((impl_isProof.f k ((rd_T32 x6 x8).f0) ((rd_T32 x6 x8).f1) ((rd_T32 x6 x8).f2) ((rd_T32 x6 x8).f3)).bind fun t104 => (if t104 = true then (if x8 > 0 then (if 0 ≤ (wrap64 (x8 - 1)) then (if (wrap64 (x8 - 1)) < (x102002.length : Int) then (if ((rd_T32 x102002 (wrap64 (x8 - 1))).f1) ≥ ((rd_T32 x6 x8).f1) then (some false) else (if ((rd_T32 x6 x8).f0) ≥ x102001 then (some false) else (impl_isChange.l0 k x6 x7 (wrap64 (x8 + 1)) x102000 x102001 x102002))) else (none)) else (none)) else (if ((rd_T32 x6 x8).f0) ≥ x102001 then (some false) else (impl_isChange.l0 k x6 x7 (wrap64 (x8 + 1)) x102000 x102001 x102002))) else (some false))) else (none)) else (none)) else ((impl_isReplica.f x102000).bind fun t106 => (if t106 = true then ((impl_isView.f x102001 1).bind fun t107 => (some t107)) else (some false)))
def impl_isChange.f (k : Nat) (a0_0 : Int) (a0_1 : Int) (l0_2 : List (S32)) : Option (Bool) := impl_isChange.l0 k l0_2 (l0_2.length : Int) 0 a0_0 a0_1 l0_2
def impl_isChange.T4 : Bool × List (List Nat × List Nat) := (true, [([], []), ([0], [0]), ([1], [1]), ([2, 1], [2]), ([3], [3]), ([4, 3], [3, 4]), ([5, 3, 3], [3, 5]), ([6], [6]), ([7, 6], [6, 7]), ([6], [6]), ([9, 6], [6, 9]), ([8, 10, 6], [6, 8, 10]), ([11, 6], [6, 11]), ([12, 6], [6, 12]), ([6], [6]), ([14, 6], [6, 14]), ([13, 15, 6], [6, 13, 15]), ([6, 16, 3], [3, 6, 16]), ([3, 17], [3, 17]), ([18, 6], [18]), ([19], [19]), ([20, 19], [19, 20]), ([19], [19]), ([22, 19], [19, 22]), ([21, 23, 19], [19, 21, 23]), ([19, 24], [19, 24])])
def impl_isChange.B4 : List Nat := [0, 1, 3, 7, 15, 31, 63, 127, 255, 127, 639, 2047, 4095, 8191, 127, 16511, 65535, 131071, 262143, 524287, 1048575, 2097151, 1048575, 5242879, 16777215, 33554431]
theorem impl_isChange.tab4 : rtab .any (opsOf Try.f18 4) = impl_isChange.T4 := by kernel_rfl
theorem impl_isChange.bits4 : waitsOk impl_isChange.T4.2 impl_isChange.B4 = true := by kernel_rfl
set_option maxHeartbeats 60000000 in
set_option maxRecDepth 100000 in
theorem impl_isChange.calls (k : Nat) (a0_0 : Int) (a0_1 : Int) (A0_2 : Option Addr) (c0_2 : Nat) (l0_2 : List (S32)) (r : Bool) (w : World) (hr0_2 : Kd.C k32 w A0_2 l0_2.length l0_2) (hc0_2 : l0_2.length ≤ c0_2) (h : impl_isChange.f k a0_0 a0_1 l0_2 = some r) :
    Calls Try.prog 18 #[.agg #[.int .i64 a0_0, .int .i64 a0_1, .slice A0_2 l0_2.length c0_2]] w fun e w' => e = .returned (.bool r) ∧ Below w.heap.size w w' := by
 have hu29 := Try.underlying29; have hu32 := Try.underlying32; have HR0_2 := AM hr0_2; have HC0_2 := AM hc0_2; clear hr0_2 hc0_2; have HB := AM (Below.refl w.heap.size w); have H : (impl_isChange.l0 k l0_2 (l0_2.length : Int) 0 a0_0 a0_1 l0_2) = some r := h; clear h; have H' := AM H; clear H; go_enter Try.func18, Try.ntmps18
 go_wp2_with (first | (refine bE (N := 1) (cs := #[.int .i64 a0_0, .int .i64 a0_1, .slice A0_2 l0_2.length c0_2]) (t := 29) ?_; intro gb101 hg w2 hbox hb; have GW101 := gY hg HB; have GE101 := GW101; have BK101 := AM (hbox); replace HB := bY HB hb; clear hb hbox hg; have hcz3 := q3 BK101.out; have hfz3 := fZ BK101.out))
 go_loopg [8] k (fun kq v8 w' => ∃ (x8_1 : Int), v8 = .int .i64 x8_1 ∧ Aside0 (impl_isChange.l0 kq l0_2 (l0_2.length : Int) x8_1 a0_0 a0_1 l0_2 = some r) ∧ Aside0 (kq ≤ k) ∧ Aside0 (w'.heap[gb101]? = some (.cells #[.int .i64 a0_0, .int .i64 a0_1, (.slice A0_2 l0_2.length c0_2)] 29 (0, 0))) ∧ Aside0 (Below w.heap.size w w'))
 case atStart => exact ⟨(0), rR, H', ⟨Nat.le_refl _⟩, ⟨kX BK101.out⟩, ⟨bX HB.out⟩⟩
 case round =>
  clear H'; (try clear c1); (try clear p2); (try clear hcz3); (try clear hfz3); obtain ⟨x8_1, rfl, HA, HK1, BK101, HB⟩ := hrel
  cases gk with
  | zero => exact absurd HA.out (by simp [impl_isChange.l0])
  | succ k1 =>
   have H := HA.out; clear HA; simp only [impl_isChange.l0] at H
   by_cases c4 : x8_1 < (l0_2.length : Int)
   ·
    rw [if_pos c4] at H; have c4b0 := dY c4; clear c4; by_cases c5 : 0 ≤ x8_1
    ·
     rw [if_pos c5] at H; have c5b0 := dY c5; clear c5; by_cases c6 : x8_1 < (l0_2.length : Int)
     ·
      rw [if_pos c6] at H; have c6b0 := dY c6; clear c6; replace H := oM H; obtain ⟨t104, A70, H⟩ := H; have A7 := AM A70; clear A70; by_cases c8 : t104 = true
      ·
       subst c8; rw [if_pos rfl] at H; by_cases c9 : x8_1 > 0
       ·
        rw [if_pos c9] at H; have c9b0 : decide (0 < x8_1) = true := dY c9; clear c9; obtain ⟨ji10, hji10⟩ : ∃ j_ : Int, (wrap64 (x8_1 - 1)) = j_ := ⟨_, rfl⟩; replace H : (if 0 ≤ (ji10) then (if (ji10) < (l0_2.length : Int) then (if ((rd_T32 l0_2 (ji10)).f1) ≥ ((rd_T32 l0_2 x8_1).f1) then (some false) else (if ((rd_T32 l0_2 x8_1).f0) ≥ a0_1 then (some false) else (impl_isChange.l0 k1 l0_2 (l0_2.length : Int) (wrap64 (x8_1 + 1)) a0_0 a0_1 l0_2))) else (none)) else (none)) = some r := by first | (rw [hji10] at H; exact H) | (simp only [hji10] at H ⊢; exact H)
        (try rw [hji10] at A7); have hji10w : (IntKind.i64.wrap (x8_1 - 1)) = ji10 := (i64_w _).trans hji10; by_cases c11 : 0 ≤ (ji10)
        ·
         rw [if_pos c11] at H; have c11b0 := dY c11; clear c11; by_cases c12 : (ji10) < (l0_2.length : Int)
         ·
          rw [if_pos c12] at H; have c12b0 := dY c12; clear c12; by_cases c13 : ((rd_T32 l0_2 (ji10)).f1) ≥ ((rd_T32 l0_2 x8_1).f1)
          ·
           rw [if_pos c13] at H; have c13b0 : decide (((rd_T32 l0_2 x8_1).f1) ≤ ((rd_T32 l0_2 (ji10)).f1)) = true := dY c13; clear c13; obtain rfl := Option.some.inj H; obtain ⟨p102, q102, ad102, A102_3, c102_3, e102, hx102_0, hx102_1, hx102_2, hx102_3, hl102_3, hi102_3⟩ := pQ (at_T32 HR0_2.out x8_1); cases e102; replace hx102_0 := pB HB.out hx102_0; replace hx102_1 := pB HB.out hx102_1; replace hx102_2 := pB HB.out hx102_2; replace hx102_3 := pB HB.out hx102_3; have HR102_3 := AM hi102_3; have HC102_3 := AM hl102_3; clear hi102_3 hl102_3; try go_wp2_with (first | (refine bE (N := 4) (cs := zz1) (t := 32) ?_; intro gb103 hg w14 hbox hb; have GW103 := gY hg HB; have GE103 := GW103; have BK103 := AM (hbox); have NB101_103 := lY hg BK101; have NB103_101 := sY NB101_103; replace BK101 := nY BK101 hb; replace HB := bY HB hb; clear hb hbox hg; have hnb15 := nP NB103_101; have hcz16 := q4 BK103.out; have hfz16 := fZ BK103.out))
           generalize hW_ : ((((w14.setCell ⟨gb103, 0, none⟩ (.int .i64 ((rd_T32 l0_2 x8_1).f0))).setCell ⟨gb103, 1, none⟩ (.int .i64 ((rd_T32 l0_2 x8_1).f1))).setCell ⟨gb103, 2, none⟩ (.string ((rd_T32 l0_2 x8_1).f2))).setCell ⟨gb103, 3, none⟩ (.slice A102_3 ((rd_T32 l0_2 x8_1).f3).length c102_3)) = w17; have n0_ := kW hW_ BK101 (by intro h_; (iterate 4 refine kF NB101_103.out ?_); exact kX h_)
           have n1_ := pW4 hW_ BK103
           have n2_ := bW hW_ HB
           (try clear BK101); (try clear BK103); (try clear HB); clear hW_; have BK101 := n0_; have BK103 := n1_; have HB := n2_; clear n0_ n1_ n2_; replace BK101 := kDY BK101; replace BK103 := kDY BK103; replace HB := bDY HB; obtain ⟨p105, q105, ad105, A105_3, c105_3, e105, hx105_0, hx105_1, hx105_2, hx105_3, hl105_3, hi105_3⟩ := pQ (at_T32 HR0_2.out (ji10)); have hw105_3 := hx105_3; have hw105_2 := hx105_2; have hw105_1 := hx105_1; have hw105_0 := hx105_0; obtain rfl : ad102 = ad105 := (by injection e105); replace hx105_0 := pB HB.out hx105_0; replace hx105_1 := pB HB.out hx105_1; replace hx105_2 := pB HB.out hx105_2; replace hx105_3 := pB HB.out hx105_3; have HR105_3 := AM hi105_3; have HC105_3 := AM hl105_3; clear hi105_3 hl105_3; refine start_ (n := 26) (S := fun w' => w'.cell? ⟨gb103, 0, none⟩ = some (.int .i64 ((rd_T32 l0_2 x8_1).f0)) ∧ w'.cell? ⟨gb103, 1, none⟩ = some (.int .i64 ((rd_T32 l0_2 x8_1).f1)) ∧ w'.cell? ⟨gb103, 2, none⟩ = some (.string ((rd_T32 l0_2 x8_1).f2)) ∧ w'.cell? ⟨gb103, 3, none⟩ = some (.slice A102_3 ((rd_T32 l0_2 x8_1).f3).length c102_3) ∧ w'.cell? ⟨gb101, 0, none⟩ = some (.int .i64 a0_0) ∧ w'.cell? ⟨gb101, 1, none⟩ = some (.int .i64 a0_1) ∧ w'.cell? ⟨gb101, 2, none⟩ = some (.slice (some ad102) l0_2.length c0_2) ∧ w'.cell? (ad102.add (((ji10)).toNat * 4)) = some (.int .i64 ((rd_T32 l0_2 (ji10)).f0)) ∧ w'.cell? ⟨(ad102.add (((ji10)).toNat * 4)).block, (ad102.add (((ji10)).toNat * 4)).off + 1, none⟩ = some (.int .i64 ((rd_T32 l0_2 (ji10)).f1)) ∧ w'.cell? ⟨(ad102.add (((ji10)).toNat * 4)).block, (ad102.add (((ji10)).toNat * 4)).off + 2, none⟩ = some (.string ((rd_T32 l0_2 (ji10)).f2)) ∧ w'.cell? ⟨(ad102.add (((ji10)).toNat * 4)).block, (ad102.add (((ji10)).toNat * 4)).off + 3, none⟩ = some (.slice A105_3 ((rd_T32 l0_2 (ji10)).f3).length c105_3)) (ds := []) (upTo 0 26) (by kernel_rfl) rfl rfl ⟨hC BK103.out 0, hC BK103.out 1, hC BK103.out 2, hC BK103.out 3, hC BK101.out 0, hC BK101.out 1, hC BK101.out 2, (pB HB.out hw105_0), (pB HB.out hw105_1), (pB HB.out hw105_2), (pB HB.out hw105_3)⟩ (fun hHeld => ?_); refine with_tabW impl_isChange.tab4 impl_isChange.bits4 (fun HT_ HW_ => ?_); generalize w17.drew = w18 at BK101 BK103 HB HR105_3 hx105_0 hx105_1 hx105_2 hx105_3 hHeld ⊢; refine pT2 0 13 (upTo 1 26) ?_ hHeld; refine oU 1 14 (upTo 2 26) HT_.out (fun K hK => ?_); refine gs Try.func34 #[.agg #[.int .i64 ((rd_T32 l0_2 x8_1).f0), .int .i64 ((rd_T32 l0_2 x8_1).f1), .string ((rd_T32 l0_2 x8_1).f2), .slice A102_3 ((rd_T32 l0_2 x8_1).f3).length c102_3]] ?_; with_reducible refine (impl_isProof.calls k1 ((rd_T32 l0_2 x8_1).f0) ((rd_T32 l0_2 x8_1).f1) ((rd_T32 l0_2 x8_1).f2) _ _ ((rd_T32 l0_2 x8_1).f3) true _ ?s1 ?s2 A7.out).mono ?_
           (case s1 => exact cY HR102_3 HB)
           (case s2 => exact HC102_3.out)
           rintro e w19 ⟨rfl, hb⟩; refine ⟨_, rfl, ?_⟩; replace BK101 := nY BK101 hb; replace BK103 := nY BK103 hb; replace HB := bY HB hb; refine hK.out _ _ ⟨hC BK103.out 0, hC BK103.out 1, hC BK103.out 2, hC BK103.out 3, hC BK101.out 0, hC BK101.out 1, hC BK101.out 2, (pB HB.out hw105_0), (pB HB.out hw105_1), (pB HB.out hw105_2), (pB HB.out hw105_3)⟩ (fun hHeld => ?_); clear hK K; refine nS 14 ?_
           refine pF 2 3 26 15 ?_; refine pF 3 4 26 16 ?_; refine pF 4 5 26 17 ?_; refine pF 5 6 26 18 ?_; refine pF 6 7 26 19 ?_; refine pF 7 8 26 20 ?_; refine pF2 9 22 impl_isChange.b0 ?_; refine pF2 10 23 impl_isChange.b1 ?_; refine pF2 14 27 impl_isChange.b2 ?_; refine pT2 8 21 impl_isChange.b3 ?_ hHeld; refine pF2 11 24 impl_isChange.b4 ?_; refine pF2 12 25 impl_isChange.b5 ?_; refine pT2 13 26 (upTo 15 26) ?_ hHeld; refine pT2 15 28 (upTo 16 26) ?_ hHeld; refine pF 16 17 26 29 ?_; refine pF 17 18 26 30 ?_; refine pF 18 19 26 31 ?_; refine pF 19 20 26 32 ?_; refine pU 20 21 26 33 ?_; refine pU 21 22 26 34 ?_; refine pU 22 23 26 35 ?_; refine pU 23 24 26 36 ?_; refine pU 24 25 26 37 ?_; refine pF 25 26 26 38 ?_; refine done_ (done_of HT_.out (by kernel_rfl)) ?_; try go_wp2
           go_ret
           exact ⟨by first | rfl | (simp [errW_none, errW_some] <;> rfl) | (simp only [← hji10]; first | rfl | (simp [errW_none, errW_some] <;> rfl)) | (simp [*, errW_none, errW_some] <;> rfl), bX HB.out⟩
          rw [if_neg c13] at H; have c13b0 : decide (((rd_T32 l0_2 x8_1).f1) ≤ ((rd_T32 l0_2 (ji10)).f1)) = false := dN c13; clear c13; by_cases c20 : ((rd_T32 l0_2 x8_1).f0) ≥ a0_1
          ·
           rw [if_pos c20] at H; have c20b0 : decide (a0_1 ≤ ((rd_T32 l0_2 x8_1).f0)) = true := dY c20; clear c20; obtain rfl := Option.some.inj H; obtain ⟨p102, q102, ad102, A102_3, c102_3, e102, hx102_0, hx102_1, hx102_2, hx102_3, hl102_3, hi102_3⟩ := pQ (at_T32 HR0_2.out x8_1); cases e102; replace hx102_0 := pB HB.out hx102_0; replace hx102_1 := pB HB.out hx102_1; replace hx102_2 := pB HB.out hx102_2; replace hx102_3 := pB HB.out hx102_3; have HR102_3 := AM hi102_3; have HC102_3 := AM hl102_3; clear hi102_3 hl102_3; try go_wp2_with (first | (refine bE (N := 4) (cs := zz1) (t := 32) ?_; intro gb103 hg w21 hbox hb; have GW103 := gY hg HB; have GE103 := GW103; have BK103 := AM (hbox); have NB101_103 := lY hg BK101; have NB103_101 := sY NB101_103; replace BK101 := nY BK101 hb; replace HB := bY HB hb; clear hb hbox hg; have hnb22 := nP NB103_101; have hcz23 := q4 BK103.out; have hfz23 := fZ BK103.out))
           generalize hW_ : ((((w21.setCell ⟨gb103, 0, none⟩ (.int .i64 ((rd_T32 l0_2 x8_1).f0))).setCell ⟨gb103, 1, none⟩ (.int .i64 ((rd_T32 l0_2 x8_1).f1))).setCell ⟨gb103, 2, none⟩ (.string ((rd_T32 l0_2 x8_1).f2))).setCell ⟨gb103, 3, none⟩ (.slice A102_3 ((rd_T32 l0_2 x8_1).f3).length c102_3)) = w24; have n0_ := kW hW_ BK101 (by intro h_; (iterate 4 refine kF NB101_103.out ?_); exact kX h_)
           have n1_ := pW4 hW_ BK103
           have n2_ := bW hW_ HB
           (try clear BK101); (try clear BK103); (try clear HB); clear hW_; have BK101 := n0_; have BK103 := n1_; have HB := n2_; clear n0_ n1_ n2_; replace BK101 := kDY BK101; replace BK103 := kDY BK103; replace HB := bDY HB; obtain ⟨p105, q105, ad105, A105_3, c105_3, e105, hx105_0, hx105_1, hx105_2, hx105_3, hl105_3, hi105_3⟩ := pQ (at_T32 HR0_2.out (ji10)); have hw105_3 := hx105_3; have hw105_2 := hx105_2; have hw105_1 := hx105_1; have hw105_0 := hx105_0; obtain rfl : ad102 = ad105 := (by injection e105); replace hx105_0 := pB HB.out hx105_0; replace hx105_1 := pB HB.out hx105_1; replace hx105_2 := pB HB.out hx105_2; replace hx105_3 := pB HB.out hx105_3; have HR105_3 := AM hi105_3; have HC105_3 := AM hl105_3; clear hi105_3 hl105_3; refine start_ (n := 26) (S := fun w' => w'.cell? ⟨gb103, 0, none⟩ = some (.int .i64 ((rd_T32 l0_2 x8_1).f0)) ∧ w'.cell? ⟨gb103, 1, none⟩ = some (.int .i64 ((rd_T32 l0_2 x8_1).f1)) ∧ w'.cell? ⟨gb103, 2, none⟩ = some (.string ((rd_T32 l0_2 x8_1).f2)) ∧ w'.cell? ⟨gb103, 3, none⟩ = some (.slice A102_3 ((rd_T32 l0_2 x8_1).f3).length c102_3) ∧ w'.cell? ⟨gb101, 0, none⟩ = some (.int .i64 a0_0) ∧ w'.cell? ⟨gb101, 1, none⟩ = some (.int .i64 a0_1) ∧ w'.cell? ⟨gb101, 2, none⟩ = some (.slice (some ad102) l0_2.length c0_2) ∧ w'.cell? (ad102.add (((ji10)).toNat * 4)) = some (.int .i64 ((rd_T32 l0_2 (ji10)).f0)) ∧ w'.cell? ⟨(ad102.add (((ji10)).toNat * 4)).block, (ad102.add (((ji10)).toNat * 4)).off + 1, none⟩ = some (.int .i64 ((rd_T32 l0_2 (ji10)).f1)) ∧ w'.cell? ⟨(ad102.add (((ji10)).toNat * 4)).block, (ad102.add (((ji10)).toNat * 4)).off + 2, none⟩ = some (.string ((rd_T32 l0_2 (ji10)).f2)) ∧ w'.cell? ⟨(ad102.add (((ji10)).toNat * 4)).block, (ad102.add (((ji10)).toNat * 4)).off + 3, none⟩ = some (.slice A105_3 ((rd_T32 l0_2 (ji10)).f3).length c105_3)) (ds := []) (upTo 0 26) (by kernel_rfl) rfl rfl ⟨hC BK103.out 0, hC BK103.out 1, hC BK103.out 2, hC BK103.out 3, hC BK101.out 0, hC BK101.out 1, hC BK101.out 2, (pB HB.out hw105_0), (pB HB.out hw105_1), (pB HB.out hw105_2), (pB HB.out hw105_3)⟩ (fun hHeld => ?_); refine with_tabW impl_isChange.tab4 impl_isChange.bits4 (fun HT_ HW_ => ?_); generalize w24.drew = w25 at BK101 BK103 HB HR105_3 hx105_0 hx105_1 hx105_2 hx105_3 hHeld ⊢; refine pT2 0 13 (upTo 1 26) ?_ hHeld; refine oU 1 14 (upTo 2 26) HT_.out (fun K hK => ?_); refine gs Try.func34 #[.agg #[.int .i64 ((rd_T32 l0_2 x8_1).f0), .int .i64 ((rd_T32 l0_2 x8_1).f1), .string ((rd_T32 l0_2 x8_1).f2), .slice A102_3 ((rd_T32 l0_2 x8_1).f3).length c102_3]] ?_; with_reducible refine (impl_isProof.calls k1 ((rd_T32 l0_2 x8_1).f0) ((rd_T32 l0_2 x8_1).f1) ((rd_T32 l0_2 x8_1).f2) _ _ ((rd_T32 l0_2 x8_1).f3) true _ ?s1 ?s2 A7.out).mono ?_
           (case s1 => exact cY HR102_3 HB)
           (case s2 => exact HC102_3.out)
           rintro e w26 ⟨rfl, hb⟩; refine ⟨_, rfl, ?_⟩; replace BK101 := nY BK101 hb; replace BK103 := nY BK103 hb; replace HB := bY HB hb; refine hK.out _ _ ⟨hC BK103.out 0, hC BK103.out 1, hC BK103.out 2, hC BK103.out 3, hC BK101.out 0, hC BK101.out 1, hC BK101.out 2, (pB HB.out hw105_0), (pB HB.out hw105_1), (pB HB.out hw105_2), (pB HB.out hw105_3)⟩ (fun hHeld => ?_); clear hK K; refine nS 14 ?_
           refine pF 2 3 26 15 ?_; refine pF 3 4 26 16 ?_; refine pF 4 5 26 17 ?_; refine pF 5 6 26 18 ?_; refine pF 6 7 26 19 ?_; refine pF 7 8 26 20 ?_; refine pF2 9 22 impl_isChange.b0 ?_; refine pF2 10 23 impl_isChange.b1 ?_; refine pF2 14 27 impl_isChange.b2 ?_; refine pT2 8 21 impl_isChange.b3 ?_ hHeld; refine pF2 11 24 impl_isChange.b4 ?_; refine pF2 12 25 impl_isChange.b5 ?_; refine pT2 13 26 (upTo 15 26) ?_ hHeld; refine pT2 15 28 (upTo 16 26) ?_ hHeld; refine pF 16 17 26 29 ?_; refine pF 17 18 26 30 ?_; refine pF 18 19 26 31 ?_; refine pF 19 20 26 32 ?_; refine pF 20 21 26 33 ?_; refine pF2 22 35 impl_isChange.b6 ?_; refine pT2 21 34 (upTo 23 26) ?_ hHeld; refine pT2 23 36 (upTo 24 26) ?_ hHeld; refine pF 24 25 26 37 ?_; refine pF 25 26 26 38 ?_; refine done_ (done_of HT_.out (by kernel_rfl)) ?_; try go_wp2
           go_ret
           exact ⟨by first | rfl | (simp [errW_none, errW_some] <;> rfl) | (simp only [← hji10]; first | rfl | (simp [errW_none, errW_some] <;> rfl)) | (simp [*, errW_none, errW_some] <;> rfl), bX HB.out⟩
          rw [if_neg c20] at H; have c20b0 : decide (a0_1 ≤ ((rd_T32 l0_2 x8_1).f0)) = false := dN c20; clear c20; have H' := AM H; clear H; obtain ⟨p102, q102, ad102, A102_3, c102_3, e102, hx102_0, hx102_1, hx102_2, hx102_3, hl102_3, hi102_3⟩ := pQ (at_T32 HR0_2.out x8_1); cases e102; replace hx102_0 := pB HB.out hx102_0; replace hx102_1 := pB HB.out hx102_1; replace hx102_2 := pB HB.out hx102_2; replace hx102_3 := pB HB.out hx102_3; have HR102_3 := AM hi102_3; have HC102_3 := AM hl102_3; clear hi102_3 hl102_3; try go_wp2_with (first | (refine bE (N := 4) (cs := zz1) (t := 32) ?_; intro gb103 hg w27 hbox hb; have GW103 := gY hg HB; have GE103 := GW103; have BK103 := AM (hbox); have NB101_103 := lY hg BK101; have NB103_101 := sY NB101_103; replace BK101 := nY BK101 hb; replace HB := bY HB hb; clear hb hbox hg; have hnb28 := nP NB103_101; have hcz29 := q4 BK103.out; have hfz29 := fZ BK103.out))
          generalize hW_ : ((((w27.setCell ⟨gb103, 0, none⟩ (.int .i64 ((rd_T32 l0_2 x8_1).f0))).setCell ⟨gb103, 1, none⟩ (.int .i64 ((rd_T32 l0_2 x8_1).f1))).setCell ⟨gb103, 2, none⟩ (.string ((rd_T32 l0_2 x8_1).f2))).setCell ⟨gb103, 3, none⟩ (.slice A102_3 ((rd_T32 l0_2 x8_1).f3).length c102_3)) = w30; have n0_ := kW hW_ BK101 (by intro h_; (iterate 4 refine kF NB101_103.out ?_); exact kX h_)
          have n1_ := pW4 hW_ BK103
          have n2_ := bW hW_ HB
          (try clear BK101); (try clear BK103); (try clear HB); clear hW_; have BK101 := n0_; have BK103 := n1_; have HB := n2_; clear n0_ n1_ n2_; replace BK101 := kDY BK101; replace BK103 := kDY BK103; replace HB := bDY HB; obtain ⟨p105, q105, ad105, A105_3, c105_3, e105, hx105_0, hx105_1, hx105_2, hx105_3, hl105_3, hi105_3⟩ := pQ (at_T32 HR0_2.out (ji10)); have hw105_3 := hx105_3; have hw105_2 := hx105_2; have hw105_1 := hx105_1; have hw105_0 := hx105_0; obtain rfl : ad102 = ad105 := (by injection e105); replace hx105_0 := pB HB.out hx105_0; replace hx105_1 := pB HB.out hx105_1; replace hx105_2 := pB HB.out hx105_2; replace hx105_3 := pB HB.out hx105_3; have HR105_3 := AM hi105_3; have HC105_3 := AM hl105_3; clear hi105_3 hl105_3; refine start_ (n := 26) (S := fun w' => w'.cell? ⟨gb103, 0, none⟩ = some (.int .i64 ((rd_T32 l0_2 x8_1).f0)) ∧ w'.cell? ⟨gb103, 1, none⟩ = some (.int .i64 ((rd_T32 l0_2 x8_1).f1)) ∧ w'.cell? ⟨gb103, 2, none⟩ = some (.string ((rd_T32 l0_2 x8_1).f2)) ∧ w'.cell? ⟨gb103, 3, none⟩ = some (.slice A102_3 ((rd_T32 l0_2 x8_1).f3).length c102_3) ∧ w'.cell? ⟨gb101, 0, none⟩ = some (.int .i64 a0_0) ∧ w'.cell? ⟨gb101, 1, none⟩ = some (.int .i64 a0_1) ∧ w'.cell? ⟨gb101, 2, none⟩ = some (.slice (some ad102) l0_2.length c0_2) ∧ w'.cell? (ad102.add (((ji10)).toNat * 4)) = some (.int .i64 ((rd_T32 l0_2 (ji10)).f0)) ∧ w'.cell? ⟨(ad102.add (((ji10)).toNat * 4)).block, (ad102.add (((ji10)).toNat * 4)).off + 1, none⟩ = some (.int .i64 ((rd_T32 l0_2 (ji10)).f1)) ∧ w'.cell? ⟨(ad102.add (((ji10)).toNat * 4)).block, (ad102.add (((ji10)).toNat * 4)).off + 2, none⟩ = some (.string ((rd_T32 l0_2 (ji10)).f2)) ∧ w'.cell? ⟨(ad102.add (((ji10)).toNat * 4)).block, (ad102.add (((ji10)).toNat * 4)).off + 3, none⟩ = some (.slice A105_3 ((rd_T32 l0_2 (ji10)).f3).length c105_3)) (ds := []) (upTo 0 26) (by kernel_rfl) rfl rfl ⟨hC BK103.out 0, hC BK103.out 1, hC BK103.out 2, hC BK103.out 3, hC BK101.out 0, hC BK101.out 1, hC BK101.out 2, (pB HB.out hw105_0), (pB HB.out hw105_1), (pB HB.out hw105_2), (pB HB.out hw105_3)⟩ (fun hHeld => ?_); refine with_tabW impl_isChange.tab4 impl_isChange.bits4 (fun HT_ HW_ => ?_); generalize w30.drew = w31 at BK101 BK103 HB HR105_3 hx105_0 hx105_1 hx105_2 hx105_3 hHeld ⊢; refine pT2 0 13 (upTo 1 26) ?_ hHeld; refine oU 1 14 (upTo 2 26) HT_.out (fun K hK => ?_); refine gs Try.func34 #[.agg #[.int .i64 ((rd_T32 l0_2 x8_1).f0), .int .i64 ((rd_T32 l0_2 x8_1).f1), .string ((rd_T32 l0_2 x8_1).f2), .slice A102_3 ((rd_T32 l0_2 x8_1).f3).length c102_3]] ?_; with_reducible refine (impl_isProof.calls k1 ((rd_T32 l0_2 x8_1).f0) ((rd_T32 l0_2 x8_1).f1) ((rd_T32 l0_2 x8_1).f2) _ _ ((rd_T32 l0_2 x8_1).f3) true _ ?s1 ?s2 A7.out).mono ?_
          (case s1 => exact cY HR102_3 HB)
          (case s2 => exact HC102_3.out)
          rintro e w32 ⟨rfl, hb⟩; refine ⟨_, rfl, ?_⟩; replace BK101 := nY BK101 hb; replace BK103 := nY BK103 hb; replace HB := bY HB hb; refine hK.out _ _ ⟨hC BK103.out 0, hC BK103.out 1, hC BK103.out 2, hC BK103.out 3, hC BK101.out 0, hC BK101.out 1, hC BK101.out 2, (pB HB.out hw105_0), (pB HB.out hw105_1), (pB HB.out hw105_2), (pB HB.out hw105_3)⟩ (fun hHeld => ?_); clear hK K; refine nS 14 ?_
          refine pF 2 3 26 15 ?_; refine pF 3 4 26 16 ?_; refine pF 4 5 26 17 ?_; refine pF 5 6 26 18 ?_; refine pF 6 7 26 19 ?_; refine pF 7 8 26 20 ?_; refine pF2 9 22 impl_isChange.b0 ?_; refine pF2 10 23 impl_isChange.b1 ?_; refine pF2 14 27 impl_isChange.b2 ?_; refine pT2 8 21 impl_isChange.b3 ?_ hHeld; refine pF2 11 24 impl_isChange.b4 ?_; refine pF2 12 25 impl_isChange.b5 ?_; refine pT2 13 26 (upTo 15 26) ?_ hHeld; refine pT2 15 28 (upTo 16 26) ?_ hHeld; refine pF 16 17 26 29 ?_; refine pF 17 18 26 30 ?_; refine pF 18 19 26 31 ?_; refine pF 19 20 26 32 ?_; refine pF 20 21 26 33 ?_; refine pF2 22 35 impl_isChange.b6 ?_; refine pT2 21 34 (upTo 23 26) ?_ hHeld; refine pT2 23 36 (upTo 24 26) ?_ hHeld; refine pF 24 25 26 37 ?_; refine pF 25 26 26 38 ?_; refine done_ (done_of HT_.out (by kernel_rfl)) ?_; try go_wp2
          go_roundg k1
          case measure => have := HK1.out; omega
          case rel => exact ⟨(wrap64 (x8_1 + 1)), rR, H', ⟨by have := HK1.out; omega⟩, ⟨kX BK101.out⟩, ⟨bX HB.out⟩⟩
         rw [if_neg c12] at H; exact absurd H (by simp)
        rw [if_neg c11] at H; exact absurd H (by simp)
       rw [if_neg c9] at H; have c9b0 : decide (0 < x8_1) = false := dN c9; clear c9; by_cases c33 : ((rd_T32 l0_2 x8_1).f0) ≥ a0_1
       ·
        rw [if_pos c33] at H; have c33b0 : decide (a0_1 ≤ ((rd_T32 l0_2 x8_1).f0)) = true := dY c33; clear c33; obtain rfl := Option.some.inj H; obtain ⟨p102, q102, ad102, A102_3, c102_3, e102, hx102_0, hx102_1, hx102_2, hx102_3, hl102_3, hi102_3⟩ := pQ (at_T32 HR0_2.out x8_1); cases e102; replace hx102_0 := pB HB.out hx102_0; replace hx102_1 := pB HB.out hx102_1; replace hx102_2 := pB HB.out hx102_2; replace hx102_3 := pB HB.out hx102_3; have HR102_3 := AM hi102_3; have HC102_3 := AM hl102_3; clear hi102_3 hl102_3; try go_wp2_with (first | (refine bE (N := 4) (cs := zz1) (t := 32) ?_; intro gb103 hg w34 hbox hb; have GW103 := gY hg HB; have GE103 := GW103; have BK103 := AM (hbox); have NB101_103 := lY hg BK101; have NB103_101 := sY NB101_103; replace BK101 := nY BK101 hb; replace HB := bY HB hb; clear hb hbox hg; have hnb35 := nP NB103_101; have hcz36 := q4 BK103.out; have hfz36 := fZ BK103.out))
        generalize hW_ : ((((w34.setCell ⟨gb103, 0, none⟩ (.int .i64 ((rd_T32 l0_2 x8_1).f0))).setCell ⟨gb103, 1, none⟩ (.int .i64 ((rd_T32 l0_2 x8_1).f1))).setCell ⟨gb103, 2, none⟩ (.string ((rd_T32 l0_2 x8_1).f2))).setCell ⟨gb103, 3, none⟩ (.slice A102_3 ((rd_T32 l0_2 x8_1).f3).length c102_3)) = w37; have n0_ := kW hW_ BK101 (by intro h_; (iterate 4 refine kF NB101_103.out ?_); exact kX h_)
        have n1_ := pW4 hW_ BK103
        have n2_ := bW hW_ HB
        (try clear BK101); (try clear BK103); (try clear HB); clear hW_; have BK101 := n0_; have BK103 := n1_; have HB := n2_; clear n0_ n1_ n2_; replace BK101 := kDY BK101; replace BK103 := kDY BK103; replace HB := bDY HB; refine start_ (n := 26) (S := fun w' => w'.cell? ⟨gb103, 0, none⟩ = some (.int .i64 ((rd_T32 l0_2 x8_1).f0)) ∧ w'.cell? ⟨gb103, 1, none⟩ = some (.int .i64 ((rd_T32 l0_2 x8_1).f1)) ∧ w'.cell? ⟨gb103, 2, none⟩ = some (.string ((rd_T32 l0_2 x8_1).f2)) ∧ w'.cell? ⟨gb103, 3, none⟩ = some (.slice A102_3 ((rd_T32 l0_2 x8_1).f3).length c102_3) ∧ w'.cell? ⟨gb101, 0, none⟩ = some (.int .i64 a0_0) ∧ w'.cell? ⟨gb101, 1, none⟩ = some (.int .i64 a0_1) ∧ w'.cell? ⟨gb101, 2, none⟩ = some (.slice (some ad102) l0_2.length c0_2)) (ds := []) (upTo 0 26) (by kernel_rfl) rfl rfl ⟨hC BK103.out 0, hC BK103.out 1, hC BK103.out 2, hC BK103.out 3, hC BK101.out 0, hC BK101.out 1, hC BK101.out 2⟩ (fun hHeld => ?_); refine with_tabW impl_isChange.tab4 impl_isChange.bits4 (fun HT_ HW_ => ?_); generalize w37.drew = w38 at BK101 BK103 HB hHeld ⊢; refine pT2 0 13 (upTo 1 26) ?_ hHeld; refine oU 1 14 (upTo 2 26) HT_.out (fun K hK => ?_); refine gs Try.func34 #[.agg #[.int .i64 ((rd_T32 l0_2 x8_1).f0), .int .i64 ((rd_T32 l0_2 x8_1).f1), .string ((rd_T32 l0_2 x8_1).f2), .slice A102_3 ((rd_T32 l0_2 x8_1).f3).length c102_3]] ?_; with_reducible refine (impl_isProof.calls k1 ((rd_T32 l0_2 x8_1).f0) ((rd_T32 l0_2 x8_1).f1) ((rd_T32 l0_2 x8_1).f2) _ _ ((rd_T32 l0_2 x8_1).f3) true _ ?s1 ?s2 A7.out).mono ?_
        (case s1 => exact cY HR102_3 HB)
        (case s2 => exact HC102_3.out)
        rintro e w39 ⟨rfl, hb⟩; refine ⟨_, rfl, ?_⟩; replace BK101 := nY BK101 hb; replace BK103 := nY BK103 hb; replace HB := bY HB hb; refine hK.out _ _ ⟨hC BK103.out 0, hC BK103.out 1, hC BK103.out 2, hC BK103.out 3, hC BK101.out 0, hC BK101.out 1, hC BK101.out 2⟩ (fun hHeld => ?_); clear hK K; refine nS 14 ?_
        refine pF 2 3 26 15 ?_; refine pF 3 4 26 16 ?_; refine pF 4 5 26 17 ?_; refine pF 5 6 26 18 ?_; refine pF 6 7 26 19 ?_; refine pU 7 8 26 20 ?_; refine pU 8 9 26 21 ?_; refine pU 9 10 26 22 ?_; refine pU 10 11 26 23 ?_; refine pU 11 12 26 24 ?_; refine pU 12 13 26 25 ?_; refine pU 13 14 26 26 ?_; refine pU 14 15 26 27 ?_; refine pU 15 16 26 28 ?_; refine pU 16 17 26 29 ?_; refine pF 17 18 26 30 ?_; refine pF 18 19 26 31 ?_; refine pF 19 20 26 32 ?_; refine pF 20 21 26 33 ?_; refine pF2 22 35 impl_isChange.b6 ?_; refine pT2 21 34 (upTo 23 26) ?_ hHeld; refine pT2 23 36 (upTo 24 26) ?_ hHeld; refine pF 24 25 26 37 ?_; refine pF 25 26 26 38 ?_; refine done_ (done_of HT_.out (by kernel_rfl)) ?_; try go_wp2
        go_ret
        exact ⟨rE, bX HB.out⟩
       rw [if_neg c33] at H; have c33b0 : decide (a0_1 ≤ ((rd_T32 l0_2 x8_1).f0)) = false := dN c33; clear c33; have H' := AM H; clear H; obtain ⟨p102, q102, ad102, A102_3, c102_3, e102, hx102_0, hx102_1, hx102_2, hx102_3, hl102_3, hi102_3⟩ := pQ (at_T32 HR0_2.out x8_1); cases e102; replace hx102_0 := pB HB.out hx102_0; replace hx102_1 := pB HB.out hx102_1; replace hx102_2 := pB HB.out hx102_2; replace hx102_3 := pB HB.out hx102_3; have HR102_3 := AM hi102_3; have HC102_3 := AM hl102_3; clear hi102_3 hl102_3; try go_wp2_with (first | (refine bE (N := 4) (cs := zz1) (t := 32) ?_; intro gb103 hg w40 hbox hb; have GW103 := gY hg HB; have GE103 := GW103; have BK103 := AM (hbox); have NB101_103 := lY hg BK101; have NB103_101 := sY NB101_103; replace BK101 := nY BK101 hb; replace HB := bY HB hb; clear hb hbox hg; have hnb41 := nP NB103_101; have hcz42 := q4 BK103.out; have hfz42 := fZ BK103.out))
       generalize hW_ : ((((w40.setCell ⟨gb103, 0, none⟩ (.int .i64 ((rd_T32 l0_2 x8_1).f0))).setCell ⟨gb103, 1, none⟩ (.int .i64 ((rd_T32 l0_2 x8_1).f1))).setCell ⟨gb103, 2, none⟩ (.string ((rd_T32 l0_2 x8_1).f2))).setCell ⟨gb103, 3, none⟩ (.slice A102_3 ((rd_T32 l0_2 x8_1).f3).length c102_3)) = w43; have n0_ := kW hW_ BK101 (by intro h_; (iterate 4 refine kF NB101_103.out ?_); exact kX h_)
       have n1_ := pW4 hW_ BK103
       have n2_ := bW hW_ HB
       (try clear BK101); (try clear BK103); (try clear HB); clear hW_; have BK101 := n0_; have BK103 := n1_; have HB := n2_; clear n0_ n1_ n2_; replace BK101 := kDY BK101; replace BK103 := kDY BK103; replace HB := bDY HB; refine start_ (n := 26) (S := fun w' => w'.cell? ⟨gb103, 0, none⟩ = some (.int .i64 ((rd_T32 l0_2 x8_1).f0)) ∧ w'.cell? ⟨gb103, 1, none⟩ = some (.int .i64 ((rd_T32 l0_2 x8_1).f1)) ∧ w'.cell? ⟨gb103, 2, none⟩ = some (.string ((rd_T32 l0_2 x8_1).f2)) ∧ w'.cell? ⟨gb103, 3, none⟩ = some (.slice A102_3 ((rd_T32 l0_2 x8_1).f3).length c102_3) ∧ w'.cell? ⟨gb101, 0, none⟩ = some (.int .i64 a0_0) ∧ w'.cell? ⟨gb101, 1, none⟩ = some (.int .i64 a0_1) ∧ w'.cell? ⟨gb101, 2, none⟩ = some (.slice (some ad102) l0_2.length c0_2)) (ds := []) (upTo 0 26) (by kernel_rfl) rfl rfl ⟨hC BK103.out 0, hC BK103.out 1, hC BK103.out 2, hC BK103.out 3, hC BK101.out 0, hC BK101.out 1, hC BK101.out 2⟩ (fun hHeld => ?_); refine with_tabW impl_isChange.tab4 impl_isChange.bits4 (fun HT_ HW_ => ?_); generalize w43.drew = w44 at BK101 BK103 HB hHeld ⊢; refine pT2 0 13 (upTo 1 26) ?_ hHeld; refine oU 1 14 (upTo 2 26) HT_.out (fun K hK => ?_); refine gs Try.func34 #[.agg #[.int .i64 ((rd_T32 l0_2 x8_1).f0), .int .i64 ((rd_T32 l0_2 x8_1).f1), .string ((rd_T32 l0_2 x8_1).f2), .slice A102_3 ((rd_T32 l0_2 x8_1).f3).length c102_3]] ?_; with_reducible refine (impl_isProof.calls k1 ((rd_T32 l0_2 x8_1).f0) ((rd_T32 l0_2 x8_1).f1) ((rd_T32 l0_2 x8_1).f2) _ _ ((rd_T32 l0_2 x8_1).f3) true _ ?s1 ?s2 A7.out).mono ?_
       (case s1 => exact cY HR102_3 HB)
       (case s2 => exact HC102_3.out)
       rintro e w45 ⟨rfl, hb⟩; refine ⟨_, rfl, ?_⟩; replace BK101 := nY BK101 hb; replace BK103 := nY BK103 hb; replace HB := bY HB hb; refine hK.out _ _ ⟨hC BK103.out 0, hC BK103.out 1, hC BK103.out 2, hC BK103.out 3, hC BK101.out 0, hC BK101.out 1, hC BK101.out 2⟩ (fun hHeld => ?_); clear hK K; refine nS 14 ?_
       refine pF 2 3 26 15 ?_; refine pF 3 4 26 16 ?_; refine pF 4 5 26 17 ?_; refine pF 5 6 26 18 ?_; refine pF 6 7 26 19 ?_; refine pU 7 8 26 20 ?_; refine pU 8 9 26 21 ?_; refine pU 9 10 26 22 ?_; refine pU 10 11 26 23 ?_; refine pU 11 12 26 24 ?_; refine pU 12 13 26 25 ?_; refine pU 13 14 26 26 ?_; refine pU 14 15 26 27 ?_; refine pU 15 16 26 28 ?_; refine pU 16 17 26 29 ?_; refine pF 17 18 26 30 ?_; refine pF 18 19 26 31 ?_; refine pF 19 20 26 32 ?_; refine pF 20 21 26 33 ?_; refine pF2 22 35 impl_isChange.b6 ?_; refine pT2 21 34 (upTo 23 26) ?_ hHeld; refine pT2 23 36 (upTo 24 26) ?_ hHeld; refine pF 24 25 26 37 ?_; refine pF 25 26 26 38 ?_; refine done_ (done_of HT_.out (by kernel_rfl)) ?_; try go_wp2
       go_roundg k1
       case measure => have := HK1.out; omega
       case rel => exact ⟨(wrap64 (x8_1 + 1)), rR, H', ⟨by have := HK1.out; omega⟩, ⟨kX BK101.out⟩, ⟨bX HB.out⟩⟩
      replace c8 := oE c8; subst c8; rw [if_neg nft] at H; obtain rfl := Option.some.inj H; obtain ⟨p102, q102, ad102, A102_3, c102_3, e102, hx102_0, hx102_1, hx102_2, hx102_3, hl102_3, hi102_3⟩ := pQ (at_T32 HR0_2.out x8_1); cases e102; replace hx102_0 := pB HB.out hx102_0; replace hx102_1 := pB HB.out hx102_1; replace hx102_2 := pB HB.out hx102_2; replace hx102_3 := pB HB.out hx102_3; have HR102_3 := AM hi102_3; have HC102_3 := AM hl102_3; clear hi102_3 hl102_3; try go_wp2_with (first | (refine bE (N := 4) (cs := zz1) (t := 32) ?_; intro gb103 hg w46 hbox hb; have GW103 := gY hg HB; have GE103 := GW103; have BK103 := AM (hbox); have NB101_103 := lY hg BK101; have NB103_101 := sY NB101_103; replace BK101 := nY BK101 hb; replace HB := bY HB hb; clear hb hbox hg; have hnb47 := nP NB103_101; have hcz48 := q4 BK103.out; have hfz48 := fZ BK103.out))
      generalize hW_ : ((((w46.setCell ⟨gb103, 0, none⟩ (.int .i64 ((rd_T32 l0_2 x8_1).f0))).setCell ⟨gb103, 1, none⟩ (.int .i64 ((rd_T32 l0_2 x8_1).f1))).setCell ⟨gb103, 2, none⟩ (.string ((rd_T32 l0_2 x8_1).f2))).setCell ⟨gb103, 3, none⟩ (.slice A102_3 ((rd_T32 l0_2 x8_1).f3).length c102_3)) = w49; have n0_ := kW hW_ BK101 (by intro h_; (iterate 4 refine kF NB101_103.out ?_); exact kX h_)
      have n1_ := pW4 hW_ BK103
      have n2_ := bW hW_ HB
      (try clear BK101); (try clear BK103); (try clear HB); clear hW_; have BK101 := n0_; have BK103 := n1_; have HB := n2_; clear n0_ n1_ n2_; replace BK101 := kDY BK101; replace BK103 := kDY BK103; replace HB := bDY HB; refine start_ (n := 26) (S := fun w' => w'.cell? ⟨gb103, 0, none⟩ = some (.int .i64 ((rd_T32 l0_2 x8_1).f0)) ∧ w'.cell? ⟨gb103, 1, none⟩ = some (.int .i64 ((rd_T32 l0_2 x8_1).f1)) ∧ w'.cell? ⟨gb103, 2, none⟩ = some (.string ((rd_T32 l0_2 x8_1).f2)) ∧ w'.cell? ⟨gb103, 3, none⟩ = some (.slice A102_3 ((rd_T32 l0_2 x8_1).f3).length c102_3)) (ds := []) (upTo 0 26) (by kernel_rfl) rfl rfl (q4 BK103.out) (fun hHeld => ?_); refine with_tabW impl_isChange.tab4 impl_isChange.bits4 (fun HT_ HW_ => ?_); generalize w49.drew = w50 at BK101 BK103 HB hHeld ⊢; refine pT2 0 13 (upTo 1 26) ?_ hHeld; refine oU 1 14 (upTo 2 26) HT_.out (fun K hK => ?_); refine gs Try.func34 #[.agg #[.int .i64 ((rd_T32 l0_2 x8_1).f0), .int .i64 ((rd_T32 l0_2 x8_1).f1), .string ((rd_T32 l0_2 x8_1).f2), .slice A102_3 ((rd_T32 l0_2 x8_1).f3).length c102_3]] ?_; with_reducible refine (impl_isProof.calls k1 ((rd_T32 l0_2 x8_1).f0) ((rd_T32 l0_2 x8_1).f1) ((rd_T32 l0_2 x8_1).f2) _ _ ((rd_T32 l0_2 x8_1).f3) false _ ?s1 ?s2 A7.out).mono ?_
      (case s1 => exact cY HR102_3 HB)
      (case s2 => exact HC102_3.out)
      rintro e w51 ⟨rfl, hb⟩; refine ⟨_, rfl, ?_⟩; replace BK101 := nY BK101 hb; replace BK103 := nY BK103 hb; replace HB := bY HB hb; refine hK.out _ _ (q4 BK103.out) (fun hHeld => ?_); clear hK K; refine nS 14 ?_
      refine pF 2 3 26 15 ?_; refine pF 3 4 26 16 ?_; refine pU 4 5 26 17 ?_; refine pU 5 6 26 18 ?_; refine pU 6 7 26 19 ?_; refine pU 7 8 26 20 ?_; refine pU 8 9 26 21 ?_; refine pU 9 10 26 22 ?_; refine pU 10 11 26 23 ?_; refine pU 11 12 26 24 ?_; refine pU 12 13 26 25 ?_; refine pU 13 14 26 26 ?_; refine pU 14 15 26 27 ?_; refine pU 15 16 26 28 ?_; refine pU 16 17 26 29 ?_; refine pU 17 18 26 30 ?_; refine pF 18 19 26 31 ?_; refine pF 19 20 26 32 ?_; refine pU 20 21 26 33 ?_; refine pU 21 22 26 34 ?_; refine pU 22 23 26 35 ?_; refine pU 23 24 26 36 ?_; refine pU 24 25 26 37 ?_; refine pF 25 26 26 38 ?_; refine done_ (done_of HT_.out (by kernel_rfl)) ?_; try go_wp2
      go_ret
      exact ⟨rE, bX HB.out⟩
     rw [if_neg c6] at H; exact absurd H (by simp)
    rw [if_neg c5] at H; exact absurd H (by simp)
   rw [if_neg c4] at H; have c4b0 := dN c4; clear c4; replace H := oM H; obtain ⟨t106, A520, H⟩ := H; have A52 := AM A520; clear A520; by_cases c53 : t106 = true
   ·
    subst c53; rw [if_pos rfl] at H; replace H := oM H; obtain ⟨t107, A540, H⟩ := H; have A54 := AM A540; clear A540; obtain rfl := Option.some.inj H; have hcz55 := q3 BK101.out; have hfz55 := fZ BK101.out; go_wp2_with (first | ((with_reducible refine gate_callee (f := 23) rfl ?_); refine gL (some 42) Try.func23 #[.int .i64 a0_0] ?_; (with_reducible refine (impl_isReplica.calls _ _ _ A52.out).mono ?_); rintro e w' ⟨rfl, ⟨nd, rfl⟩⟩; refine ⟨_, rfl, ?_⟩) | (go_at_call 24; (with_reducible refine (impl_isView.calls _ _ _ _ A54.out).mono ?_); rintro e w' ⟨rfl, ⟨nd, rfl⟩⟩))
    go_ret
    exact ⟨rE, bX HB.out⟩
   replace c53 := oE c53; subst c53; rw [if_neg nft] at H; obtain rfl := Option.some.inj H; have hcz56 := q3 BK101.out; have hfz56 := fZ BK101.out; go_wp2_with (first | ((with_reducible refine gate_callee (f := 23) rfl ?_); refine gL (some 42) Try.func23 #[.int .i64 a0_0] ?_; (with_reducible refine (impl_isReplica.calls _ _ _ A52.out).mono ?_); rintro e w' ⟨rfl, ⟨nd, rfl⟩⟩; refine ⟨_, rfl, ?_⟩))
   go_ret
   exact ⟨rE, bX HB.out⟩

/-! ### impl_wanted: function 19 (by hand) -/
/-! The best proofs of each number: an array of seven proofs, of which the row of voters is never read. -/
abbrev WRow := Int × Int × ByteArray
def w_z : WRow := (0, 0, ⟨#[]⟩)
def w_step (L : List WRow) (p : S32) : List WRow := if (L.getD p.f1.toNat w_z).2.1 = 0 ∨ (L.getD p.f1.toNat w_z).1 < p.f0 then L.set p.f1.toNat (p.f0, p.f1, p.f2) else L
def w_fold : List S32 → List WRow → Int → Option (List WRow × Int)
  | [], L, m => some (L, m)
  | p :: ps, L, m => if 0 ≤ p.f1 ∧ p.f1 < 7 then w_fold ps (w_step L p) (max m p.f1) else none
def w_all : List S29 → List WRow → Int → Option (List WRow × Int)
  | [], L, m => some (L, m)
  | c :: cs, L, m => if c.f2.length ≤ 1000 then (w_fold c.f2 L m).bind fun q => w_all cs q.1 q.2 else none
def w_out (L : List WRow) (n : Nat) : List S34 := (List.range n).map fun (i : Nat) => ⟨(i : Int) + 1, (L.getD (i + 1) w_z).2.2⟩
def impl_wanted.f (l : List S29) : Option (List S34) := if l.length ≤ 1000 then (w_all l (List.replicate 7 w_z) 0).bind fun q => some (w_out q.1 q.2.toNat) else none
abbrev w_cells : List WRow → List Value → List Value
  | r :: L, v :: V => .int .i64 r.1 :: .int .i64 r.2.1 :: .string r.2.2 :: v :: w_cells L V
  | _, _ => []
def WA (w : World) (g : Nat) (L : List WRow) : Prop := ∃ V : List Value, V.length = L.length ∧ w.heap[g]? = some (.cells (w_cells L V).toArray 61 (0, 0))
theorem w_get : ∀ (L : List WRow) (V : List Value), V.length = L.length → ∀ i, i < L.length →
    (w_cells L V)[i * 4]? = some (.int .i64 (L.getD i w_z).1) ∧ (w_cells L V)[i * 4 + 1]? = some (.int .i64 (L.getD i w_z).2.1) ∧ (w_cells L V)[i * 4 + 2]? = some (.string (L.getD i w_z).2.2) ∧ ∃ v, (w_cells L V)[i * 4 + 3]? = some v
  | [], _, _, i, hi => absurd hi (by simp)
  | r :: L, [], h, _, _ => absurd h (by simp)
  | r :: L, v :: V, h, 0, _ => ⟨rfl, rfl, rfl, v, rfl⟩
  | r :: L, v :: V, h, i + 1, hi => by
    obtain ⟨h1, h2, h3, v3, h4⟩ := w_get L V (by simpa using h) i (by simpa using hi); have e : (i + 1) * 4 = i * 4 + 4 := by omega
    rw [e]; exact ⟨h1, h2, h3, v3, h4⟩
theorem w_set : ∀ (L : List WRow) (V : List Value), V.length = L.length → ∀ i, i < L.length → ∀ (r : WRow) (v : Value),
    ((((w_cells L V).set (i * 4) (.int .i64 r.1)).set (i * 4 + 1) (.int .i64 r.2.1)).set (i * 4 + 2) (.string r.2.2)).set (i * 4 + 3) v = w_cells (L.set i r) (V.set i v)
  | [], _, _, i, hi, _, _ => absurd hi (by simp)
  | r :: L, [], h, _, _, _, _ => absurd h (by simp)
  | r :: L, v :: V, h, 0, _, _, _ => rfl
  | r :: L, v :: V, h, i + 1, hi, r', v' => by
    have e : (i + 1) * 4 = i * 4 + 1 + 1 + 1 + 1 := by omega
    have h1 := w_set L V (by simpa using h) i (by simpa using hi) r' v'; rw [e]; simp only [w_cells, List.set_cons_succ]
    rw [h1]
theorem WA_get {w : World} {g : Nat} {L : List WRow} (h : WA w g L) (i : Nat) (hi : i < L.length) :
    (w.cell? ⟨g, i * 4, none⟩ = some (.int .i64 (L.getD i w_z).1) ∧ w.cell? ⟨g, i * 4 + 1, none⟩ = some (.int .i64 (L.getD i w_z).2.1) ∧ w.cell? ⟨g, i * 4 + 2, none⟩ = some (.string (L.getD i w_z).2.2) ∧ ∃ v, w.cell? ⟨g, i * 4 + 3, none⟩ = some v) ∧ ∀ j, w.frozen? ⟨g, j, none⟩ = false := by
  obtain ⟨V, hV, hh⟩ := h; obtain ⟨h1, h2, h3, v3, h4⟩ := w_get L V hV i hi; exact ⟨⟨(blk_cell hh _).trans (by simpa using h1), (blk_cell hh _).trans (by simpa using h2), (blk_cell hh _).trans (by simpa using h3), v3, (blk_cell hh _).trans (by simpa using h4)⟩, fun j => blk_frozen hh j⟩
theorem WA_set {w : World} {g : Nat} {L : List WRow} (h : WA w g L) (i : Nat) (hi : i < L.length) (a b : Int) (c : ByteArray) (v : Value) :
    WA ((((w.setCell ⟨g, i * 4, none⟩ (.int .i64 a)).setCell ⟨g, i * 4 + 1, none⟩ (.int .i64 b)).setCell ⟨g, i * 4 + 2, none⟩ (.string c)).setCell ⟨g, i * 4 + 3, none⟩ v) g (L.set i (a, b, c)) := by
  obtain ⟨V, hV, hh⟩ := h; refine ⟨V.set i v, by simp [hV], ?_⟩; have := w_set L V hV i hi (a, b, c) v; rw [← this]; refine blk_put (cs := (((((w_cells L V).set (i * 4) (.int .i64 a)).set (i * 4 + 1) (.int .i64 b)).set (i * 4 + 2) (.string c))).toArray) ?_ (i * 4 + 3) _ (by simp); refine blk_put (cs := ((((w_cells L V).set (i * 4) (.int .i64 a)).set (i * 4 + 1) (.int .i64 b))).toArray) ?_ (i * 4 + 2) _ (by simp); refine blk_put (cs := (((w_cells L V).set (i * 4) (.int .i64 a))).toArray) ?_ (i * 4 + 1) _ (by simp); exact blk_put hh (i * 4) _ (by simp)
theorem WA_move {w w1 : World} {g : Nat} {L : List WRow} (h : WA w g L) (e : w1.heap[g]? = w.heap[g]?) : WA w1 g L := by
  obtain ⟨V, hV, hh⟩ := h; exact ⟨V, hV, e.trans hh⟩
theorem WA_below {w w1 : World} {g : Nat} {L : List WRow} (h : WA w g L) (hb : Below w.heap.size w w1) : WA w1 g L := by
  obtain ⟨V, hV, hh⟩ := h; exact ⟨V, hV, blk_below hh hb⟩
theorem WA_far {w : World} {g : Nat} {L : List WRow} (h : WA w g L) {p : Addr} (hp : g ≠ p.block) (u : Value) : WA (w.setCell p u) g L := by
  obtain ⟨V, hV, hh⟩ := h; exact ⟨V, hV, blk_far hh hp u⟩
theorem w_step_len (L : List WRow) (p : S32) : (w_step L p).length = L.length := by
  unfold w_step
  split
  · rw [List.length_set]
  · rfl
theorem w_step_pos {L : List WRow} {p : S32} (h : (L.getD p.f1.toNat w_z).2.1 = 0 ∨ (L.getD p.f1.toNat w_z).1 < p.f0) : w_step L p = L.set p.f1.toNat (p.f0, p.f1, p.f2) := if_pos h
theorem w_step_neg {L : List WRow} {p : S32} (h : ¬ ((L.getD p.f1.toNat w_z).2.1 = 0 ∨ (L.getD p.f1.toNat w_z).1 < p.f0)) : w_step L p = L := if_neg h
theorem WA_drew {w : World} {g : Nat} {L : List WRow} (h : WA w g L) : WA w.drew g L := WA_below h (below_drew (Below.refl _ _))
set_option maxHeartbeats 8000000 in
set_option maxRecDepth 100000 in
theorem impl_wanted.calls (A0 : Option Addr) (c0 : Nat) (l0 : List S29) (r : List S34) (w : World) (hr0 : Kd.C k29 w A0 l0.length l0) (hc0 : l0.length ≤ c0) (h : impl_wanted.f l0 = some r) :
    Calls Try.prog 19 #[.slice A0 l0.length c0] w fun e w' => ∃ v0_ : Value, e = .returned (v0_) ∧ Kd.R k34 34 w' w.heap.size (fun _ => True) v0_ r ∧ Below w.heap.size w w' := by
  have hu1 := Try.underlying29; have hu2 := Try.underlying32; have hu3 := Try.underlying61; have hu4 := Try.underlying34; have HR0 := Aside0.mk hr0; have HB := Aside0.mk (Below.refl w.heap.size w); unfold impl_wanted.f at h; by_cases hn : l0.length ≤ 1000
  rotate_left
  · rw [if_neg hn] at h; cases h
  rw [if_pos hn] at h; obtain ⟨⟨Lf, mf⟩, h1, h2⟩ := oM h; have HN := Aside0.mk hn; have HW := Aside0.mk h1; have HO := Aside0.mk (Option.some.inj h2); clear hr0 hc0 h h1 h2 hn; go_enter Try.func19, Try.ntmps19
  go_wp2_with (first | ((with_reducible refine gate_dst (N := 3) rfl ?_); refine box_event (by rfl) (N := 3) (by rfl) (cs := (w_cells (List.replicate 7 w_z) (List.replicate 7 (.slice none 0 0))).toArray) (t := 61) (by first | (go_simp; done) | (go_simp; rfl)) ?_; intro g hg w1 hbox hb1; have GE := Aside0.mk ((by rw [hg]; exact HB.out.size) : w.heap.size ≤ g); have HB1 := Aside0.mk (below_step HB.out hb1); have BK := Aside0.mk (⟨List.replicate 7 (.slice none 0 0), rfl, hbox⟩ : WA w1 g (List.replicate 7 w_z)); clear hbox hg hb1 HB))
  go_loopg [4, 13] (l0.length + 1) (fun kq v4 v13 w' => ∃ (i : Nat) (L : List WRow) (m : Int), v4 = .int .i64 m ∧ v13 = .int .i64 (i : Int) ∧ Aside0 (kq + i = l0.length + 1) ∧ Aside0 (i ≤ l0.length) ∧ Aside0 (L.length = 7) ∧ Aside0 (0 ≤ m ∧ m < 7) ∧ Aside0 (w_all (l0.drop i) L m = some (Lf, mf)) ∧ Aside0 (WA w' g L) ∧ Aside0 (Below w.heap.size w w'))
  case atStart => exact ⟨0, _, 0, rfl, rfl, ⟨rfl⟩, ⟨by omega⟩, ⟨rfl⟩, ⟨by decide⟩, HW, BK, HB1⟩
  case round =>
    clear HW BK HB1; obtain ⟨i, L, m, rfl, rfl, HK, HI, HL, HM, HW, BK, HB⟩ := hrel
    cases gk with
    | zero => exact absurd HK.out (by have := HI.out; omega)
    | succ k1 =>
    by_cases hlt : i < l0.length
    · have c1 : decide ((i : Int) < (l0.length : Int)) = true := dY (by omega)
      have c1n := dY hlt; have p0 : (0 : Int) ≤ (i : Int) := by omega
      have p1 : (i : Int) < (l0.length : Int) := by omega
      obtain ⟨ad, A2, c2, e, hx0, hx1, hx2, hl2, hi2⟩ := at_T29 HR0.out (i : Int) p0 p1
      cases e
      replace hx0 := pB HB.out hx0; replace hx1 := pB HB.out hx1; replace hx2 := pB HB.out hx2; simp only [Int.toNat_natCast] at hx0 hx1 hx2
      obtain ⟨P, hP⟩ : ∃ P, P = (rd_T29 l0 (i : Int)).f2 := ⟨_, rfl⟩; obtain ⟨q, EP, E1, E2⟩ : ∃ q, P.length ≤ 1000 ∧ w_fold P L m = some q ∧ w_all (l0.drop (i + 1)) q.1 q.2 = some (Lf, mf) := by
        have := HW.out; rw [List.drop_eq_getElem_cons hlt] at this; simp only [w_all] at this
        have hP2 : P = l0[i].f2 := by
          rw [hP]; unfold rd_T29; rw [Int.toNat_natCast, List.getD_eq_getElem?_getD, List.getElem?_eq_getElem hlt]
          rfl
        rw [← hP2] at this; by_cases hz : P.length ≤ 1000
        · rw [if_pos hz] at this
          obtain ⟨q, e1, e2⟩ := oM this; exact ⟨q, hz, e1, e2⟩
        · rw [if_neg hz] at this; cases this
      obtain ⟨L9, m9⟩ := q; rw [← hP] at hx2 hl2 hi2; have HR2 := Aside0.mk hi2; have HPL := Aside0.mk EP; have F1 := Aside0.mk E1; have F2 := Aside0.mk E2; have HLT := Aside0.mk hlt; clear hi2 hP E1 E2 EP HW hl2 hlt; go_wp2_with (first | (refine bE (N := 6) (cs := zz2) (t := 29) ?_; intro g6 hg w6 hbox hb; have NB := Aside0.mk ((by rw [hg]; obtain ⟨V, _, hV⟩ := BK.out; exact Nat.ne_of_lt (blk_lt hV)) : g ≠ g6); have BK1 := Aside0.mk (WA_below BK.out hb); have GE6 := Aside0.mk ((by rw [hg]; exact HB.out.size) : w.heap.size ≤ g6); have HB1 := Aside0.mk (below_step HB.out hb); have B6 := Aside0.mk hbox; have hf6_0 := blk_frozen hbox 0; have hf6_1 := blk_frozen hbox 1; have hf6_2 := blk_frozen hbox 2; have hc6_0 := (blk_cell hbox 0).trans rfl; have hc6_1 := (blk_cell hbox 1).trans rfl; have hc6_2 := (blk_cell hbox 2).trans rfl;  clear hbox hg hb HB BK))
      have BK2 := Aside0.mk (WA_far (p := ⟨g6, 2, none⟩) (WA_far (p := ⟨g6, 1, none⟩) (WA_far (p := ⟨g6, 0, none⟩) BK1.out NB.out (.int .i64 (rd_T29 l0 (i : Int)).f0)) NB.out (.int .i64 (rd_T29 l0 (i : Int)).f1)) NB.out (.slice A2 P.length c2)); clear BK1 hx0 hx1 hx2 hf6_0 hf6_1 hf6_2 hc6_0 hc6_1 hc6_2 B6 NB; go_loopg [4, 20] (P.length + 1) (fun kq v4 v20 w' => ∃ (j : Nat) (L : List WRow) (m : Int), v4 = .int .i64 m ∧ v20 = .int .i64 (j : Int) ∧ Aside0 (kq + j = P.length + 1) ∧ Aside0 (j ≤ P.length) ∧ Aside0 (L.length = 7) ∧ Aside0 (0 ≤ m ∧ m < 7) ∧ Aside0 (w_fold (P.drop j) L m = some (L9, m9)) ∧ Aside0 (WA w' g L) ∧ Aside0 (Below w.heap.size w w'))
      case atStart => exact ⟨0, L, m, rfl, rfl, ⟨rfl⟩, ⟨by omega⟩, HL, HM, F1, BK2, ⟨below_set (below_set (below_set HB1.out GE6.out) GE6.out) GE6.out⟩⟩
      case round =>
        clear HL HM F1 BK2 HB1 L m; obtain ⟨j, L, m, rfl, rfl, HKj, HJ, HL, HM, HW, BK, HB⟩ := hrel
        cases gk with
        | zero => exact absurd HKj.out (by have := HJ.out; omega)
        | succ k2 =>
        by_cases hlt : j < P.length
        · have c2 : decide ((j : Int) < (P.length : Int)) = true := dY (by omega)
          have c2n := dY hlt; have p2 : (0 : Int) ≤ (j : Int) := by omega
          have p3 : (j : Int) < (P.length : Int) := by omega
          obtain ⟨bd, A3, c3, e, hy0, hy1, hy2, hy3, hl3, hi3⟩ := at_T32 HR2.out (j : Int) p2 p3
          cases e
          replace hy0 := pB HB.out hy0; replace hy1 := pB HB.out hy1; replace hy2 := pB HB.out hy2; replace hy3 := pB HB.out hy3; simp only [Int.toNat_natCast] at hy0 hy1 hy2 hy3
          obtain ⟨p, hp⟩ : ∃ p, p = rd_T32 P (j : Int) := ⟨_, rfl⟩; obtain ⟨n3, hn3⟩ : ∃ n, n = p.f3.length := ⟨_, rfl⟩; have E1 : w_fold (p :: P.drop (j + 1)) L m = some (L9, m9) := by
            have := HW.out; rw [List.drop_eq_getElem_cons hlt] at this; rw [hp]; unfold rd_T32; rw [Int.toNat_natCast, List.getD_eq_getElem?_getD, List.getElem?_eq_getElem hlt]; exact this
          rw [← hp] at hy0 hy1 hy2 hy3; rw [← hn3] at hy3; obtain ⟨s, hs7, hsf, E2⟩ : ∃ s : Nat, s < 7 ∧ p.f1 = (s : Int) ∧ w_fold (P.drop (j + 1)) (w_step L p) (max m p.f1) = some (L9, m9) := by
            simp only [w_fold] at E1
            by_cases hc : 0 ≤ p.f1 ∧ p.f1 < 7
            · rw [if_pos hc] at E1
              exact ⟨p.f1.toNat, by omega, by omega, E1⟩
            · rw [if_neg hc] at E1; cases E1
          obtain ⟨p0, p1, p2', p3'⟩ := p; simp only at hsf hy0 hy1 hy2 E2
          subst hsf; have F3 := Aside0.mk E2; have HLT := Aside0.mk hlt; have HM2 := Aside0.mk (by have := HM.out; omega : 0 ≤ max m (s : Int) ∧ max m (s : Int) < 7); have HS := Aside0.mk hs7; have d0 : decide (0 ≤ (s : Int)) = true := dY (by omega); have d1 : decide ((s : Int) < 7) = true := dY (by omega); have d2 : decide (s < 7) = true := dY hs7; have d3 : (s : Int) < 7 := by omega
          clear hlt hp hn3 E1 E2 hl3 hi3 HW; go_wp2_with (first | (refine bE (N := 8) (cs := zz1) (t := 32) ?_; intro g8 hg w8 hbox hb; have NB := Aside0.mk ((by rw [hg]; obtain ⟨V, _, hV⟩ := BK.out; exact Nat.ne_of_lt (blk_lt hV)) : g ≠ g8); have BK1 := Aside0.mk (WA_below BK.out hb); have GE8 := Aside0.mk ((by rw [hg]; exact HB.out.size) : w.heap.size ≤ g8); have HB1 := Aside0.mk (below_step HB.out hb); have B8 := Aside0.mk hbox; have hf8_0 := blk_frozen hbox 0; have hf8_1 := blk_frozen hbox 1; have hf8_2 := blk_frozen hbox 2; have hf8_3 := blk_frozen hbox 3; have hc8_0 := (blk_cell hbox 0).trans rfl; have hc8_1 := (blk_cell hbox 1).trans rfl; have hc8_2 := (blk_cell hbox 2).trans rfl; have hc8_3 := (blk_cell hbox 3).trans rfl; clear hbox hg hb HB BK))
          all_goals
            have HB2 := Aside0.mk (below_set (j := 3) (v := .slice A3 n3 c3) (below_set (j := 2) (v := .string p2') (below_set (j := 1) (v := .int .i64 (s : Int)) (below_set (j := 0) (v := .int .i64 p0) HB1.out GE8.out) GE8.out) GE8.out) GE8.out); have BK2 := Aside0.mk (WA_far (p := ⟨g8, 3, none⟩) (WA_far (p := ⟨g8, 2, none⟩) (WA_far (p := ⟨g8, 1, none⟩) (WA_far (p := ⟨g8, 0, none⟩) BK1.out NB.out (.int .i64 p0)) NB.out (.int .i64 (s : Int))) NB.out (.string p2')) NB.out (.slice A3 n3 c3)); have BK8 := Aside0.mk (blk_put (cs' := #[.int .i64 p0, .int .i64 (s : Int), .string p2', .slice A3 n3 c3]) (blk_put (cs' := #[.int .i64 p0, .int .i64 (s : Int), .string p2', .slice none 0 0]) (blk_put (cs' := #[.int .i64 p0, .int .i64 (s : Int), .string (⟨#[]⟩ : ByteArray), .slice none 0 0]) (blk_put (cs' := #[.int .i64 p0, .int .i64 0, .string (⟨#[]⟩ : ByteArray), .slice none 0 0]) B8.out 0 (.int .i64 p0) rfl) 1 (.int .i64 (s : Int)) rfl) 2 (.string p2') rfl) 3 (.slice A3 n3 c3) rfl); clear hf8_0 hf8_1 hf8_2 hf8_3 hc8_0 hc8_1 hc8_2 hc8_3 hy0 hy1 hy2 hy3 BK1 HB1 B8; obtain ⟨W2, hW2⟩ : ∃ W2, W2 = ((((w8.setCell ⟨g8, 0, none⟩ (.int .i64 p0)).setCell ⟨g8, 1, none⟩ (.int .i64 (s : Int))).setCell ⟨g8, 2, none⟩ (.string p2')).setCell ⟨g8, 3, none⟩ (.slice A3 n3 c3)) := ⟨_, rfl⟩; rw [← hW2] at HB2 BK2 BK8 ⊢; clear hW2; obtain ⟨⟨hA0, hA1, hA2, v3, hA3⟩, hAf⟩ := WA_get BK2.out s (by have := HL.out; omega); have q0 := (blk_cell BK8.out 0).trans rfl; have q1 := (blk_cell BK8.out 1).trans rfl; have q2 := (blk_cell BK8.out 2).trans rfl; have q3 := (blk_cell BK8.out 3).trans rfl; have z0 := hAf (s * 4); have z1 := hAf (s * 4 + 1); have z2 := hAf (s * 4 + 2); have z3 := hAf (s * 4 + 3); obtain ⟨⟨a0, a1, a2⟩, ha⟩ : ∃ a, a = L.getD s w_z := ⟨_, rfl⟩; rw [← ha] at hA0 hA1 hA2; have HA := Aside0.mk ha; clear hAf ha; simp only [] at hA0 hA1 hA2
          · by_cases e1 : a1 = 0
            · have e1b : (a1 == (0 : Int)) = true := beq_iff_eq.2 e1
              have hst := Aside0.mk (show w_step L (⟨p0, (s : Int), p2', p3'⟩ : S32) = L.set s (p0, (s : Int), p2') from w_step_pos (by show (L.getD s w_z).2.1 = 0 ∨ (L.getD s w_z).1 < p0; rw [← HA.out]; exact .inl e1)); clear e1; go_region
              all_goals go_wp2
              go_roundg k2
              case measure => omega
              case rel => exact ⟨j + 1, w_step L (⟨p0, (s : Int), p2', p3'⟩ : S32), (s : Int), rfl, by rw [show wrap64 ((j : Int) + 1) = ((j + 1 : Nat) : Int) by have := HJ.out; have := HPL.out; unfold wrap64; omega], ⟨by have := HKj.out; omega⟩, ⟨by have := HLT.out; omega⟩, ⟨by rw [w_step_len]; exact HL.out⟩, ⟨by have := HM2.out; have := h; omega⟩, ⟨by have := F3.out; rwa [Int.max_eq_right (by omega)] at this⟩, ⟨by rw [hst.out]; exact WA_drew (WA_set BK2.out s (by have := HL.out; have := HS.out; omega) p0 (s : Int) p2' (.slice A3 n3 c3))⟩, ⟨below_drew (below_set (below_set (below_set (below_set HB2.out GE.out) GE.out) GE.out) GE.out)⟩⟩
            · by_cases e2 : a0 < p0
              · have e1b : (a1 == (0 : Int)) = false := beq_eq_false_iff_ne.2 e1
                have e2b : decide (a0 < p0) = true := dY e2; have hst := Aside0.mk (show w_step L (⟨p0, (s : Int), p2', p3'⟩ : S32) = L.set s (p0, (s : Int), p2') from w_step_pos (by show (L.getD s w_z).2.1 = 0 ∨ (L.getD s w_z).1 < p0; rw [← HA.out]; exact .inr e2)); clear e1 e2; go_region
                all_goals go_wp2
                go_roundg k2
                case measure => omega
                case rel => exact ⟨j + 1, w_step L (⟨p0, (s : Int), p2', p3'⟩ : S32), (s : Int), rfl, by rw [show wrap64 ((j : Int) + 1) = ((j + 1 : Nat) : Int) by have := HJ.out; have := HPL.out; unfold wrap64; omega], ⟨by have := HKj.out; omega⟩, ⟨by have := HLT.out; omega⟩, ⟨by rw [w_step_len]; exact HL.out⟩, ⟨by have := HM2.out; have := h; omega⟩, ⟨by have := F3.out; rwa [Int.max_eq_right (by omega)] at this⟩, ⟨by rw [hst.out]; exact WA_drew (WA_set BK2.out s (by have := HL.out; have := HS.out; omega) p0 (s : Int) p2' (.slice A3 n3 c3))⟩, ⟨below_drew (below_set (below_set (below_set (below_set HB2.out GE.out) GE.out) GE.out) GE.out)⟩⟩
              · have e1b : (a1 == (0 : Int)) = false := beq_eq_false_iff_ne.2 e1
                have e2b : decide (a0 < p0) = false := dN e2; have hst := Aside0.mk (show w_step L (⟨p0, (s : Int), p2', p3'⟩ : S32) = L from w_step_neg (by show ¬ ((L.getD s w_z).2.1 = 0 ∨ (L.getD s w_z).1 < p0); rw [← HA.out]; exact fun h_ => h_.elim e1 e2)); clear e1 e2; go_region
                all_goals go_wp2
                go_roundg k2
                case measure => omega
                case rel => exact ⟨j + 1, w_step L (⟨p0, (s : Int), p2', p3'⟩ : S32), (s : Int), rfl, by rw [show wrap64 ((j : Int) + 1) = ((j + 1 : Nat) : Int) by have := HJ.out; have := HPL.out; unfold wrap64; omega], ⟨by have := HKj.out; omega⟩, ⟨by have := HLT.out; omega⟩, ⟨by rw [w_step_len]; exact HL.out⟩, ⟨by have := HM2.out; have := h; omega⟩, ⟨by have := F3.out; rwa [Int.max_eq_right (by omega)] at this⟩, ⟨by rw [hst.out]; exact WA_drew BK2.out⟩, ⟨below_drew HB2.out⟩⟩
          · by_cases e1 : a1 = 0
            · have e1b : (a1 == (0 : Int)) = true := beq_iff_eq.2 e1
              have hst := Aside0.mk (show w_step L (⟨p0, (s : Int), p2', p3'⟩ : S32) = L.set s (p0, (s : Int), p2') from w_step_pos (by show (L.getD s w_z).2.1 = 0 ∨ (L.getD s w_z).1 < p0; rw [← HA.out]; exact .inl e1)); clear e1; go_region
              all_goals go_wp2
              go_roundg k2
              case measure => omega
              case rel => exact ⟨j + 1, w_step L (⟨p0, (s : Int), p2', p3'⟩ : S32), m, rfl, by rw [show wrap64 ((j : Int) + 1) = ((j + 1 : Nat) : Int) by have := HJ.out; have := HPL.out; unfold wrap64; omega], ⟨by have := HKj.out; omega⟩, ⟨by have := HLT.out; omega⟩, ⟨by rw [w_step_len]; exact HL.out⟩, ⟨by have := HM2.out; have := h; omega⟩, ⟨by have := F3.out; rwa [Int.max_eq_left (by omega)] at this⟩, ⟨by rw [hst.out]; exact WA_drew (WA_set BK2.out s (by have := HL.out; have := HS.out; omega) p0 (s : Int) p2' (.slice A3 n3 c3))⟩, ⟨below_drew (below_set (below_set (below_set (below_set HB2.out GE.out) GE.out) GE.out) GE.out)⟩⟩
            · by_cases e2 : a0 < p0
              · have e1b : (a1 == (0 : Int)) = false := beq_eq_false_iff_ne.2 e1
                have e2b : decide (a0 < p0) = true := dY e2; have hst := Aside0.mk (show w_step L (⟨p0, (s : Int), p2', p3'⟩ : S32) = L.set s (p0, (s : Int), p2') from w_step_pos (by show (L.getD s w_z).2.1 = 0 ∨ (L.getD s w_z).1 < p0; rw [← HA.out]; exact .inr e2)); clear e1 e2; go_region
                all_goals go_wp2
                go_roundg k2
                case measure => omega
                case rel => exact ⟨j + 1, w_step L (⟨p0, (s : Int), p2', p3'⟩ : S32), m, rfl, by rw [show wrap64 ((j : Int) + 1) = ((j + 1 : Nat) : Int) by have := HJ.out; have := HPL.out; unfold wrap64; omega], ⟨by have := HKj.out; omega⟩, ⟨by have := HLT.out; omega⟩, ⟨by rw [w_step_len]; exact HL.out⟩, ⟨by have := HM2.out; have := h; omega⟩, ⟨by have := F3.out; rwa [Int.max_eq_left (by omega)] at this⟩, ⟨by rw [hst.out]; exact WA_drew (WA_set BK2.out s (by have := HL.out; have := HS.out; omega) p0 (s : Int) p2' (.slice A3 n3 c3))⟩, ⟨below_drew (below_set (below_set (below_set (below_set HB2.out GE.out) GE.out) GE.out) GE.out)⟩⟩
              · have e1b : (a1 == (0 : Int)) = false := beq_eq_false_iff_ne.2 e1
                have e2b : decide (a0 < p0) = false := dN e2; have hst := Aside0.mk (show w_step L (⟨p0, (s : Int), p2', p3'⟩ : S32) = L from w_step_neg (by show ¬ ((L.getD s w_z).2.1 = 0 ∨ (L.getD s w_z).1 < p0); rw [← HA.out]; exact fun h_ => h_.elim e1 e2)); clear e1 e2; go_region
                all_goals go_wp2
                go_roundg k2
                case measure => omega
                case rel => exact ⟨j + 1, w_step L (⟨p0, (s : Int), p2', p3'⟩ : S32), m, rfl, by rw [show wrap64 ((j : Int) + 1) = ((j + 1 : Nat) : Int) by have := HJ.out; have := HPL.out; unfold wrap64; omega], ⟨by have := HKj.out; omega⟩, ⟨by have := HLT.out; omega⟩, ⟨by rw [w_step_len]; exact HL.out⟩, ⟨by have := HM2.out; have := h; omega⟩, ⟨by have := F3.out; rwa [Int.max_eq_left (by omega)] at this⟩, ⟨by rw [hst.out]; exact WA_drew BK2.out⟩, ⟨below_drew HB2.out⟩⟩
        · have c2 : decide ((j : Int) < (P.length : Int)) = false := dN (by omega)
          have c2n := dN hlt; obtain ⟨rfl, rfl⟩ : L = L9 ∧ m = m9 := by
            have := HW.out; rw [List.drop_eq_nil_of_le (by omega)] at this
            simpa [w_fold] using this
          clear hlt HW; go_wp2
          go_roundg k1
          case measure => omega
          case rel => exact ⟨i + 1, L, m, rfl, by rw [show wrap64 ((i : Int) + 1) = ((i + 1 : Nat) : Int) by have := HI.out; have := HN.out; unfold wrap64; omega], ⟨by have := HK.out; omega⟩, ⟨by have := HLT.out; omega⟩, HL, HM, F2, BK, HB⟩
    · have c1 : decide ((i : Int) < (l0.length : Int)) = false := dN (by omega)
      have c1n : decide (i < l0.length) = false := dN hlt; obtain ⟨rfl, rfl⟩ : L = Lf ∧ m = mf := by
        have := HW.out; rw [List.drop_eq_nil_of_le (by omega)] at this
        simpa [w_all] using this
      obtain ⟨n, hn⟩ : ∃ n : Nat, m = (n : Int) := ⟨m.toNat, by have := HM.out; omega⟩; subst hn; have HO2 := Aside0.mk (show w_out L n = r from by have := HO.out; rwa [Int.toNat_natCast] at this); have HM2 := Aside0.mk (show n < 7 from by have := HM.out; omega); clear hlt HW HK HI HO HM; go_wp2
      go_loopg [9, 10] (n + 1) (fun kq v9 v10 w' => ∃ (i : Nat), v10 = .int .i64 ((i : Int) + 1) ∧ Aside0 (kq + i = n + 1) ∧ Aside0 (i ≤ n) ∧ Aside0 (Kd.R k34 34 w' w.heap.size (fun k_ => (w.heap.size ≤ k_)) v9 (w_out L i)) ∧ Aside0 (WA w' g L) ∧ Aside0 (Below w.heap.size w w'))
      case atStart => exact ⟨0, rfl, ⟨rfl⟩, ⟨by omega⟩, ⟨Kd.R_nil _ _ _ _ _⟩, BK, HB⟩
      case round =>
        clear BK HB; obtain ⟨i, rfl, HK, HI, HO, BK, HB⟩ := hrel
        cases gk with
        | zero => exact absurd HK.out (by have := HI.out; omega)
        | succ k1 =>
        by_cases hlt : i < n
        · have c2 : decide ((i : Int) + 1 ≤ (n : Int)) = true := dY (by omega)
          have hi7 : i + 1 < 7 := by have := HM2.out; omega
          have d0 : decide (0 ≤ (i : Int) + 1) = true := dY (by omega); have d1 : decide ((i : Int) + 1 < 7) = true := dY (by omega); have d2 : ((i : Int) + 1).toNat = i + 1 := by omega
          have d3 : (0 : Int) ≤ (i : Int) + 1 := by omega
          have d4 : (i : Int) + 1 < 7 := by omega
          obtain ⟨⟨_, _, hA2, _⟩, hAf⟩ := WA_get BK.out (i + 1) (by have := HL.out; omega); have hA2' : wr.cell? ⟨g, (i + 1) * 4 + 2, none⟩ = some (.string (L.getD (i + 1) w_z).2.2) := hA2; obtain ⟨b, hb0⟩ : ∃ b, b = (L.getD (i + 1) w_z).2.2 := ⟨_, rfl⟩; rw [← hb0] at hA2'; have HS := Aside0.mk (show w_out L (i + 1) = w_out L i ++ [(⟨(i : Int) + 1, b⟩ : S34)] by unfold w_out; rw [List.range_succ, List.map_append, hb0]; rfl); have HLEN := Aside0.mk (show (w_out L i).length ≤ 1000 by unfold w_out; rw [List.length_map, List.length_range]; omega); have HLT := Aside0.mk hlt; clear hA2 hAf hb0 hlt hi7; go_wp2_with (first | ((with_reducible refine gate_builtin (b := .append) (xs := #[.tmp 55, .tmp 62]) rfl ?_); at_builtin; refine Kd.R_append k34 (w0 := w) w.heap.size rfl (.tmp 55) (.tmp 62) 25 34 (.agg #[(.int .i64 0), (.string ⟨#[]⟩)]) 24 rfl Try.underlying25 info34 rfl (by decide) (by omega) u9 (w_out L i) (⟨(i : Int) + 1, b⟩ : S34) [.int .i64 ((i : Int) + 1), .string b] (fun k_ => (w.heap.size ≤ k_)) (fun _ => False) rfl rfl ?aP (fun _ hk => hk.elim) ?aF ?aO ?aB ?aS ?aL ?_; (case aP => exact k34_mkM _ _ _ (⟨(i : Int) + 1, b⟩ : S34)); (case aB => exact HB.out); (case aF => exact (fun k_ hk => (Nat.le_trans HB.out.size hk))); (case aO => exact HO.out); (case aS => exact HB.out.size); (case aL => have := HLEN.out; omega); intro v110 w33 ho hb hg hat; rw [← HS.out] at ho; have BK1 := Aside0.mk (by obtain ⟨V, hV, hVh⟩ := BK.out; exact ⟨V, hV, blk_grown hVh hg (Kd.R_ne HO.out hVh (by decide))⟩ : WA w33 g L); have HB1 := Aside0.mk hb; have HO1 := Aside0.mk ho; clear ho hb hg hat BK HB HO))
          go_roundg k1
          case measure => omega
          case rel => exact ⟨i + 1, by rw [show ((i + 1 : Nat) : Int) = (i : Int) + 1 by omega], ⟨by have := HK.out; omega⟩, ⟨by have := HLT.out; omega⟩, HO1, BK1, HB1⟩
        · have c2 : decide ((i : Int) + 1 ≤ (n : Int)) = false := dN (by omega)
          obtain rfl : i = n := by have := HI.out; omega
          clear hlt; go_wp2
          go_ret
          exact ⟨_, rfl, by rw [← HO2.out]; exact Kd.R_mono HO.out (fun _ _ => trivial), HB.out⟩


end Go.Proofs.Ytmfbkkjlijaabaa.Q
