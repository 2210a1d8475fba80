/- Printed by wip/mp.py: functions as plain Lean functions, and their calls. -/
import Derived.Test.YtcaildjhnkedfaaQx0
import Derived.Test.YtcaildjhnkedfaaQx11
namespace Go.Proofs.Ytcaildjhnkedfaa.Q
open Go.RowKit Go.Proofs.Ytcaildjhnkedfaa.HB Go.Proofs.YtcaildjhnkedfaaW.PrintWords Go.Proofs.YtcaildjhnkedfaaW.PrintLast Go.Proofs.YtcaildjhnkedfaaW.PrintMore
attribute [local go_sem] max2_int min2_int max_two min_two max_three min_three max_four min_four   -- for this text's walks alone
set_option linter.unusedVariables false
set_option linter.unusedSimpArgs false

/-! ### laws_eqTopicS: function 36 -/
abbrev laws_eqTopicS.b0 : Array Bool := #[true, true, true, false, true, false, false, false, false, false]
abbrev laws_eqTopicS.b1 : Array Bool := #[true, true, true, false, true, true, false, false, false, false]
abbrev laws_eqTopicS.b2 : Array Bool := #[true, true, true, false, true, true, true, false, false, false]
def laws_eqTopicS.l0 : Nat → List (S44) → List (S44) → Int → Option (Bool)
  | 0, _, _, _ => none
  | k + 1, x0, x1, x5 => if x5 < (x0.length : Int) then (if 0 ≤ x5 then (if x5 < (x1.length : Int) then ((laws_eqTopic.f k ((rd_T44 x0 x5).f0) ((rd_T44 x0 x5).f1) ((rd_T44 x0 x5).f2) ((rd_T44 x0 x5).f3) ((rd_T44 x1 x5).f0) ((rd_T44 x1 x5).f1) ((rd_T44 x1 x5).f2) ((rd_T44 x1 x5).f3)).bind fun t103 => (if t103 = true then (laws_eqTopicS.l0 k x0 x1 (wrap64 (x5 + 1))) else (some false))) else (none)) else (none)) else (some true)
def laws_eqTopicS.f (k : Nat) (l0 : List (S44)) (l1 : List (S44)) : Option (Bool) := if (l0.length : Int) = (l1.length : Int) then (laws_eqTopicS.l0 k l0 l1 0) else (some false)
theorem laws_eqTopicS.mono_l : ∀ k, (∀ y0 y1 y2, LeO (laws_eqTopicS.l0 k y0 y1 y2) (laws_eqTopicS.l0 (k + 1) y0 y1 y2))
  | 0 => fun _ _ _ r h => by simp [laws_eqTopicS.l0] at h
  | k + 1 => by
    have ih0 := laws_eqTopicS.mono_l k
    · intro y0 y1 y2
      unfold laws_eqTopicS.l0
      repeat' first | (with_reducible first | exact ih0 _ _ _ | exact laws_eqTopic.mono _ _ _ _ _ _ _ _ _ | exact oR _ | exact oN _ | refine oI ?_ ?_ | refine oB ?_ fun _ => ?_) | exact ih0 _ _ _ | exact laws_eqTopic.mono _ _ _ _ _ _ _ _ _ | exact oN _ | refine oI ?_ ?_ | refine oB ?_ fun _ => ?_
theorem laws_eqTopicS.mono : ∀ a0 a1 k, LeO (laws_eqTopicS.f k a0 a1) (laws_eqTopicS.f (k + 1) a0 a1) := by
  intro a0 a1 k; have ih0 := laws_eqTopicS.mono_l k; unfold laws_eqTopicS.f
  repeat' first | (with_reducible first | exact ih0 _ _ _ | exact laws_eqTopic.mono _ _ _ _ _ _ _ _ _ | exact oR _ | exact oN _ | refine oI ?_ ?_ | refine oB ?_ fun _ => ?_) | exact ih0 _ _ _ | exact laws_eqTopic.mono _ _ _ _ _ _ _ _ _ | exact oN _ | refine oI ?_ ?_ | refine oB ?_ fun _ => ?_
def laws_eqTopicS.T6 : Bool × List (List Nat × List Nat) := (true, [([], []), ([], []), ([0, 1], [0, 1]), ([2], [2]), ([], []), ([], []), ([4, 5], [4, 5]), ([6], [6]), ([3, 7], [3, 7]), ([8], [8])])
def laws_eqTopicS.B6 : List Nat := [0, 0, 3, 7, 0, 0, 48, 112, 255, 511]
theorem laws_eqTopicS.tab6 : rtab .any (opsOf Try.f36 6) = laws_eqTopicS.T6 := by kernel_rfl
theorem laws_eqTopicS.bits6 : waitsOk laws_eqTopicS.T6.2 laws_eqTopicS.B6 = true := by kernel_rfl
set_option maxHeartbeats 60000000 in
set_option maxRecDepth 100000 in
theorem laws_eqTopicS.calls (k : Nat) (A0 : Option Addr) (c0 : Nat) (l0 : List (S44)) (A1 : Option Addr) (c1 : Nat) (l1 : List (S44)) (r : Bool) (w : World) (hr0 : Kd.C k44 w A0 l0.length l0) (hc0 : l0.length ≤ c0) (hr1 : Kd.C k44 w A1 l1.length l1) (hc1 : l1.length ≤ c1) (h : laws_eqTopicS.f k l0 l1 = some r) :
    Calls Try.prog 36 #[.slice A0 l0.length c0, .slice A1 l1.length c1] w fun e w' => e = .returned (.bool r) ∧ Below w.heap.size w w' := by
 have hu44 := Try.underlying44; have HR0 := AM hr0; have HC0 := AM hc0; clear hr0 hc0; have HR1 := AM hr1; have HC1 := AM hc1; clear hr1 hc1; have HB := AM (Below.refl w.heap.size w); have H : (if (l0.length : Int) = (l1.length : Int) then (laws_eqTopicS.l0 k l0 l1 0) else (some false)) = some r := h; clear h; by_cases c3 : (l0.length : Int) = (l1.length : Int)
 ·
  rw [if_pos c3] at H; have c3b0 : ((l0.length : Int) == (l1.length : Int)) = true := beq_iff_eq.mpr c3; have c3b1 : ((l0.length : Int) != (l1.length : Int)) = false := bne_eq_false_iff_eq.mpr c3; have c3b2 : (l0.length == l1.length) = true := by first | simpa using c3 | (simp at c3 ⊢; omega)
  clear c3; have H' := AM H; clear H; go_enter Try.func36, Try.ntmps36
  go_wp2
  go_loopg [5] k (fun kq v5 w' => ∃ (x5_1 : Int), v5 = .int .i64 x5_1 ∧ Aside0 (laws_eqTopicS.l0 kq l0 l1 x5_1 = some r) ∧ Aside0 (kq ≤ k) ∧ Aside0 (Below w.heap.size w w'))
  case atStart => exact ⟨(0), (by first | rfl | (simp; done) | (simp [*]; done)), H', ⟨Nat.le_refl _⟩, ⟨bX HB.out⟩⟩
  case round =>
   clear H'; (try clear c1); (try clear p2); (try clear c3); (try clear c3b0); (try clear c3b1); (try clear c3b2); obtain ⟨x5_1, rfl, HA, HK1, HB⟩ := hrel
   cases gk with
   | zero => exact absurd HA.out (by simp [laws_eqTopicS.l0])
   | succ k1 =>
    have H := HA.out; clear HA; simp only [laws_eqTopicS.l0] at H
    by_cases c4 : x5_1 < (l0.length : Int)
    ·
     rw [if_pos c4] at H; have c4b0 := dY c4; clear c4; by_cases c5 : 0 ≤ x5_1
     ·
      rw [if_pos c5] at H; have c5b0 := dY c5; clear c5; by_cases c6 : x5_1 < (l1.length : Int)
      ·
       rw [if_pos c6] at H; have c6b0 := dY c6; clear c6; replace H := oM H; obtain ⟨t103, A70, H⟩ := H; have A7 := AM A70; clear A70; by_cases c8 : t103 = true
       ·
        subst c8; rw [if_pos rfl] at H; have H' := AM H; clear H; try go_wp2
        have _ := AM (bD HB.out); clear HB; rename_i HB; have p101 : 0 ≤ (x5_1 : Int) := oD ‹_›; have q101 : x5_1 < (l0.length : Int) := oD ‹_›; obtain ⟨ad101, A101_2, c101_2, A101_3, c101_3, e101, hx101_0, hx101_1, hx101_2, hx101_3, hl101_2, hi101_2, hl101_3, hi101_3⟩ := at_T44 HR0.out x5_1 p101 q101; have hw101_3 := hx101_3; have hw101_2 := hx101_2; have hw101_1 := hx101_1; have hw101_0 := hx101_0; cases e101; replace hx101_0 := pB HB.out hx101_0; replace hx101_1 := pB HB.out hx101_1; replace hx101_2 := pB HB.out hx101_2; replace hx101_3 := pB HB.out hx101_3; have HR101_2 := AM hi101_2; have HC101_2 := AM hl101_2; clear hi101_2 hl101_2; have HR101_3 := AM hi101_3; have HC101_3 := AM hl101_3; clear hi101_3 hl101_3; replace p101 := eq_true p101; replace q101 := eq_true q101; have p102 : 0 ≤ (x5_1 : Int) := oD ‹_›; have q102 : x5_1 < (l1.length : Int) := oD ‹_›; obtain ⟨ad102, A102_2, c102_2, A102_3, c102_3, e102, hx102_0, hx102_1, hx102_2, hx102_3, hl102_2, hi102_2, hl102_3, hi102_3⟩ := at_T44 HR1.out x5_1 p102 q102; have hw102_3 := hx102_3; have hw102_2 := hx102_2; have hw102_1 := hx102_1; have hw102_0 := hx102_0; cases e102; replace hx102_0 := pB HB.out hx102_0; replace hx102_1 := pB HB.out hx102_1; replace hx102_2 := pB HB.out hx102_2; replace hx102_3 := pB HB.out hx102_3; have HR102_2 := AM hi102_2; have HC102_2 := AM hl102_2; clear hi102_2 hl102_2; have HR102_3 := AM hi102_3; have HC102_3 := AM hl102_3; clear hi102_3 hl102_3; replace p102 := eq_true p102; replace q102 := eq_true q102; refine start_ (n := 10) (S := fun w' => w'.cell? (ad101.add ((x5_1).toNat * 4)) = some (.string ((rd_T44 l0 x5_1).f0)) ∧ w'.cell? ⟨(ad101.add ((x5_1).toNat * 4)).block, (ad101.add ((x5_1).toNat * 4)).off + 1, none⟩ = some (.int .i64 ((rd_T44 l0 x5_1).f1)) ∧ w'.cell? ⟨(ad101.add ((x5_1).toNat * 4)).block, (ad101.add ((x5_1).toNat * 4)).off + 2, none⟩ = some (.slice A101_2 ((rd_T44 l0 x5_1).f2).length c101_2) ∧ w'.cell? ⟨(ad101.add ((x5_1).toNat * 4)).block, (ad101.add ((x5_1).toNat * 4)).off + 3, none⟩ = some (.slice A101_3 ((rd_T44 l0 x5_1).f3).length c101_3) ∧ w'.cell? (ad102.add ((x5_1).toNat * 4)) = some (.string ((rd_T44 l1 x5_1).f0)) ∧ w'.cell? ⟨(ad102.add ((x5_1).toNat * 4)).block, (ad102.add ((x5_1).toNat * 4)).off + 1, none⟩ = some (.int .i64 ((rd_T44 l1 x5_1).f1)) ∧ w'.cell? ⟨(ad102.add ((x5_1).toNat * 4)).block, (ad102.add ((x5_1).toNat * 4)).off + 2, none⟩ = some (.slice A102_2 ((rd_T44 l1 x5_1).f2).length c102_2) ∧ w'.cell? ⟨(ad102.add ((x5_1).toNat * 4)).block, (ad102.add ((x5_1).toNat * 4)).off + 3, none⟩ = some (.slice A102_3 ((rd_T44 l1 x5_1).f3).length c102_3)) (ds := []) (upTo 0 10) (by kernel_rfl) rfl rfl ⟨(pB HB.out hw101_0), (pB HB.out hw101_1), (pB HB.out hw101_2), (pB HB.out hw101_3), (pB HB.out hw102_0), (pB HB.out hw102_1), (pB HB.out hw102_2), (pB HB.out hw102_3)⟩ (fun hHeld => ?_); refine with_tabW laws_eqTopicS.tab6 laws_eqTopicS.bits6 (fun HT_ HW_ => ?_); generalize wr.drew = w9 at HB HR101_2 HR101_3 HR102_2 HR102_3 hx101_0 hx101_1 hx101_2 hx101_3 hx102_0 hx102_1 hx102_2 hx102_3 hHeld ⊢; refine pF 0 1 10 17 ?_; refine pF 1 2 10 18 ?_; refine pF 2 3 10 19 ?_; refine pF2 4 21 laws_eqTopicS.b0 ?_; refine pF2 5 22 laws_eqTopicS.b1 ?_; refine pF2 6 23 laws_eqTopicS.b2 ?_; refine pT2 3 20 (upTo 7 10) ?_ hHeld; refine pT2 7 24 (upTo 8 10) ?_ hHeld; refine oU 8 25 (upTo 9 10) HT_.out (fun K hK => ?_); refine gs Try.func62 #[.agg #[.string ((rd_T44 l0 x5_1).f0), .int .i64 ((rd_T44 l0 x5_1).f1), .slice A101_2 ((rd_T44 l0 x5_1).f2).length c101_2, .slice A101_3 ((rd_T44 l0 x5_1).f3).length c101_3], .agg #[.string ((rd_T44 l1 x5_1).f0), .int .i64 ((rd_T44 l1 x5_1).f1), .slice A102_2 ((rd_T44 l1 x5_1).f2).length c102_2, .slice A102_3 ((rd_T44 l1 x5_1).f3).length c102_3]] ?_; with_reducible refine (laws_eqTopic.calls k1 ((rd_T44 l0 x5_1).f0) ((rd_T44 l0 x5_1).f1) _ _ ((rd_T44 l0 x5_1).f2) _ _ ((rd_T44 l0 x5_1).f3) ((rd_T44 l1 x5_1).f0) ((rd_T44 l1 x5_1).f1) _ _ ((rd_T44 l1 x5_1).f2) _ _ ((rd_T44 l1 x5_1).f3) true _ ?side1 ?side2 ?side3 ?side4 ?side5 ?side6 ?side7 ?side8 A7.out).mono ?_
        (case side1 => exact cX (cB HR101_2.out HB.out))
        (case side2 => exact HC101_2.out)
        (case side3 => exact cX (cB HR101_3.out HB.out))
        (case side4 => exact HC101_3.out)
        (case side5 => exact cX (cB HR102_2.out HB.out))
        (case side6 => exact HC102_2.out)
        (case side7 => exact cX (cB HR102_3.out HB.out))
        (case side8 => exact HC102_3.out)
        rintro e w10 ⟨rfl, hb⟩; refine ⟨_, rfl, ?_⟩; have _ := AM (below_step (bX HB.out) hb); clear HB; rename_i HB; (try clear hb); (try clear hk); refine hK.out _ _ ⟨(pB HB.out hw101_0), (pB HB.out hw101_1), (pB HB.out hw101_2), (pB HB.out hw101_3), (pB HB.out hw102_0), (pB HB.out hw102_1), (pB HB.out hw102_2), (pB HB.out hw102_3)⟩ (fun hHeld => ?_); clear hK K; refine norm_ (a' := ?_) ?_ ?_; rotate_left
        ·
         show Act.put _ (some 25) _ = _
         simp only [Act.put, sA, sB, sC, i64_w, i32_w]
         rfl
        refine pF 9 10 10 26 ?_; refine done_ (done_of HT_.out (by kernel_rfl)) ?_; try go_wp2
        go_roundg k1
        case measure => have := HK1.out; omega
        case rel => exact ⟨(wrap64 (x5_1 + 1)), (by first | rfl | (simp; done) | (simp [*]; done)), H', ⟨by have := HK1.out; omega⟩, ⟨bX HB.out⟩⟩
       replace c8 := oE c8; subst c8; rw [if_neg nft] at H; obtain rfl := Option.some.inj H; try go_wp2
       have _ := AM (bD HB.out); clear HB; rename_i HB; have p101 : 0 ≤ (x5_1 : Int) := oD ‹_›; have q101 : x5_1 < (l0.length : Int) := oD ‹_›; obtain ⟨ad101, A101_2, c101_2, A101_3, c101_3, e101, hx101_0, hx101_1, hx101_2, hx101_3, hl101_2, hi101_2, hl101_3, hi101_3⟩ := at_T44 HR0.out x5_1 p101 q101; have hw101_3 := hx101_3; have hw101_2 := hx101_2; have hw101_1 := hx101_1; have hw101_0 := hx101_0; cases e101; replace hx101_0 := pB HB.out hx101_0; replace hx101_1 := pB HB.out hx101_1; replace hx101_2 := pB HB.out hx101_2; replace hx101_3 := pB HB.out hx101_3; have HR101_2 := AM hi101_2; have HC101_2 := AM hl101_2; clear hi101_2 hl101_2; have HR101_3 := AM hi101_3; have HC101_3 := AM hl101_3; clear hi101_3 hl101_3; replace p101 := eq_true p101; replace q101 := eq_true q101; have p102 : 0 ≤ (x5_1 : Int) := oD ‹_›; have q102 : x5_1 < (l1.length : Int) := oD ‹_›; obtain ⟨ad102, A102_2, c102_2, A102_3, c102_3, e102, hx102_0, hx102_1, hx102_2, hx102_3, hl102_2, hi102_2, hl102_3, hi102_3⟩ := at_T44 HR1.out x5_1 p102 q102; have hw102_3 := hx102_3; have hw102_2 := hx102_2; have hw102_1 := hx102_1; have hw102_0 := hx102_0; cases e102; replace hx102_0 := pB HB.out hx102_0; replace hx102_1 := pB HB.out hx102_1; replace hx102_2 := pB HB.out hx102_2; replace hx102_3 := pB HB.out hx102_3; have HR102_2 := AM hi102_2; have HC102_2 := AM hl102_2; clear hi102_2 hl102_2; have HR102_3 := AM hi102_3; have HC102_3 := AM hl102_3; clear hi102_3 hl102_3; replace p102 := eq_true p102; replace q102 := eq_true q102; refine start_ (n := 10) (S := fun w' => w'.cell? (ad101.add ((x5_1).toNat * 4)) = some (.string ((rd_T44 l0 x5_1).f0)) ∧ w'.cell? ⟨(ad101.add ((x5_1).toNat * 4)).block, (ad101.add ((x5_1).toNat * 4)).off + 1, none⟩ = some (.int .i64 ((rd_T44 l0 x5_1).f1)) ∧ w'.cell? ⟨(ad101.add ((x5_1).toNat * 4)).block, (ad101.add ((x5_1).toNat * 4)).off + 2, none⟩ = some (.slice A101_2 ((rd_T44 l0 x5_1).f2).length c101_2) ∧ w'.cell? ⟨(ad101.add ((x5_1).toNat * 4)).block, (ad101.add ((x5_1).toNat * 4)).off + 3, none⟩ = some (.slice A101_3 ((rd_T44 l0 x5_1).f3).length c101_3) ∧ w'.cell? (ad102.add ((x5_1).toNat * 4)) = some (.string ((rd_T44 l1 x5_1).f0)) ∧ w'.cell? ⟨(ad102.add ((x5_1).toNat * 4)).block, (ad102.add ((x5_1).toNat * 4)).off + 1, none⟩ = some (.int .i64 ((rd_T44 l1 x5_1).f1)) ∧ w'.cell? ⟨(ad102.add ((x5_1).toNat * 4)).block, (ad102.add ((x5_1).toNat * 4)).off + 2, none⟩ = some (.slice A102_2 ((rd_T44 l1 x5_1).f2).length c102_2) ∧ w'.cell? ⟨(ad102.add ((x5_1).toNat * 4)).block, (ad102.add ((x5_1).toNat * 4)).off + 3, none⟩ = some (.slice A102_3 ((rd_T44 l1 x5_1).f3).length c102_3)) (ds := []) (upTo 0 10) (by kernel_rfl) rfl rfl ⟨(pB HB.out hw101_0), (pB HB.out hw101_1), (pB HB.out hw101_2), (pB HB.out hw101_3), (pB HB.out hw102_0), (pB HB.out hw102_1), (pB HB.out hw102_2), (pB HB.out hw102_3)⟩ (fun hHeld => ?_); refine with_tabW laws_eqTopicS.tab6 laws_eqTopicS.bits6 (fun HT_ HW_ => ?_); generalize wr.drew = w11 at HB HR101_2 HR101_3 HR102_2 HR102_3 hx101_0 hx101_1 hx101_2 hx101_3 hx102_0 hx102_1 hx102_2 hx102_3 hHeld ⊢; refine pF 0 1 10 17 ?_; refine pF 1 2 10 18 ?_; refine pF 2 3 10 19 ?_; refine pF2 4 21 laws_eqTopicS.b0 ?_; refine pF2 5 22 laws_eqTopicS.b1 ?_; refine pF2 6 23 laws_eqTopicS.b2 ?_; refine pT2 3 20 (upTo 7 10) ?_ hHeld; refine pT2 7 24 (upTo 8 10) ?_ hHeld; refine oU 8 25 (upTo 9 10) HT_.out (fun K hK => ?_); refine gs Try.func62 #[.agg #[.string ((rd_T44 l0 x5_1).f0), .int .i64 ((rd_T44 l0 x5_1).f1), .slice A101_2 ((rd_T44 l0 x5_1).f2).length c101_2, .slice A101_3 ((rd_T44 l0 x5_1).f3).length c101_3], .agg #[.string ((rd_T44 l1 x5_1).f0), .int .i64 ((rd_T44 l1 x5_1).f1), .slice A102_2 ((rd_T44 l1 x5_1).f2).length c102_2, .slice A102_3 ((rd_T44 l1 x5_1).f3).length c102_3]] ?_; with_reducible refine (laws_eqTopic.calls k1 ((rd_T44 l0 x5_1).f0) ((rd_T44 l0 x5_1).f1) _ _ ((rd_T44 l0 x5_1).f2) _ _ ((rd_T44 l0 x5_1).f3) ((rd_T44 l1 x5_1).f0) ((rd_T44 l1 x5_1).f1) _ _ ((rd_T44 l1 x5_1).f2) _ _ ((rd_T44 l1 x5_1).f3) false _ ?side1 ?side2 ?side3 ?side4 ?side5 ?side6 ?side7 ?side8 A7.out).mono ?_
       (case side1 => exact cX (cB HR101_2.out HB.out))
       (case side2 => exact HC101_2.out)
       (case side3 => exact cX (cB HR101_3.out HB.out))
       (case side4 => exact HC101_3.out)
       (case side5 => exact cX (cB HR102_2.out HB.out))
       (case side6 => exact HC102_2.out)
       (case side7 => exact cX (cB HR102_3.out HB.out))
       (case side8 => exact HC102_3.out)
       rintro e w12 ⟨rfl, hb⟩; refine ⟨_, rfl, ?_⟩; have _ := AM (below_step (bX HB.out) hb); clear HB; rename_i HB; (try clear hb); (try clear hk); refine hK.out _ _ ⟨(pB HB.out hw101_0), (pB HB.out hw101_1), (pB HB.out hw101_2), (pB HB.out hw101_3), (pB HB.out hw102_0), (pB HB.out hw102_1), (pB HB.out hw102_2), (pB HB.out hw102_3)⟩ (fun hHeld => ?_); clear hK K; refine norm_ (a' := ?_) ?_ ?_; rotate_left
       ·
        show Act.put _ (some 25) _ = _
        simp only [Act.put, sA, sB, sC, i64_w, i32_w]
        rfl
       refine pF 9 10 10 26 ?_; refine done_ (done_of HT_.out (by kernel_rfl)) ?_; try go_wp2
       go_ret
       exact ⟨by first | rfl | (simp [*, errW_none, errW_some] <;> rfl), bX HB.out⟩
      rw [if_neg c6] at H; exact absurd H (by simp)
     rw [if_neg c5] at H; exact absurd H (by simp)
    rw [if_neg c4] at H; have c4b0 := dN c4; clear c4; obtain rfl := Option.some.inj H; go_wp2
    go_ret
    exact ⟨by first | rfl | (simp [*, errW_none, errW_some] <;> rfl), bX HB.out⟩
 rw [if_neg c3] at H; have c3b0 : ((l0.length : Int) == (l1.length : Int)) = false := beq_eq_false_iff_ne.mpr c3; have c3b1 : ((l0.length : Int) != (l1.length : Int)) = true := bne_iff_ne.mpr c3; have c3b2 : (l0.length == l1.length) = false := by first | simpa using c3 | (simp at c3 ⊢; omega)
 obtain rfl := Option.some.inj H; go_enter Try.func36, Try.ntmps36
 go_wp2
 go_ret
 exact ⟨by first | rfl | (simp [*, errW_none, errW_some] <;> rfl), bX HB.out⟩

/-! ### laws_eqReply: function 63 -/

def laws_eqReply.f (a0_0 : Int) (a0_1 : Int) (a0_2 : ByteArray) (a1_0 : Int) (a1_1 : Int) (a1_2 : ByteArray) : Option (Bool) := if a0_0 = a1_0 then (if a0_1 = a1_1 then (if a0_2.toList = a1_2.toList then (some true) else (some false)) else (some false)) else (some false)
set_option maxHeartbeats 60000000 in
set_option maxRecDepth 100000 in
theorem laws_eqReply.calls (a0_0 : Int) (a0_1 : Int) (a0_2 : ByteArray) (a1_0 : Int) (a1_1 : Int) (a1_2 : ByteArray) (r : Bool) (w : World) (h : laws_eqReply.f a0_0 a0_1 a0_2 a1_0 a1_1 a1_2 = some r) :
    Calls Try.prog 63 #[.agg #[.int .i64 a0_0, .int .i64 a0_1, .string a0_2], .agg #[.int .i64 a1_0, .int .i64 a1_1, .string a1_2]] w fun e w' => e = .returned (.bool r) ∧ Below w.heap.size w w' := by
 have hu48 := Try.underlying48; have HB := AM (Below.refl w.heap.size w); have H : (if a0_0 = a1_0 then (if a0_1 = a1_1 then (if a0_2.toList = a1_2.toList then (some true) else (some false)) else (some false)) else (some false)) = some r := h; clear h; by_cases c3 : a0_0 = a1_0
 ·
  rw [if_pos c3] at H; have c3b0 : (a0_0 == a1_0) = true := beq_iff_eq.mpr c3; have c3b1 : (a0_0 != a1_0) = false := bne_eq_false_iff_eq.mpr c3; clear c3; by_cases c4 : a0_1 = a1_1
  ·
   rw [if_pos c4] at H; have c4b0 : (a0_1 == a1_1) = true := beq_iff_eq.mpr c4; have c4b1 : (a0_1 != a1_1) = false := bne_eq_false_iff_eq.mpr c4; clear c4; by_cases c5 : a0_2.toList = a1_2.toList
   ·
    rw [if_pos c5] at H; have c5b0 : (a0_2.toList == a1_2.toList) = true := beq_iff_eq.mpr c5; have c5b1 : (a0_2.toList != a1_2.toList) = false := bne_eq_false_iff_eq.mpr c5; clear c5; obtain rfl := Option.some.inj H; go_enter Try.func63, Try.ntmps63
    go_wp2_with (first | ((with_reducible refine gate_dst (N := 2) rfl ?_); refine bE (cs := #[.int .i64 a0_0, .int .i64 a0_1, .string a0_2]) (t := 48) ?_; intro gb101 hg w6 hbox hb; have _ := AM (below_step (bX HB.out) hb); have _ := AM (hbox); have n2_ := AM (gZ hg (bZ (bX HB.out))); clear HB; rename_i HB BK101; have GW101 := n2_; have GE101 := n2_; clear n2_; clear hb hbox hg) | ((with_reducible refine gate_dst (N := 3) rfl ?_); refine bE (cs := #[.int .i64 a1_0, .int .i64 a1_1, .string a1_2]) (t := 48) ?_; intro gb102 hg w7 hbox hb; have _ := AM (nB BK101.out hb); have _ := AM (below_step (bX HB.out) hb); have _ := AM (hbox); have n3_ := AM (gZ hg (bZ (bX HB.out))); have _ := AM (lX hg BK101.out); have _ := AM (lX hg BK101.out).symm; clear BK101 HB; rename_i BK101 HB BK102 NB101_102 NB102_101; have GW102 := n3_; have GE102 := n3_; clear n3_; clear hb hbox hg; have hnb8 := NB101_102.out; have hnc8 := NB102_101.out; have hcz9 := q3 BK101.out; have hfz9 := fZ BK101.out; have hcz10 := q3 BK102.out; have hfz10 := fZ BK102.out))
    go_ret
    exact ⟨by first | rfl | (simp [*, errW_none, errW_some] <;> rfl), bX HB.out⟩
   rw [if_neg c5] at H; have c5b0 : (a0_2.toList == a1_2.toList) = false := beq_eq_false_iff_ne.mpr c5; have c5b1 : (a0_2.toList != a1_2.toList) = true := bne_iff_ne.mpr c5; obtain rfl := Option.some.inj H; go_enter Try.func63, Try.ntmps63
   go_wp2_with (first | ((with_reducible refine gate_dst (N := 2) rfl ?_); refine bE (cs := #[.int .i64 a0_0, .int .i64 a0_1, .string a0_2]) (t := 48) ?_; intro gb101 hg w11 hbox hb; have _ := AM (below_step (bX HB.out) hb); have _ := AM (hbox); have n2_ := AM (gZ hg (bZ (bX HB.out))); clear HB; rename_i HB BK101; have GW101 := n2_; have GE101 := n2_; clear n2_; clear hb hbox hg) | ((with_reducible refine gate_dst (N := 3) rfl ?_); refine bE (cs := #[.int .i64 a1_0, .int .i64 a1_1, .string a1_2]) (t := 48) ?_; intro gb102 hg w12 hbox hb; have _ := AM (nB BK101.out hb); have _ := AM (below_step (bX HB.out) hb); have _ := AM (hbox); have n3_ := AM (gZ hg (bZ (bX HB.out))); have _ := AM (lX hg BK101.out); have _ := AM (lX hg BK101.out).symm; clear BK101 HB; rename_i BK101 HB BK102 NB101_102 NB102_101; have GW102 := n3_; have GE102 := n3_; clear n3_; clear hb hbox hg; have hnb13 := NB101_102.out; have hnc13 := NB102_101.out; have hcz14 := q3 BK101.out; have hfz14 := fZ BK101.out; have hcz15 := q3 BK102.out; have hfz15 := fZ BK102.out))
   go_ret
   exact ⟨by first | rfl | (simp [*, errW_none, errW_some] <;> rfl), bX HB.out⟩
  rw [if_neg c4] at H; have c4b0 : (a0_1 == a1_1) = false := beq_eq_false_iff_ne.mpr c4; have c4b1 : (a0_1 != a1_1) = true := bne_iff_ne.mpr c4; obtain rfl := Option.some.inj H; go_enter Try.func63, Try.ntmps63
  go_wp2_with (first | ((with_reducible refine gate_dst (N := 2) rfl ?_); refine bE (cs := #[.int .i64 a0_0, .int .i64 a0_1, .string a0_2]) (t := 48) ?_; intro gb101 hg w16 hbox hb; have _ := AM (below_step (bX HB.out) hb); have _ := AM (hbox); have n2_ := AM (gZ hg (bZ (bX HB.out))); clear HB; rename_i HB BK101; have GW101 := n2_; have GE101 := n2_; clear n2_; clear hb hbox hg) | ((with_reducible refine gate_dst (N := 3) rfl ?_); refine bE (cs := #[.int .i64 a1_0, .int .i64 a1_1, .string a1_2]) (t := 48) ?_; intro gb102 hg w17 hbox hb; have _ := AM (nB BK101.out hb); have _ := AM (below_step (bX HB.out) hb); have _ := AM (hbox); have n3_ := AM (gZ hg (bZ (bX HB.out))); have _ := AM (lX hg BK101.out); have _ := AM (lX hg BK101.out).symm; clear BK101 HB; rename_i BK101 HB BK102 NB101_102 NB102_101; have GW102 := n3_; have GE102 := n3_; clear n3_; clear hb hbox hg; have hnb18 := NB101_102.out; have hnc18 := NB102_101.out; have hcz19 := q3 BK101.out; have hfz19 := fZ BK101.out; have hcz20 := q3 BK102.out; have hfz20 := fZ BK102.out))
  go_ret
  exact ⟨by first | rfl | (simp [*, errW_none, errW_some] <;> rfl), bX HB.out⟩
 rw [if_neg c3] at H; have c3b0 : (a0_0 == a1_0) = false := beq_eq_false_iff_ne.mpr c3; have c3b1 : (a0_0 != a1_0) = true := bne_iff_ne.mpr c3; obtain rfl := Option.some.inj H; go_enter Try.func63, Try.ntmps63
 go_wp2_with (first | ((with_reducible refine gate_dst (N := 2) rfl ?_); refine bE (cs := #[.int .i64 a0_0, .int .i64 a0_1, .string a0_2]) (t := 48) ?_; intro gb101 hg w21 hbox hb; have _ := AM (below_step (bX HB.out) hb); have _ := AM (hbox); have n2_ := AM (gZ hg (bZ (bX HB.out))); clear HB; rename_i HB BK101; have GW101 := n2_; have GE101 := n2_; clear n2_; clear hb hbox hg) | ((with_reducible refine gate_dst (N := 3) rfl ?_); refine bE (cs := #[.int .i64 a1_0, .int .i64 a1_1, .string a1_2]) (t := 48) ?_; intro gb102 hg w22 hbox hb; have _ := AM (nB BK101.out hb); have _ := AM (below_step (bX HB.out) hb); have _ := AM (hbox); have n3_ := AM (gZ hg (bZ (bX HB.out))); have _ := AM (lX hg BK101.out); have _ := AM (lX hg BK101.out).symm; clear BK101 HB; rename_i BK101 HB BK102 NB101_102 NB102_101; have GW102 := n3_; have GE102 := n3_; clear n3_; clear hb hbox hg; have hnb23 := NB101_102.out; have hnc23 := NB102_101.out; have hcz24 := q3 BK101.out; have hfz24 := fZ BK101.out; have hcz25 := q3 BK102.out; have hfz25 := fZ BK102.out))
 go_ret
 exact ⟨by first | rfl | (simp [*, errW_none, errW_some] <;> rfl), bX HB.out⟩

/-! ### laws_eqReplyS: function 37 -/
abbrev laws_eqReplyS.b0 : Array Bool := #[true, true, true, false, true, false, false, false, false, false]
abbrev laws_eqReplyS.b1 : Array Bool := #[true, true, true, false, true, true, false, false, false, false]
abbrev laws_eqReplyS.b2 : Array Bool := #[true, true, true, false, true, true, true, false, false, false]
def laws_eqReplyS.l0 : Nat → List (S48) → List (S48) → Int → Option (Bool)
  | 0, _, _, _ => none
  | k + 1, x0, x1, x5 => if x5 < (x0.length : Int) then (if 0 ≤ x5 then (if x5 < (x1.length : Int) then ((laws_eqReply.f ((rd_T48 x0 x5).f0) ((rd_T48 x0 x5).f1) ((rd_T48 x0 x5).f2) ((rd_T48 x1 x5).f0) ((rd_T48 x1 x5).f1) ((rd_T48 x1 x5).f2)).bind fun t103 => (if t103 = true then (laws_eqReplyS.l0 k x0 x1 (wrap64 (x5 + 1))) else (some false))) else (none)) else (none)) else (some true)
def laws_eqReplyS.f (k : Nat) (l0 : List (S48)) (l1 : List (S48)) : Option (Bool) := if (l0.length : Int) = (l1.length : Int) then (laws_eqReplyS.l0 k l0 l1 0) else (some false)
theorem laws_eqReplyS.mono_l : ∀ k, (∀ y0 y1 y2, LeO (laws_eqReplyS.l0 k y0 y1 y2) (laws_eqReplyS.l0 (k + 1) y0 y1 y2))
  | 0 => fun _ _ _ r h => by simp [laws_eqReplyS.l0] at h
  | k + 1 => by
    have ih0 := laws_eqReplyS.mono_l k
    · intro y0 y1 y2
      unfold laws_eqReplyS.l0
      repeat' first | (with_reducible first | exact ih0 _ _ _ | exact oR _ | exact oN _ | refine oI ?_ ?_ | refine oB ?_ fun _ => ?_) | exact ih0 _ _ _ | exact oN _ | refine oI ?_ ?_ | refine oB ?_ fun _ => ?_
theorem laws_eqReplyS.mono : ∀ a0 a1 k, LeO (laws_eqReplyS.f k a0 a1) (laws_eqReplyS.f (k + 1) a0 a1) := by
  intro a0 a1 k; have ih0 := laws_eqReplyS.mono_l k; unfold laws_eqReplyS.f
  repeat' first | (with_reducible first | exact ih0 _ _ _ | exact oR _ | exact oN _ | refine oI ?_ ?_ | refine oB ?_ fun _ => ?_) | exact ih0 _ _ _ | exact oN _ | refine oI ?_ ?_ | refine oB ?_ fun _ => ?_
def laws_eqReplyS.T6 : Bool × List (List Nat × List Nat) := (true, [([], []), ([], []), ([0, 1], [0, 1]), ([2], [2]), ([], []), ([], []), ([4, 5], [4, 5]), ([6], [6]), ([3, 7], [3, 7]), ([8], [8])])
def laws_eqReplyS.B6 : List Nat := [0, 0, 3, 7, 0, 0, 48, 112, 255, 511]
theorem laws_eqReplyS.tab6 : rtab .any (opsOf Try.f37 6) = laws_eqReplyS.T6 := by kernel_rfl
theorem laws_eqReplyS.bits6 : waitsOk laws_eqReplyS.T6.2 laws_eqReplyS.B6 = true := by kernel_rfl
set_option maxHeartbeats 60000000 in
set_option maxRecDepth 100000 in
theorem laws_eqReplyS.calls (k : Nat) (A0 : Option Addr) (c0 : Nat) (l0 : List (S48)) (A1 : Option Addr) (c1 : Nat) (l1 : List (S48)) (r : Bool) (w : World) (hr0 : Kd.C k48 w A0 l0.length l0) (hc0 : l0.length ≤ c0) (hr1 : Kd.C k48 w A1 l1.length l1) (hc1 : l1.length ≤ c1) (h : laws_eqReplyS.f k l0 l1 = some r) :
    Calls Try.prog 37 #[.slice A0 l0.length c0, .slice A1 l1.length c1] w fun e w' => e = .returned (.bool r) ∧ Below w.heap.size w w' := by
 have hu48 := Try.underlying48; have HR0 := AM hr0; have HC0 := AM hc0; clear hr0 hc0; have HR1 := AM hr1; have HC1 := AM hc1; clear hr1 hc1; have HB := AM (Below.refl w.heap.size w); have H : (if (l0.length : Int) = (l1.length : Int) then (laws_eqReplyS.l0 k l0 l1 0) else (some false)) = some r := h; clear h; by_cases c3 : (l0.length : Int) = (l1.length : Int)
 ·
  rw [if_pos c3] at H; have c3b0 : ((l0.length : Int) == (l1.length : Int)) = true := beq_iff_eq.mpr c3; have c3b1 : ((l0.length : Int) != (l1.length : Int)) = false := bne_eq_false_iff_eq.mpr c3; have c3b2 : (l0.length == l1.length) = true := by first | simpa using c3 | (simp at c3 ⊢; omega)
  clear c3; have H' := AM H; clear H; go_enter Try.func37, Try.ntmps37
  go_wp2
  go_loopg [5] k (fun kq v5 w' => ∃ (x5_1 : Int), v5 = .int .i64 x5_1 ∧ Aside0 (laws_eqReplyS.l0 kq l0 l1 x5_1 = some r) ∧ Aside0 (kq ≤ k) ∧ Aside0 (Below w.heap.size w w'))
  case atStart => exact ⟨(0), (by first | rfl | (simp; done) | (simp [*]; done)), H', ⟨Nat.le_refl _⟩, ⟨bX HB.out⟩⟩
  case round =>
   clear H'; (try clear c1); (try clear p2); (try clear c3); (try clear c3b0); (try clear c3b1); (try clear c3b2); obtain ⟨x5_1, rfl, HA, HK1, HB⟩ := hrel
   cases gk with
   | zero => exact absurd HA.out (by simp [laws_eqReplyS.l0])
   | succ k1 =>
    have H := HA.out; clear HA; simp only [laws_eqReplyS.l0] at H
    by_cases c4 : x5_1 < (l0.length : Int)
    ·
     rw [if_pos c4] at H; have c4b0 := dY c4; clear c4; by_cases c5 : 0 ≤ x5_1
     ·
      rw [if_pos c5] at H; have c5b0 := dY c5; clear c5; by_cases c6 : x5_1 < (l1.length : Int)
      ·
       rw [if_pos c6] at H; have c6b0 := dY c6; clear c6; replace H := oM H; obtain ⟨t103, A70, H⟩ := H; have A7 := AM A70; clear A70; by_cases c8 : t103 = true
       ·
        subst c8; rw [if_pos rfl] at H; have H' := AM H; clear H; try go_wp2
        have _ := AM (bD HB.out); clear HB; rename_i HB; have p101 : 0 ≤ (x5_1 : Int) := oD ‹_›; have q101 : x5_1 < (l0.length : Int) := oD ‹_›; obtain ⟨ad101, e101, hx101_0, hx101_1, hx101_2⟩ := at_T48 HR0.out x5_1 p101 q101; have hw101_2 := hx101_2; have hw101_1 := hx101_1; have hw101_0 := hx101_0; cases e101; replace hx101_0 := pB HB.out hx101_0; replace hx101_1 := pB HB.out hx101_1; replace hx101_2 := pB HB.out hx101_2; replace p101 := eq_true p101; replace q101 := eq_true q101; have p102 : 0 ≤ (x5_1 : Int) := oD ‹_›; have q102 : x5_1 < (l1.length : Int) := oD ‹_›; obtain ⟨ad102, e102, hx102_0, hx102_1, hx102_2⟩ := at_T48 HR1.out x5_1 p102 q102; have hw102_2 := hx102_2; have hw102_1 := hx102_1; have hw102_0 := hx102_0; cases e102; replace hx102_0 := pB HB.out hx102_0; replace hx102_1 := pB HB.out hx102_1; replace hx102_2 := pB HB.out hx102_2; replace p102 := eq_true p102; replace q102 := eq_true q102; refine start_ (n := 10) (S := fun w' => w'.cell? (ad101.add ((x5_1).toNat * 3)) = some (.int .i64 ((rd_T48 l0 x5_1).f0)) ∧ w'.cell? ⟨(ad101.add ((x5_1).toNat * 3)).block, (ad101.add ((x5_1).toNat * 3)).off + 1, none⟩ = some (.int .i64 ((rd_T48 l0 x5_1).f1)) ∧ w'.cell? ⟨(ad101.add ((x5_1).toNat * 3)).block, (ad101.add ((x5_1).toNat * 3)).off + 2, none⟩ = some (.string ((rd_T48 l0 x5_1).f2)) ∧ w'.cell? (ad102.add ((x5_1).toNat * 3)) = some (.int .i64 ((rd_T48 l1 x5_1).f0)) ∧ w'.cell? ⟨(ad102.add ((x5_1).toNat * 3)).block, (ad102.add ((x5_1).toNat * 3)).off + 1, none⟩ = some (.int .i64 ((rd_T48 l1 x5_1).f1)) ∧ w'.cell? ⟨(ad102.add ((x5_1).toNat * 3)).block, (ad102.add ((x5_1).toNat * 3)).off + 2, none⟩ = some (.string ((rd_T48 l1 x5_1).f2))) (ds := []) (upTo 0 10) (by kernel_rfl) rfl rfl ⟨(pB HB.out hw101_0), (pB HB.out hw101_1), (pB HB.out hw101_2), (pB HB.out hw102_0), (pB HB.out hw102_1), (pB HB.out hw102_2)⟩ (fun hHeld => ?_); refine with_tabW laws_eqReplyS.tab6 laws_eqReplyS.bits6 (fun HT_ HW_ => ?_); generalize wr.drew = w9 at HB hx101_0 hx101_1 hx101_2 hx102_0 hx102_1 hx102_2 hHeld ⊢; refine pF 0 1 10 17 ?_; refine pF 1 2 10 18 ?_; refine pF 2 3 10 19 ?_; refine pF2 4 21 laws_eqReplyS.b0 ?_; refine pF2 5 22 laws_eqReplyS.b1 ?_; refine pF2 6 23 laws_eqReplyS.b2 ?_; refine pT2 3 20 (upTo 7 10) ?_ hHeld; refine pT2 7 24 (upTo 8 10) ?_ hHeld; refine oU 8 25 (upTo 9 10) HT_.out (fun K hK => ?_); refine gs Try.func63 #[.agg #[.int .i64 ((rd_T48 l0 x5_1).f0), .int .i64 ((rd_T48 l0 x5_1).f1), .string ((rd_T48 l0 x5_1).f2)], .agg #[.int .i64 ((rd_T48 l1 x5_1).f0), .int .i64 ((rd_T48 l1 x5_1).f1), .string ((rd_T48 l1 x5_1).f2)]] ?_; with_reducible refine (laws_eqReply.calls ((rd_T48 l0 x5_1).f0) ((rd_T48 l0 x5_1).f1) ((rd_T48 l0 x5_1).f2) ((rd_T48 l1 x5_1).f0) ((rd_T48 l1 x5_1).f1) ((rd_T48 l1 x5_1).f2) true _ A7.out).mono ?_
        rintro e w10 ⟨rfl, hb⟩; refine ⟨_, rfl, ?_⟩; have _ := AM (below_step (bX HB.out) hb); clear HB; rename_i HB; (try clear hb); (try clear hk); refine hK.out _ _ ⟨(pB HB.out hw101_0), (pB HB.out hw101_1), (pB HB.out hw101_2), (pB HB.out hw102_0), (pB HB.out hw102_1), (pB HB.out hw102_2)⟩ (fun hHeld => ?_); clear hK K; refine norm_ (a' := ?_) ?_ ?_; rotate_left
        ·
         show Act.put _ (some 25) _ = _
         simp only [Act.put, sA, sB, sC, i64_w, i32_w]
         rfl
        refine pF 9 10 10 26 ?_; refine done_ (done_of HT_.out (by kernel_rfl)) ?_; try go_wp2
        go_roundg k1
        case measure => have := HK1.out; omega
        case rel => exact ⟨(wrap64 (x5_1 + 1)), (by first | rfl | (simp; done) | (simp [*]; done)), H', ⟨by have := HK1.out; omega⟩, ⟨bX HB.out⟩⟩
       replace c8 := oE c8; subst c8; rw [if_neg nft] at H; obtain rfl := Option.some.inj H; try go_wp2
       have _ := AM (bD HB.out); clear HB; rename_i HB; have p101 : 0 ≤ (x5_1 : Int) := oD ‹_›; have q101 : x5_1 < (l0.length : Int) := oD ‹_›; obtain ⟨ad101, e101, hx101_0, hx101_1, hx101_2⟩ := at_T48 HR0.out x5_1 p101 q101; have hw101_2 := hx101_2; have hw101_1 := hx101_1; have hw101_0 := hx101_0; cases e101; replace hx101_0 := pB HB.out hx101_0; replace hx101_1 := pB HB.out hx101_1; replace hx101_2 := pB HB.out hx101_2; replace p101 := eq_true p101; replace q101 := eq_true q101; have p102 : 0 ≤ (x5_1 : Int) := oD ‹_›; have q102 : x5_1 < (l1.length : Int) := oD ‹_›; obtain ⟨ad102, e102, hx102_0, hx102_1, hx102_2⟩ := at_T48 HR1.out x5_1 p102 q102; have hw102_2 := hx102_2; have hw102_1 := hx102_1; have hw102_0 := hx102_0; cases e102; replace hx102_0 := pB HB.out hx102_0; replace hx102_1 := pB HB.out hx102_1; replace hx102_2 := pB HB.out hx102_2; replace p102 := eq_true p102; replace q102 := eq_true q102; refine start_ (n := 10) (S := fun w' => w'.cell? (ad101.add ((x5_1).toNat * 3)) = some (.int .i64 ((rd_T48 l0 x5_1).f0)) ∧ w'.cell? ⟨(ad101.add ((x5_1).toNat * 3)).block, (ad101.add ((x5_1).toNat * 3)).off + 1, none⟩ = some (.int .i64 ((rd_T48 l0 x5_1).f1)) ∧ w'.cell? ⟨(ad101.add ((x5_1).toNat * 3)).block, (ad101.add ((x5_1).toNat * 3)).off + 2, none⟩ = some (.string ((rd_T48 l0 x5_1).f2)) ∧ w'.cell? (ad102.add ((x5_1).toNat * 3)) = some (.int .i64 ((rd_T48 l1 x5_1).f0)) ∧ w'.cell? ⟨(ad102.add ((x5_1).toNat * 3)).block, (ad102.add ((x5_1).toNat * 3)).off + 1, none⟩ = some (.int .i64 ((rd_T48 l1 x5_1).f1)) ∧ w'.cell? ⟨(ad102.add ((x5_1).toNat * 3)).block, (ad102.add ((x5_1).toNat * 3)).off + 2, none⟩ = some (.string ((rd_T48 l1 x5_1).f2))) (ds := []) (upTo 0 10) (by kernel_rfl) rfl rfl ⟨(pB HB.out hw101_0), (pB HB.out hw101_1), (pB HB.out hw101_2), (pB HB.out hw102_0), (pB HB.out hw102_1), (pB HB.out hw102_2)⟩ (fun hHeld => ?_); refine with_tabW laws_eqReplyS.tab6 laws_eqReplyS.bits6 (fun HT_ HW_ => ?_); generalize wr.drew = w11 at HB hx101_0 hx101_1 hx101_2 hx102_0 hx102_1 hx102_2 hHeld ⊢; refine pF 0 1 10 17 ?_; refine pF 1 2 10 18 ?_; refine pF 2 3 10 19 ?_; refine pF2 4 21 laws_eqReplyS.b0 ?_; refine pF2 5 22 laws_eqReplyS.b1 ?_; refine pF2 6 23 laws_eqReplyS.b2 ?_; refine pT2 3 20 (upTo 7 10) ?_ hHeld; refine pT2 7 24 (upTo 8 10) ?_ hHeld; refine oU 8 25 (upTo 9 10) HT_.out (fun K hK => ?_); refine gs Try.func63 #[.agg #[.int .i64 ((rd_T48 l0 x5_1).f0), .int .i64 ((rd_T48 l0 x5_1).f1), .string ((rd_T48 l0 x5_1).f2)], .agg #[.int .i64 ((rd_T48 l1 x5_1).f0), .int .i64 ((rd_T48 l1 x5_1).f1), .string ((rd_T48 l1 x5_1).f2)]] ?_; with_reducible refine (laws_eqReply.calls ((rd_T48 l0 x5_1).f0) ((rd_T48 l0 x5_1).f1) ((rd_T48 l0 x5_1).f2) ((rd_T48 l1 x5_1).f0) ((rd_T48 l1 x5_1).f1) ((rd_T48 l1 x5_1).f2) false _ A7.out).mono ?_
       rintro e w12 ⟨rfl, hb⟩; refine ⟨_, rfl, ?_⟩; have _ := AM (below_step (bX HB.out) hb); clear HB; rename_i HB; (try clear hb); (try clear hk); refine hK.out _ _ ⟨(pB HB.out hw101_0), (pB HB.out hw101_1), (pB HB.out hw101_2), (pB HB.out hw102_0), (pB HB.out hw102_1), (pB HB.out hw102_2)⟩ (fun hHeld => ?_); clear hK K; refine norm_ (a' := ?_) ?_ ?_; rotate_left
       ·
        show Act.put _ (some 25) _ = _
        simp only [Act.put, sA, sB, sC, i64_w, i32_w]
        rfl
       refine pF 9 10 10 26 ?_; refine done_ (done_of HT_.out (by kernel_rfl)) ?_; try go_wp2
       go_ret
       exact ⟨by first | rfl | (simp [*, errW_none, errW_some] <;> rfl), bX HB.out⟩
      rw [if_neg c6] at H; exact absurd H (by simp)
     rw [if_neg c5] at H; exact absurd H (by simp)
    rw [if_neg c4] at H; have c4b0 := dN c4; clear c4; obtain rfl := Option.some.inj H; go_wp2
    go_ret
    exact ⟨by first | rfl | (simp [*, errW_none, errW_some] <;> rfl), bX HB.out⟩
 rw [if_neg c3] at H; have c3b0 : ((l0.length : Int) == (l1.length : Int)) = false := beq_eq_false_iff_ne.mpr c3; have c3b1 : ((l0.length : Int) != (l1.length : Int)) = true := bne_iff_ne.mpr c3; have c3b2 : (l0.length == l1.length) = false := by first | simpa using c3 | (simp at c3 ⊢; omega)
 obtain rfl := Option.some.inj H; go_enter Try.func37, Try.ntmps37
 go_wp2
 go_ret
 exact ⟨by first | rfl | (simp [*, errW_none, errW_some] <;> rfl), bX HB.out⟩

/-! ### laws_eqBroker: function 20 -/

def laws_eqBroker.f (k : Nat) (l0_0 : List (S44)) (l0_1 : List (S48)) (l1_0 : List (S44)) (l1_1 : List (S48)) : Option (Bool) := (laws_eqTopicS.f k l0_0 l1_0).bind fun t103 => (if t103 = true then ((laws_eqReplyS.f k l0_1 l1_1).bind fun t104 => (if t104 = true then (some true) else (some false))) else (some false))
theorem laws_eqBroker.mono : ∀ a0 a1 a2 a3 k, LeO (laws_eqBroker.f k a0 a1 a2 a3) (laws_eqBroker.f (k + 1) a0 a1 a2 a3) := by
  intro a0 a1 a2 a3 k; unfold laws_eqBroker.f
  repeat' first | (with_reducible first | exact laws_eqReplyS.mono _ _ _ | exact laws_eqTopicS.mono _ _ _ | exact oR _ | exact oN _ | refine oI ?_ ?_ | refine oB ?_ fun _ => ?_) | exact laws_eqReplyS.mono _ _ _ | exact laws_eqTopicS.mono _ _ _ | exact oN _ | refine oI ?_ ?_ | refine oB ?_ fun _ => ?_
set_option maxHeartbeats 60000000 in
set_option maxRecDepth 100000 in
theorem laws_eqBroker.calls (k : Nat) (A0_0 : Option Addr) (c0_0 : Nat) (l0_0 : List (S44)) (A0_1 : Option Addr) (c0_1 : Nat) (l0_1 : List (S48)) (A1_0 : Option Addr) (c1_0 : Nat) (l1_0 : List (S44)) (A1_1 : Option Addr) (c1_1 : Nat) (l1_1 : List (S48)) (r : Bool) (w : World) (hr0_0 : Kd.C k44 w A0_0 l0_0.length l0_0) (hc0_0 : l0_0.length ≤ c0_0) (hr0_1 : Kd.C k48 w A0_1 l0_1.length l0_1) (hc0_1 : l0_1.length ≤ c0_1) (hr1_0 : Kd.C k44 w A1_0 l1_0.length l1_0) (hc1_0 : l1_0.length ≤ c1_0) (hr1_1 : Kd.C k48 w A1_1 l1_1.length l1_1) (hc1_1 : l1_1.length ≤ c1_1) (h : laws_eqBroker.f k l0_0 l0_1 l1_0 l1_1 = some r) :
    Calls Try.prog 20 #[.agg #[.slice A0_0 l0_0.length c0_0, .slice A0_1 l0_1.length c0_1], .agg #[.slice A1_0 l1_0.length c1_0, .slice A1_1 l1_1.length c1_1]] w fun e w' => e = .returned (.bool r) ∧ Below w.heap.size w w' := by
 have hu25 := Try.underlying25; have HR0_0 := AM hr0_0; have HC0_0 := AM hc0_0; clear hr0_0 hc0_0; have HR0_1 := AM hr0_1; have HC0_1 := AM hc0_1; clear hr0_1 hc0_1; have HR1_0 := AM hr1_0; have HC1_0 := AM hc1_0; clear hr1_0 hc1_0; have HR1_1 := AM hr1_1; have HC1_1 := AM hc1_1; clear hr1_1 hc1_1; have HB := AM (Below.refl w.heap.size w); have H : ((laws_eqTopicS.f k l0_0 l1_0).bind fun t103 => (if t103 = true then ((laws_eqReplyS.f k l0_1 l1_1).bind fun t104 => (if t104 = true then (some true) else (some false))) else (some false))) = some r := h; clear h; replace H := oM H; obtain ⟨t103, A30, H⟩ := H; have A3 := AM A30; clear A30; by_cases c4 : t103 = true
 ·
  subst c4; rw [if_pos rfl] at H; replace H := oM H; obtain ⟨t104, A50, H⟩ := H; have A5 := AM A50; clear A50; by_cases c6 : t104 = true
  ·
   subst c6; rw [if_pos rfl] at H; obtain rfl := Option.some.inj H; go_enter Try.func20, Try.ntmps20
   go_wp2_with (first | ((with_reducible refine gate_dst (N := 2) rfl ?_); refine bE (cs := #[.slice A0_0 l0_0.length c0_0, .slice A0_1 l0_1.length c0_1]) (t := 25) ?_; intro gb101 hg w7 hbox hb; have _ := AM (below_step (bX HB.out) hb); have _ := AM (hbox); have n2_ := AM (gZ hg (bZ (bX HB.out))); clear HB; rename_i HB BK101; have GW101 := n2_; have GE101 := n2_; clear n2_; clear hb hbox hg) | ((with_reducible refine gate_dst (N := 3) rfl ?_); refine bE (cs := #[.slice A1_0 l1_0.length c1_0, .slice A1_1 l1_1.length c1_1]) (t := 25) ?_; intro gb102 hg w8 hbox hb; have _ := AM (nB BK101.out hb); have _ := AM (below_step (bX HB.out) hb); have _ := AM (hbox); have n3_ := AM (gZ hg (bZ (bX HB.out))); have _ := AM (lX hg BK101.out); have _ := AM (lX hg BK101.out).symm; clear BK101 HB; rename_i BK101 HB BK102 NB101_102 NB102_101; have GW102 := n3_; have GE102 := n3_; clear n3_; clear hb hbox hg; have hnb9 := NB101_102.out; have hnc9 := NB102_101.out; have hcz10 := q2 BK101.out; have hfz10 := fZ BK101.out; have hcz11 := q2 BK102.out; have hfz11 := fZ BK102.out) | ((with_reducible refine gate_callee (f := 36) rfl ?_); refine gL (some 9) Try.func36 #[.slice A0_0 l0_0.length c0_0, .slice A1_0 l1_0.length c1_0] ?_; (with_reducible refine (laws_eqTopicS.calls k _ _ l0_0 _ _ l1_0 true _ ?side1 ?side2 ?side3 ?side4 A3.out).mono ?_); (case side1 => exact cX (cB HR0_0.out HB.out)); (case side2 => exact HC0_0.out); (case side3 => exact cX (cB HR1_0.out HB.out)); (case side4 => exact HC1_0.out); rintro e w12 ⟨rfl, hb⟩; refine ⟨_, rfl, ?_⟩; have _ := AM (nB BK101.out hb); have _ := AM (nB BK102.out hb); have _ := AM (below_step (bX HB.out) hb); clear BK101 BK102 HB; rename_i BK101 BK102 HB; (try clear hb); (try clear hk); have hcz13 := q2 BK101.out; have hfz13 := fZ BK101.out; have hcz14 := q2 BK102.out; have hfz14 := fZ BK102.out) | ((with_reducible refine gate_callee (f := 37) rfl ?_); refine gL (some 15) Try.func37 #[.slice A0_1 l0_1.length c0_1, .slice A1_1 l1_1.length c1_1] ?_; (with_reducible refine (laws_eqReplyS.calls k _ _ l0_1 _ _ l1_1 true _ ?side1 ?side2 ?side3 ?side4 A5.out).mono ?_); (case side1 => exact cX (cB HR0_1.out HB.out)); (case side2 => exact HC0_1.out); (case side3 => exact cX (cB HR1_1.out HB.out)); (case side4 => exact HC1_1.out); rintro e w15 ⟨rfl, hb⟩; refine ⟨_, rfl, ?_⟩; have _ := AM (nB BK101.out hb); have _ := AM (nB BK102.out hb); have _ := AM (below_step (bX HB.out) hb); clear BK101 BK102 HB; rename_i BK101 BK102 HB; (try clear hb); (try clear hk)))
   go_ret
   exact ⟨by first | rfl | (simp [*, errW_none, errW_some] <;> rfl), bX HB.out⟩
  replace c6 := oE c6; subst c6; rw [if_neg nft] at H; obtain rfl := Option.some.inj H; go_enter Try.func20, Try.ntmps20
  go_wp2_with (first | ((with_reducible refine gate_dst (N := 2) rfl ?_); refine bE (cs := #[.slice A0_0 l0_0.length c0_0, .slice A0_1 l0_1.length c0_1]) (t := 25) ?_; intro gb101 hg w16 hbox hb; have _ := AM (below_step (bX HB.out) hb); have _ := AM (hbox); have n2_ := AM (gZ hg (bZ (bX HB.out))); clear HB; rename_i HB BK101; have GW101 := n2_; have GE101 := n2_; clear n2_; clear hb hbox hg) | ((with_reducible refine gate_dst (N := 3) rfl ?_); refine bE (cs := #[.slice A1_0 l1_0.length c1_0, .slice A1_1 l1_1.length c1_1]) (t := 25) ?_; intro gb102 hg w17 hbox hb; have _ := AM (nB BK101.out hb); have _ := AM (below_step (bX HB.out) hb); have _ := AM (hbox); have n3_ := AM (gZ hg (bZ (bX HB.out))); have _ := AM (lX hg BK101.out); have _ := AM (lX hg BK101.out).symm; clear BK101 HB; rename_i BK101 HB BK102 NB101_102 NB102_101; have GW102 := n3_; have GE102 := n3_; clear n3_; clear hb hbox hg; have hnb18 := NB101_102.out; have hnc18 := NB102_101.out; have hcz19 := q2 BK101.out; have hfz19 := fZ BK101.out; have hcz20 := q2 BK102.out; have hfz20 := fZ BK102.out) | ((with_reducible refine gate_callee (f := 36) rfl ?_); refine gL (some 9) Try.func36 #[.slice A0_0 l0_0.length c0_0, .slice A1_0 l1_0.length c1_0] ?_; (with_reducible refine (laws_eqTopicS.calls k _ _ l0_0 _ _ l1_0 true _ ?side1 ?side2 ?side3 ?side4 A3.out).mono ?_); (case side1 => exact cX (cB HR0_0.out HB.out)); (case side2 => exact HC0_0.out); (case side3 => exact cX (cB HR1_0.out HB.out)); (case side4 => exact HC1_0.out); rintro e w21 ⟨rfl, hb⟩; refine ⟨_, rfl, ?_⟩; have _ := AM (nB BK101.out hb); have _ := AM (nB BK102.out hb); have _ := AM (below_step (bX HB.out) hb); clear BK101 BK102 HB; rename_i BK101 BK102 HB; (try clear hb); (try clear hk); have hcz22 := q2 BK101.out; have hfz22 := fZ BK101.out; have hcz23 := q2 BK102.out; have hfz23 := fZ BK102.out) | ((with_reducible refine gate_callee (f := 37) rfl ?_); refine gL (some 15) Try.func37 #[.slice A0_1 l0_1.length c0_1, .slice A1_1 l1_1.length c1_1] ?_; (with_reducible refine (laws_eqReplyS.calls k _ _ l0_1 _ _ l1_1 false _ ?side1 ?side2 ?side3 ?side4 A5.out).mono ?_); (case side1 => exact cX (cB HR0_1.out HB.out)); (case side2 => exact HC0_1.out); (case side3 => exact cX (cB HR1_1.out HB.out)); (case side4 => exact HC1_1.out); rintro e w24 ⟨rfl, hb⟩; refine ⟨_, rfl, ?_⟩; have _ := AM (nB BK101.out hb); have _ := AM (nB BK102.out hb); have _ := AM (below_step (bX HB.out) hb); clear BK101 BK102 HB; rename_i BK101 BK102 HB; (try clear hb); (try clear hk)))
  go_ret
  exact ⟨by first | rfl | (simp [*, errW_none, errW_some] <;> rfl), bX HB.out⟩
 replace c4 := oE c4; subst c4; rw [if_neg nft] at H; obtain rfl := Option.some.inj H; go_enter Try.func20, Try.ntmps20
 go_wp2_with (first | ((with_reducible refine gate_dst (N := 2) rfl ?_); refine bE (cs := #[.slice A0_0 l0_0.length c0_0, .slice A0_1 l0_1.length c0_1]) (t := 25) ?_; intro gb101 hg w25 hbox hb; have _ := AM (below_step (bX HB.out) hb); have _ := AM (hbox); have n2_ := AM (gZ hg (bZ (bX HB.out))); clear HB; rename_i HB BK101; have GW101 := n2_; have GE101 := n2_; clear n2_; clear hb hbox hg) | ((with_reducible refine gate_dst (N := 3) rfl ?_); refine bE (cs := #[.slice A1_0 l1_0.length c1_0, .slice A1_1 l1_1.length c1_1]) (t := 25) ?_; intro gb102 hg w26 hbox hb; have _ := AM (nB BK101.out hb); have _ := AM (below_step (bX HB.out) hb); have _ := AM (hbox); have n3_ := AM (gZ hg (bZ (bX HB.out))); have _ := AM (lX hg BK101.out); have _ := AM (lX hg BK101.out).symm; clear BK101 HB; rename_i BK101 HB BK102 NB101_102 NB102_101; have GW102 := n3_; have GE102 := n3_; clear n3_; clear hb hbox hg; have hnb27 := NB101_102.out; have hnc27 := NB102_101.out; have hcz28 := q2 BK101.out; have hfz28 := fZ BK101.out; have hcz29 := q2 BK102.out; have hfz29 := fZ BK102.out) | ((with_reducible refine gate_callee (f := 36) rfl ?_); refine gL (some 9) Try.func36 #[.slice A0_0 l0_0.length c0_0, .slice A1_0 l1_0.length c1_0] ?_; (with_reducible refine (laws_eqTopicS.calls k _ _ l0_0 _ _ l1_0 false _ ?side1 ?side2 ?side3 ?side4 A3.out).mono ?_); (case side1 => exact cX (cB HR0_0.out HB.out)); (case side2 => exact HC0_0.out); (case side3 => exact cX (cB HR1_0.out HB.out)); (case side4 => exact HC1_0.out); rintro e w30 ⟨rfl, hb⟩; refine ⟨_, rfl, ?_⟩; have _ := AM (nB BK101.out hb); have _ := AM (nB BK102.out hb); have _ := AM (below_step (bX HB.out) hb); clear BK101 BK102 HB; rename_i BK101 BK102 HB; (try clear hb); (try clear hk)))
 go_ret
 exact ⟨by first | rfl | (simp [*, errW_none, errW_some] <;> rfl), bX HB.out⟩

/-! ### laws_eqBrokerOut: function 7 -/

def laws_eqBrokerOut.f (k : Nat) (l0_0 : List (S44)) (l0_1 : List (S48)) (a0_2 : ByteArray) (a0_3 : Int) (l1_0 : List (S44)) (l1_1 : List (S48)) (a1_2 : ByteArray) (a1_3 : Int) : Option (Bool) := (laws_eqBroker.f k l0_0 l0_1 l1_0 l1_1).bind fun t103 => (if t103 = true then (if a0_2.toList = a1_2.toList then (if a0_3 = a1_3 then (some true) else (some false)) else (some false)) else (some false))
theorem laws_eqBrokerOut.mono : ∀ a0 a1 a2 a3 a4 a5 a6 a7 k, LeO (laws_eqBrokerOut.f k a0 a1 a2 a3 a4 a5 a6 a7) (laws_eqBrokerOut.f (k + 1) a0 a1 a2 a3 a4 a5 a6 a7) := by
  intro a0 a1 a2 a3 a4 a5 a6 a7 k; unfold laws_eqBrokerOut.f
  repeat' first | (with_reducible first | exact laws_eqBroker.mono _ _ _ _ _ | exact oR _ | exact oN _ | refine oI ?_ ?_ | refine oB ?_ fun _ => ?_) | exact laws_eqBroker.mono _ _ _ _ _ | exact oN _ | refine oI ?_ ?_ | refine oB ?_ fun _ => ?_
set_option maxHeartbeats 60000000 in
set_option maxRecDepth 100000 in
theorem laws_eqBrokerOut.calls (k : Nat) (A0_0 : Option Addr) (c0_0 : Nat) (l0_0 : List (S44)) (A0_1 : Option Addr) (c0_1 : Nat) (l0_1 : List (S48)) (a0_2 : ByteArray) (a0_3 : Int) (A1_0 : Option Addr) (c1_0 : Nat) (l1_0 : List (S44)) (A1_1 : Option Addr) (c1_1 : Nat) (l1_1 : List (S48)) (a1_2 : ByteArray) (a1_3 : Int) (r : Bool) (w : World) (hr0_0 : Kd.C k44 w A0_0 l0_0.length l0_0) (hc0_0 : l0_0.length ≤ c0_0) (hr0_1 : Kd.C k48 w A0_1 l0_1.length l0_1) (hc0_1 : l0_1.length ≤ c0_1) (hr1_0 : Kd.C k44 w A1_0 l1_0.length l1_0) (hc1_0 : l1_0.length ≤ c1_0) (hr1_1 : Kd.C k48 w A1_1 l1_1.length l1_1) (hc1_1 : l1_1.length ≤ c1_1) (h : laws_eqBrokerOut.f k l0_0 l0_1 a0_2 a0_3 l1_0 l1_1 a1_2 a1_3 = some r) :
    Calls Try.prog 7 #[.agg #[.slice A0_0 l0_0.length c0_0, .slice A0_1 l0_1.length c0_1, .string a0_2, .int .i64 a0_3], .agg #[.slice A1_0 l1_0.length c1_0, .slice A1_1 l1_1.length c1_1, .string a1_2, .int .i64 a1_3]] w fun e w' => e = .returned (.bool r) ∧ Below w.heap.size w w' := by
 have hu27 := Try.underlying27; have hu25 := Try.underlying25; have HR0_0 := AM hr0_0; have HC0_0 := AM hc0_0; clear hr0_0 hc0_0; have HR0_1 := AM hr0_1; have HC0_1 := AM hc0_1; clear hr0_1 hc0_1; have HR1_0 := AM hr1_0; have HC1_0 := AM hc1_0; clear hr1_0 hc1_0; have HR1_1 := AM hr1_1; have HC1_1 := AM hc1_1; clear hr1_1 hc1_1; have HB := AM (Below.refl w.heap.size w); have H : ((laws_eqBroker.f k l0_0 l0_1 l1_0 l1_1).bind fun t103 => (if t103 = true then (if a0_2.toList = a1_2.toList then (if a0_3 = a1_3 then (some true) else (some false)) else (some false)) else (some false))) = some r := h; clear h; replace H := oM H; obtain ⟨t103, A30, H⟩ := H; have A3 := AM A30; clear A30; by_cases c4 : t103 = true
 ·
  subst c4; rw [if_pos rfl] at H; by_cases c5 : a0_2.toList = a1_2.toList
  ·
   rw [if_pos c5] at H; have c5b0 : (a0_2.toList == a1_2.toList) = true := beq_iff_eq.mpr c5; have c5b1 : (a0_2.toList != a1_2.toList) = false := bne_eq_false_iff_eq.mpr c5; clear c5; by_cases c6 : a0_3 = a1_3
   ·
    rw [if_pos c6] at H; have c6b0 : (a0_3 == a1_3) = true := beq_iff_eq.mpr c6; have c6b1 : (a0_3 != a1_3) = false := bne_eq_false_iff_eq.mpr c6; clear c6; obtain rfl := Option.some.inj H; go_enter Try.func7, Try.ntmps7
    go_wp2_with (first | ((with_reducible refine gate_dst (N := 2) rfl ?_); refine bE (cs := #[.slice A0_0 l0_0.length c0_0, .slice A0_1 l0_1.length c0_1, .string a0_2, .int .i64 a0_3]) (t := 27) ?_; intro gb101 hg w7 hbox hb; have _ := AM (below_step (bX HB.out) hb); have _ := AM (hbox); have n2_ := AM (gZ hg (bZ (bX HB.out))); clear HB; rename_i HB BK101; have GW101 := n2_; have GE101 := n2_; clear n2_; clear hb hbox hg) | ((with_reducible refine gate_dst (N := 3) rfl ?_); refine bE (cs := #[.slice A1_0 l1_0.length c1_0, .slice A1_1 l1_1.length c1_1, .string a1_2, .int .i64 a1_3]) (t := 27) ?_; intro gb102 hg w8 hbox hb; have _ := AM (nB BK101.out hb); have _ := AM (below_step (bX HB.out) hb); have _ := AM (hbox); have n3_ := AM (gZ hg (bZ (bX HB.out))); have _ := AM (lX hg BK101.out); have _ := AM (lX hg BK101.out).symm; clear BK101 HB; rename_i BK101 HB BK102 NB101_102 NB102_101; have GW102 := n3_; have GE102 := n3_; clear n3_; clear hb hbox hg; have hnb9 := NB101_102.out; have hnc9 := NB102_101.out; have hcz10 := q4 BK101.out; have hfz10 := fZ BK101.out; have hcz11 := q4 BK102.out; have hfz11 := fZ BK102.out) | ((with_reducible refine gate_callee (f := 20) rfl ?_); refine gL (some 9) Try.func20 #[.agg #[.slice A0_0 l0_0.length c0_0, .slice A0_1 l0_1.length c0_1], .agg #[.slice A1_0 l1_0.length c1_0, .slice A1_1 l1_1.length c1_1]] ?_; (with_reducible refine (laws_eqBroker.calls k _ _ l0_0 _ _ l0_1 _ _ l1_0 _ _ l1_1 true _ ?side1 ?side2 ?side3 ?side4 ?side5 ?side6 ?side7 ?side8 A3.out).mono ?_); (case side1 => exact cX (cB HR0_0.out HB.out)); (case side2 => exact HC0_0.out); (case side3 => exact cX (cB HR0_1.out HB.out)); (case side4 => exact HC0_1.out); (case side5 => exact cX (cB HR1_0.out HB.out)); (case side6 => exact HC1_0.out); (case side7 => exact cX (cB HR1_1.out HB.out)); (case side8 => exact HC1_1.out); rintro e w12 ⟨rfl, hb⟩; refine ⟨_, rfl, ?_⟩; have _ := AM (nB BK101.out hb); have _ := AM (nB BK102.out hb); have _ := AM (below_step (bX HB.out) hb); clear BK101 BK102 HB; rename_i BK101 BK102 HB; (try clear hb); (try clear hk); have hcz13 := q4 BK101.out; have hfz13 := fZ BK101.out; have hcz14 := q4 BK102.out; have hfz14 := fZ BK102.out))
    go_ret
    exact ⟨by first | rfl | (simp [*, errW_none, errW_some] <;> rfl), bX HB.out⟩
   rw [if_neg c6] at H; have c6b0 : (a0_3 == a1_3) = false := beq_eq_false_iff_ne.mpr c6; have c6b1 : (a0_3 != a1_3) = true := bne_iff_ne.mpr c6; obtain rfl := Option.some.inj H; go_enter Try.func7, Try.ntmps7
   go_wp2_with (first | ((with_reducible refine gate_dst (N := 2) rfl ?_); refine bE (cs := #[.slice A0_0 l0_0.length c0_0, .slice A0_1 l0_1.length c0_1, .string a0_2, .int .i64 a0_3]) (t := 27) ?_; intro gb101 hg w15 hbox hb; have _ := AM (below_step (bX HB.out) hb); have _ := AM (hbox); have n2_ := AM (gZ hg (bZ (bX HB.out))); clear HB; rename_i HB BK101; have GW101 := n2_; have GE101 := n2_; clear n2_; clear hb hbox hg) | ((with_reducible refine gate_dst (N := 3) rfl ?_); refine bE (cs := #[.slice A1_0 l1_0.length c1_0, .slice A1_1 l1_1.length c1_1, .string a1_2, .int .i64 a1_3]) (t := 27) ?_; intro gb102 hg w16 hbox hb; have _ := AM (nB BK101.out hb); have _ := AM (below_step (bX HB.out) hb); have _ := AM (hbox); have n3_ := AM (gZ hg (bZ (bX HB.out))); have _ := AM (lX hg BK101.out); have _ := AM (lX hg BK101.out).symm; clear BK101 HB; rename_i BK101 HB BK102 NB101_102 NB102_101; have GW102 := n3_; have GE102 := n3_; clear n3_; clear hb hbox hg; have hnb17 := NB101_102.out; have hnc17 := NB102_101.out; have hcz18 := q4 BK101.out; have hfz18 := fZ BK101.out; have hcz19 := q4 BK102.out; have hfz19 := fZ BK102.out) | ((with_reducible refine gate_callee (f := 20) rfl ?_); refine gL (some 9) Try.func20 #[.agg #[.slice A0_0 l0_0.length c0_0, .slice A0_1 l0_1.length c0_1], .agg #[.slice A1_0 l1_0.length c1_0, .slice A1_1 l1_1.length c1_1]] ?_; (with_reducible refine (laws_eqBroker.calls k _ _ l0_0 _ _ l0_1 _ _ l1_0 _ _ l1_1 true _ ?side1 ?side2 ?side3 ?side4 ?side5 ?side6 ?side7 ?side8 A3.out).mono ?_); (case side1 => exact cX (cB HR0_0.out HB.out)); (case side2 => exact HC0_0.out); (case side3 => exact cX (cB HR0_1.out HB.out)); (case side4 => exact HC0_1.out); (case side5 => exact cX (cB HR1_0.out HB.out)); (case side6 => exact HC1_0.out); (case side7 => exact cX (cB HR1_1.out HB.out)); (case side8 => exact HC1_1.out); rintro e w20 ⟨rfl, hb⟩; refine ⟨_, rfl, ?_⟩; have _ := AM (nB BK101.out hb); have _ := AM (nB BK102.out hb); have _ := AM (below_step (bX HB.out) hb); clear BK101 BK102 HB; rename_i BK101 BK102 HB; (try clear hb); (try clear hk); have hcz21 := q4 BK101.out; have hfz21 := fZ BK101.out; have hcz22 := q4 BK102.out; have hfz22 := fZ BK102.out))
   go_ret
   exact ⟨by first | rfl | (simp [*, errW_none, errW_some] <;> rfl), bX HB.out⟩
  rw [if_neg c5] at H; have c5b0 : (a0_2.toList == a1_2.toList) = false := beq_eq_false_iff_ne.mpr c5; have c5b1 : (a0_2.toList != a1_2.toList) = true := bne_iff_ne.mpr c5; obtain rfl := Option.some.inj H; go_enter Try.func7, Try.ntmps7
  go_wp2_with (first | ((with_reducible refine gate_dst (N := 2) rfl ?_); refine bE (cs := #[.slice A0_0 l0_0.length c0_0, .slice A0_1 l0_1.length c0_1, .string a0_2, .int .i64 a0_3]) (t := 27) ?_; intro gb101 hg w23 hbox hb; have _ := AM (below_step (bX HB.out) hb); have _ := AM (hbox); have n2_ := AM (gZ hg (bZ (bX HB.out))); clear HB; rename_i HB BK101; have GW101 := n2_; have GE101 := n2_; clear n2_; clear hb hbox hg) | ((with_reducible refine gate_dst (N := 3) rfl ?_); refine bE (cs := #[.slice A1_0 l1_0.length c1_0, .slice A1_1 l1_1.length c1_1, .string a1_2, .int .i64 a1_3]) (t := 27) ?_; intro gb102 hg w24 hbox hb; have _ := AM (nB BK101.out hb); have _ := AM (below_step (bX HB.out) hb); have _ := AM (hbox); have n3_ := AM (gZ hg (bZ (bX HB.out))); have _ := AM (lX hg BK101.out); have _ := AM (lX hg BK101.out).symm; clear BK101 HB; rename_i BK101 HB BK102 NB101_102 NB102_101; have GW102 := n3_; have GE102 := n3_; clear n3_; clear hb hbox hg; have hnb25 := NB101_102.out; have hnc25 := NB102_101.out; have hcz26 := q4 BK101.out; have hfz26 := fZ BK101.out; have hcz27 := q4 BK102.out; have hfz27 := fZ BK102.out) | ((with_reducible refine gate_callee (f := 20) rfl ?_); refine gL (some 9) Try.func20 #[.agg #[.slice A0_0 l0_0.length c0_0, .slice A0_1 l0_1.length c0_1], .agg #[.slice A1_0 l1_0.length c1_0, .slice A1_1 l1_1.length c1_1]] ?_; (with_reducible refine (laws_eqBroker.calls k _ _ l0_0 _ _ l0_1 _ _ l1_0 _ _ l1_1 true _ ?side1 ?side2 ?side3 ?side4 ?side5 ?side6 ?side7 ?side8 A3.out).mono ?_); (case side1 => exact cX (cB HR0_0.out HB.out)); (case side2 => exact HC0_0.out); (case side3 => exact cX (cB HR0_1.out HB.out)); (case side4 => exact HC0_1.out); (case side5 => exact cX (cB HR1_0.out HB.out)); (case side6 => exact HC1_0.out); (case side7 => exact cX (cB HR1_1.out HB.out)); (case side8 => exact HC1_1.out); rintro e w28 ⟨rfl, hb⟩; refine ⟨_, rfl, ?_⟩; have _ := AM (nB BK101.out hb); have _ := AM (nB BK102.out hb); have _ := AM (below_step (bX HB.out) hb); clear BK101 BK102 HB; rename_i BK101 BK102 HB; (try clear hb); (try clear hk); have hcz29 := q4 BK101.out; have hfz29 := fZ BK101.out; have hcz30 := q4 BK102.out; have hfz30 := fZ BK102.out))
  go_ret
  exact ⟨by first | rfl | (simp [*, errW_none, errW_some] <;> rfl), bX HB.out⟩
 replace c4 := oE c4; subst c4; rw [if_neg nft] at H; obtain rfl := Option.some.inj H; go_enter Try.func7, Try.ntmps7
 go_wp2_with (first | ((with_reducible refine gate_dst (N := 2) rfl ?_); refine bE (cs := #[.slice A0_0 l0_0.length c0_0, .slice A0_1 l0_1.length c0_1, .string a0_2, .int .i64 a0_3]) (t := 27) ?_; intro gb101 hg w31 hbox hb; have _ := AM (below_step (bX HB.out) hb); have _ := AM (hbox); have n2_ := AM (gZ hg (bZ (bX HB.out))); clear HB; rename_i HB BK101; have GW101 := n2_; have GE101 := n2_; clear n2_; clear hb hbox hg) | ((with_reducible refine gate_dst (N := 3) rfl ?_); refine bE (cs := #[.slice A1_0 l1_0.length c1_0, .slice A1_1 l1_1.length c1_1, .string a1_2, .int .i64 a1_3]) (t := 27) ?_; intro gb102 hg w32 hbox hb; have _ := AM (nB BK101.out hb); have _ := AM (below_step (bX HB.out) hb); have _ := AM (hbox); have n3_ := AM (gZ hg (bZ (bX HB.out))); have _ := AM (lX hg BK101.out); have _ := AM (lX hg BK101.out).symm; clear BK101 HB; rename_i BK101 HB BK102 NB101_102 NB102_101; have GW102 := n3_; have GE102 := n3_; clear n3_; clear hb hbox hg; have hnb33 := NB101_102.out; have hnc33 := NB102_101.out; have hcz34 := q4 BK101.out; have hfz34 := fZ BK101.out; have hcz35 := q4 BK102.out; have hfz35 := fZ BK102.out) | ((with_reducible refine gate_callee (f := 20) rfl ?_); refine gL (some 9) Try.func20 #[.agg #[.slice A0_0 l0_0.length c0_0, .slice A0_1 l0_1.length c0_1], .agg #[.slice A1_0 l1_0.length c1_0, .slice A1_1 l1_1.length c1_1]] ?_; (with_reducible refine (laws_eqBroker.calls k _ _ l0_0 _ _ l0_1 _ _ l1_0 _ _ l1_1 false _ ?side1 ?side2 ?side3 ?side4 ?side5 ?side6 ?side7 ?side8 A3.out).mono ?_); (case side1 => exact cX (cB HR0_0.out HB.out)); (case side2 => exact HC0_0.out); (case side3 => exact cX (cB HR0_1.out HB.out)); (case side4 => exact HC0_1.out); (case side5 => exact cX (cB HR1_0.out HB.out)); (case side6 => exact HC1_0.out); (case side7 => exact cX (cB HR1_1.out HB.out)); (case side8 => exact HC1_1.out); rintro e w36 ⟨rfl, hb⟩; refine ⟨_, rfl, ?_⟩; have _ := AM (nB BK101.out hb); have _ := AM (nB BK102.out hb); have _ := AM (below_step (bX HB.out) hb); clear BK101 BK102 HB; rename_i BK101 BK102 HB; (try clear hb); (try clear hk)))
 go_ret
 exact ⟨by first | rfl | (simp [*, errW_none, errW_some] <;> rfl), bX HB.out⟩

/-! ### laws_markText: function 64 -/

def laws_markText.l0 : Nat → Int → ByteArray → Option (ByteArray)
  | 0, _, _ => none
  | k + 1, x0, x3 => if x0 > 0 then ((some (([(wrap64 (48 + (Int.tmod x0 10))) % 256] : List Int) : List Int)).bind fun y101 => (if (strOfNums y101).size + x3.size ≤ 9223372036854775807 then (laws_markText.l0 k (wrap64 (Int.tdiv x0 10)) ((strOfNums y101) ++ x3)) else (none))) else (if 1 + x3.size ≤ 9223372036854775807 then (some ((⟨#[109]⟩ : ByteArray) ++ x3)) else (none))
def laws_markText.f (k : Nat) (a0 : Int) : Option (ByteArray) := if a0 ≤ 0 then (some (⟨#[109, 48]⟩ : ByteArray)) else (laws_markText.l0 k a0 (⟨#[]⟩ : ByteArray))
theorem laws_markText.mono_l : ∀ k, (∀ y0 y1, LeO (laws_markText.l0 k y0 y1) (laws_markText.l0 (k + 1) y0 y1))
  | 0 => fun _ _ r h => by simp [laws_markText.l0] at h
  | k + 1 => by
    have ih0 := laws_markText.mono_l k
    · intro y0 y1
      unfold laws_markText.l0
      repeat' first | (with_reducible first | exact ih0 _ _ | exact oR _ | exact oN _ | refine oI ?_ ?_ | refine oB ?_ fun _ => ?_) | exact ih0 _ _ | exact oN _ | refine oI ?_ ?_ | refine oB ?_ fun _ => ?_
theorem laws_markText.mono : ∀ a0 k, LeO (laws_markText.f k a0) (laws_markText.f (k + 1) a0) := by
  intro a0 k; have ih0 := laws_markText.mono_l k; unfold laws_markText.f
  repeat' first | (with_reducible first | exact ih0 _ _ | exact oR _ | exact oN _ | refine oI ?_ ?_ | refine oB ?_ fun _ => ?_) | exact ih0 _ _ | exact oN _ | refine oI ?_ ?_ | refine oB ?_ fun _ => ?_
set_option maxHeartbeats 60000000 in
set_option maxRecDepth 100000 in
theorem laws_markText.calls (k : Nat) (a0 : Int) (r : ByteArray) (w : World) (h : laws_markText.f k a0 = some r) :
    Calls Try.prog 64 #[.int .i64 a0] w fun e w' => e = .returned (.string r) ∧ Below w.heap.size w w' := by
 have HB := AM (Below.refl w.heap.size w); have H : (if a0 ≤ 0 then (some (⟨#[109, 48]⟩ : ByteArray)) else (laws_markText.l0 k a0 (⟨#[]⟩ : ByteArray))) = some r := h; clear h; by_cases c2 : a0 ≤ 0
 ·
  rw [if_pos c2] at H; have c2b0 := dY c2; clear c2; obtain rfl := Option.some.inj H; go_enter Try.func64, Try.ntmps64
  go_wp2
  go_ret
  exact ⟨by first | rfl | (simp [*, errW_none, errW_some] <;> rfl), bX HB.out⟩
 rw [if_neg c2] at H; have c2b0 := dN c2; clear c2; have H' := AM H; clear H; go_enter Try.func64, Try.ntmps64
 go_wp2
 go_loopg [0, 3] k (fun kq v0 v3 w' => ∃ (x0_1 : Int) (x3_1 : ByteArray), v0 = .int .i64 x0_1 ∧ v3 = .string x3_1 ∧ Aside0 (laws_markText.l0 kq x0_1 x3_1 = some r) ∧ Aside0 (kq ≤ k) ∧ Aside0 (Below w.heap.size w w'))
 case atStart => exact ⟨(a0), ((⟨#[]⟩ : ByteArray)), (by first | rfl | (simp; done) | (simp [*]; done)), (by first | rfl | (simp; done) | (simp [*]; done)), H', ⟨Nat.le_refl _⟩, ⟨bX HB.out⟩⟩
 case round =>
  clear H'; (try clear c2); (try clear c2b0); (try clear p2); obtain ⟨x0_1, x3_1, rfl, rfl, HA, HK1, HB⟩ := hrel
  cases gk with
  | zero => exact absurd HA.out (by simp [laws_markText.l0])
  | succ k1 =>
   have H := HA.out; clear HA; simp only [laws_markText.l0] at H
   by_cases c3 : x0_1 > 0
   ·
    rw [if_pos c3] at H; have c3b0 : decide (0 < x0_1) = true := dY c3; clear c3; obtain ⟨y101, hy101⟩ : ∃ y_ : List Int, y_ = (([(wrap64 (48 + (Int.tmod x0_1 10))) % 256] : List Int)) := ⟨_, rfl⟩; replace H : (if (strOfNums y101).size + x3_1.size ≤ 9223372036854775807 then (laws_markText.l0 k1 (wrap64 (Int.tdiv x0_1 10)) ((strOfNums y101) ++ x3_1)) else (none)) = some r := by first | (rw [hy101]; with_reducible exact H) | (have H2_ := (Option.bind_some _ _).symm.trans H; rw [hy101]; with_reducible exact H2_) | (have H2_ := (Option.bind_some _ _).symm.trans H; with_reducible exact H2_) | with_reducible exact H | (rw [hy101]; exact H) | exact H
    have Ny101 := AM hy101; clear hy101; by_cases c4 : (strOfNums y101).size + x3_1.size ≤ 9223372036854775807
    ·
     rw [if_pos c4] at H; have c4b0 := eq_true c4; have c4b1 := dY c4; try have c4b2 : (9223372036854775807 < (strOfNums y101).size + x3_1.size) = False := eq_false (Nat.not_lt.2 c4)
     have H' := AM H; clear H; go_wp2_with (first | ((with_reducible refine gate_dst (N := 12) rfl ?_); refine Kd.R_lit (Kd.int .u8) _ 5 ?hg (N := 12) ?hd (xs := ([(wrap64 (48 + (Int.tmod x0_1 10))) % 256] : List Int)) (inner := [.int .u8 ((wrap64 (48 + (Int.tmod x0_1 10))) % 256)]) (ok := fun _ => True) (okp := fun _ => True) ?hr ?hp (fun _ hk => hk) trivial (Below.refl _ _) (Nat.le_refl _) (by simp) ?_; (case hd => rfl); (case hg => rfl); (case hr => first | (go_simp; done) | (go_simp; rfl)); (case hp => exact (Reps.one (show Kd.M (Kd.int .u8) _ _ _ ((wrap64 (48 + (Int.tmod x0_1 10))) % 256) [.int .u8 ((wrap64 (48 + (Int.tmod x0_1 10))) % 256)] from rfl) (Reps.none _ _))); intro v102 w5 ho6 hb hg_ hnew_; clear hg_ hnew_; (first | rw [← Ny101.out] at ho6 | (simp only [Int.reduceToNat] at ho6; rw [← Ny101.out] at ho6)); have _ := AM (Kd.R_lower ho6 (bZ (bX HB.out))); have _ := AM (below_step (bX HB.out) hb); clear HB; rename_i HO103 HB; clear hb ho6; have hcv7 := own_string (P := Try.prog) Try.underlying32 Try.underlying5 Try.underlying9 (Kd.own_of_R HO103.out)))
     go_roundg k1
     case measure => have := HK1.out; omega
     case rel => exact ⟨(wrap64 (Int.tdiv x0_1 10)), ((strOfNums y101) ++ x3_1), (by first | rfl | (simp; done) | (simp [*]; done)), (by first | rfl | (simp; done) | (simp [*]; done)), H', ⟨by have := HK1.out; omega⟩, ⟨bX HB.out⟩⟩
    rw [if_neg c4] at H; exact absurd H (by simp)
   rw [if_neg c3] at H; have c3b0 : decide (0 < x0_1) = false := dN c3; clear c3; by_cases c8 : 1 + x3_1.size ≤ 9223372036854775807
   ·
    rw [if_pos c8] at H; have c8b0 := eq_true c8; have c8b1 := dY c8; try have c8b2 : (9223372036854775807 < 1 + x3_1.size) = False := eq_false (Nat.not_lt.2 c8)
    obtain rfl := Option.some.inj H; go_wp2
    go_ret
    exact ⟨by first | rfl | (simp [*, errW_none, errW_some] <;> rfl), bX HB.out⟩
   rw [if_neg c8] at H; exact absurd H (by simp)

/-! ### laws_markStringS: function 65 -/

def laws_markStringS.l0 : Nat → List ByteArray → Int → Int → Option (Int × List ByteArray)
  | 0, _, _, _ => none
  | k + 1, x0, x1, x5 => if x5 < (x0.length : Int) then ((laws_markText.f k x1).bind fun t101 => (if 0 ≤ x5 then (laws_markStringS.l0 k (x0.set (x5 : Int).toNat t101) (wrap64 (x1 + 1)) (wrap64 (x5 + 1))) else (none))) else (some (x1, x0))
def laws_markStringS.f (k : Nat) (l0 : List ByteArray) (a1 : Int) : Option (Int × List ByteArray) := laws_markStringS.l0 k l0 a1 0
theorem laws_markStringS.mono_l : ∀ k, (∀ y0 y1 y2, LeO (laws_markStringS.l0 k y0 y1 y2) (laws_markStringS.l0 (k + 1) y0 y1 y2))
  | 0 => fun _ _ _ r h => by simp [laws_markStringS.l0] at h
  | k + 1 => by
    have ih0 := laws_markStringS.mono_l k
    · intro y0 y1 y2
      unfold laws_markStringS.l0
      repeat' first | (with_reducible first | exact ih0 _ _ _ | exact laws_markText.mono _ _ | exact oR _ | exact oN _ | refine oI ?_ ?_ | refine oB ?_ fun _ => ?_) | exact ih0 _ _ _ | exact laws_markText.mono _ _ | exact oN _ | refine oI ?_ ?_ | refine oB ?_ fun _ => ?_
theorem laws_markStringS.mono : ∀ a0 a1 k, LeO (laws_markStringS.f k a0 a1) (laws_markStringS.f (k + 1) a0 a1) := by
  intro a0 a1 k; have ih0 := laws_markStringS.mono_l k; unfold laws_markStringS.f
  repeat' first | (with_reducible first | exact ih0 _ _ _ | exact laws_markText.mono _ _ | exact oR _ | exact oN _ | refine oI ?_ ?_ | refine oB ?_ fun _ => ?_) | exact ih0 _ _ _ | exact laws_markText.mono _ _ | exact oN _ | refine oI ?_ ?_ | refine oB ?_ fun _ => ?_
set_option maxHeartbeats 60000000 in
set_option maxRecDepth 100000 in
theorem laws_markStringS.calls (k : Nat) (P0_ : Nat → Prop) (u9000_ : Value) (l0 : List ByteArray) (a1 : Int) (r1 : Int) (r2 : List ByteArray) (w0 w : World) (hB : Below w0.heap.size w0 w) (ho0 : Kd.R Kd.string 9 w w0.heap.size P0_ u9000_ l0) (h : laws_markStringS.f k l0 a1 = some (r1, r2)) :
    Calls Try.prog 65 #[u9000_, .int .i64 a1] w fun e w' => e = .returned (.int .i64 r1) ∧ Kd.R Kd.string 9 w' w0.heap.size (fun k_ => (P0_ k_ ∨ w.heap.size ≤ k_)) u9000_ r2 ∧ Below w0.heap.size w0 w' ∧ Kept w w' (fun k_ => P0_ k_) := by
 have HO0 := AM (show Kd.R Kd.string 9 w w0.heap.size (fun k_ => (P0_ k_ ∨ w.heap.size ≤ k_)) u9000_ l0 from Kd.R_mono ho0 (fun k_ hk => (.inl hk))); have HK := AM (Kept.refl w (fun k_ => P0_ k_)); have HW0 := AM hB.size; have HB := AM hB; clear hB; have H : (laws_markStringS.l0 k l0 a1 0) = some (r1, r2) := h; clear h; have H' := AM H; clear H; go_enter Try.func65, Try.ntmps65
 go_wp2
 go_loopg [1, 5] k (fun kq v1 v5 w' => ∃ (x0_1 : List ByteArray) (x1_1 : Int) (x5_1 : Int), v1 = .int .i64 x1_1 ∧ v5 = .int .i64 x5_1 ∧ Aside0 (laws_markStringS.l0 kq x0_1 x1_1 x5_1 = some (r1, r2)) ∧ Aside0 (kq ≤ k) ∧ Aside0 (Kd.R Kd.string 9 w' w0.heap.size (fun k_ => (P0_ k_ ∨ w.heap.size ≤ k_)) u9000_ x0_1) ∧ Aside0 (Kept w w' (fun k_ => P0_ k_)) ∧ Aside0 (Below w0.heap.size w0 w'))
 case atStart => exact ⟨(l0), (a1), (0), (by first | rfl | (simp; done) | (simp [*]; done)), (by first | rfl | (simp; done) | (simp [*]; done)), H', ⟨Nat.le_refl _⟩, ⟨rX HO0.out⟩, ⟨tX HK.out⟩, ⟨bX HB.out⟩⟩
 case round =>
  clear H'; try clear p2
  obtain ⟨x0_1, x1_1, x5_1, rfl, rfl, HA, HK1, HO_0, HK, HB⟩ := hrel
  cases gk with
  | zero => exact absurd HA.out (by simp [laws_markStringS.l0])
  | succ k1 =>
   have H := HA.out; clear HA; simp only [laws_markStringS.l0] at H
   by_cases c3 : x5_1 < (x0_1.length : Int)
   ·
    rw [if_pos c3] at H; have c3b0 := dY c3; clear c3; replace H := oM H; obtain ⟨t101, A40, H⟩ := H; have A4 := AM A40; clear A40; by_cases c5 : 0 ≤ x5_1
    ·
     rw [if_pos c5] at H; have c5b0 := dY c5; clear c5; obtain ⟨y102, hy102⟩ : ∃ y_ : List ByteArray, y_ = (x0_1.set (x5_1 : Int).toNat t101) := ⟨_, rfl⟩; replace H : (laws_markStringS.l0 k1 y102 (wrap64 (x1_1 + 1)) (wrap64 (x5_1 + 1))) = some (r1, r2) := by first | (rw [hy102]; with_reducible exact H) | (have H2_ := (Option.bind_some _ _).symm.trans H; rw [hy102]; with_reducible exact H2_) | (have H2_ := (Option.bind_some _ _).symm.trans H; with_reducible exact H2_) | with_reducible exact H | (rw [hy102]; exact H) | exact H
     have Ny102 := AM hy102; clear hy102; have H' := AM H; clear H; obtain ⟨Ao7, co7, eo7⟩ := Kd.R_slice HO_0.out; subst eo7; go_wp2_with (first | ((with_reducible refine gate_callee (f := 64) rfl ?_); refine gL (some 15) Try.func64 #[.int .i64 x1_1] ?_; (with_reducible refine (laws_markText.calls k1 x1_1 t101 _ A4.out).mono ?_); rintro e w8 ⟨rfl, hb⟩; refine ⟨_, rfl, ?_⟩; have _ := AM (Kd.R_below (rX HO_0.out) hb); have _ := AM (Kept.below (S := (fun k_ => P0_ k_)) (tX HK.out) hb); have _ := AM (below_step (bX HB.out) hb); clear HO_0 HK HB; rename_i HO_0 HK HB; (try clear hb); (try clear hk); have p6 : 0 ≤ (x5_1 : Int) := oD ‹_›; have q6 : (x5_1 : Int) < ((x0_1.length : Int) : Int) := oD ‹_›; obtain ⟨go6, co6, eo6, gb6, gl6, cl6, HG6⟩ := Kd.R_form HO_0.out (by omega); (first | cases eo6 | (injection eo6 with ea_ en_ ec_; (first | subst ea_ | (injection ea_ with ea_; subst ea_)); subst ec_; clear en_)); have GB6 := AM gb6; have GG6 := AM HG6; clear gb6 gl6 HG6; have HMgo6 := AM (show (P0_ go6 ∨ w.heap.size ≤ go6) from (HO_0.out.1 _ rfl)); obtain ⟨hx6_0, hf6_0⟩ := Kd.R_celln (⟨#[]⟩ : ByteArray) HO_0.out (x5_1 : Int) p6 q6; replace p6 := eq_true p6; replace q6 := eq_true q6; obtain ⟨hy9_, hz9_⟩ := Kd.R_celln (⟨#[]⟩ : ByteArray) HO_0.out (x5_1 : Int) (oD ‹_›) (oD ‹_›); have HP9 := Kd.R_putg HO_0.out (x5_1 : Int) t101) | ((with_reducible refine gate_store (t := 9) (p := 16) rfl ?_); refine store_event (t := 9) (p := 16) (v := ?vo_w10) (w1 := (w8.setCell ⟨go6, (x5_1 : Int).toNat, none⟩ (.string t101))) ?hg ?ho ?hn ?hr ?_; (case ho => rfl); (case hg => rfl); (case hn => rfl); (case hr => first | (go_simp; done) | (go_simp; rfl)); intro w10 hw; have hg : w8.grownBy w10 (some go6) := (by rw [hw]; exact HP9.2); have hp_ : Kd.R Kd.string 9 w10 w0.heap.size (fun k_ => (P0_ k_ ∨ w.heap.size ≤ k_)) (.slice (some ⟨go6, 0, none⟩) x0_1.length co7) y102 := (by rw [hw, Ny102.out]; exact HP9.1); clear HP9; have _ := AM (hp_); have _ := AM ((by rw [hw]; exact bS (HB.out) GB6.out : Below w0.heap.size w0 w10)); have _ := AM (Kept.of_grown (S := (fun k_ => P0_ k_)) hg (tX HK.out) (fun k_ e_ => (HO_0.out.1 k_ e_))); clear HO_0 HB HK; rename_i HO_0 HB HK; clear hg hw hp_))
     go_roundg k1
     case measure => have := HK1.out; omega
     case rel => exact ⟨(y102), (wrap64 (x1_1 + 1)), (wrap64 (x5_1 + 1)), (by first | rfl | (simp; done) | (simp [*]; done)), (by first | rfl | (simp; done) | (simp [*]; done)), H', ⟨by have := HK1.out; omega⟩, ⟨rX HO_0.out⟩, ⟨tX HK.out⟩, ⟨bX HB.out⟩⟩
    rw [if_neg c5] at H; exact absurd H (by simp)
   rw [if_neg c3] at H; have c3b0 := dN c3; clear c3; simp only [Option.some.injEq, Prod.mk.injEq] at H
   obtain ⟨rfl, rfl⟩ := H; obtain ⟨Ao11, co11, eo11⟩ := Kd.R_slice HO_0.out; subst eo11; go_wp2
   go_ret
   exact ⟨by first | rfl | (simp [*, errW_none, errW_some] <;> rfl), rX HO_0.out, bX HB.out, tX HK.out⟩

/-! ### laws_markGroupS: function 66 -/

def laws_markGroupS.l0 : Nat → List (S61) → Int → Int → Option (Int × (List (S61)))
  | 0, _, _, _ => none
  | k + 1, x0, x1, x5 => if x5 < (x0.length : Int) then ((laws_markText.f k x1).bind fun t101 => (if 0 ≤ x5 then ((some (x0.set (x5 : Int).toNat (⟨t101, (rd_T61 x0 x5).f1⟩ : S61) : List (S61))).bind fun y102 => (laws_markGroupS.l0 k (y102.set (x5 : Int).toNat (⟨(rd_T61 y102 x5).f0, wrap64 (x1 + 1)⟩ : S61)) (wrap64 ((wrap64 (x1 + 1)) + 1)) (wrap64 (x5 + 1)))) else (none))) else (some (x1, x0))
def laws_markGroupS.f (k : Nat) (l0 : List (S61)) (a1 : Int) : Option (Int × (List (S61))) := laws_markGroupS.l0 k l0 a1 0
theorem laws_markGroupS.mono_l : ∀ k, (∀ y0 y1 y2, LeO (laws_markGroupS.l0 k y0 y1 y2) (laws_markGroupS.l0 (k + 1) y0 y1 y2))
  | 0 => fun _ _ _ r h => by simp [laws_markGroupS.l0] at h
  | k + 1 => by
    have ih0 := laws_markGroupS.mono_l k
    · intro y0 y1 y2
      unfold laws_markGroupS.l0
      repeat' first | (with_reducible first | exact ih0 _ _ _ | exact laws_markText.mono _ _ | exact oR _ | exact oN _ | refine oI ?_ ?_ | refine oB ?_ fun _ => ?_) | exact ih0 _ _ _ | exact laws_markText.mono _ _ | exact oN _ | refine oI ?_ ?_ | refine oB ?_ fun _ => ?_
theorem laws_markGroupS.mono : ∀ a0 a1 k, LeO (laws_markGroupS.f k a0 a1) (laws_markGroupS.f (k + 1) a0 a1) := by
  intro a0 a1 k; have ih0 := laws_markGroupS.mono_l k; unfold laws_markGroupS.f
  repeat' first | (with_reducible first | exact ih0 _ _ _ | exact laws_markText.mono _ _ | exact oR _ | exact oN _ | refine oI ?_ ?_ | refine oB ?_ fun _ => ?_) | exact ih0 _ _ _ | exact laws_markText.mono _ _ | exact oN _ | refine oI ?_ ?_ | refine oB ?_ fun _ => ?_
set_option maxHeartbeats 60000000 in
set_option maxRecDepth 100000 in
theorem laws_markGroupS.calls (k : Nat) (P0_ : Nat → Prop) (u9000_ : Value) (l0 : List (S61)) (a1 : Int) (r1 : Int) (r2 : List (S61)) (w0 w : World) (hB : Below w0.heap.size w0 w) (ho0 : Kd.R k61 61 w w0.heap.size P0_ u9000_ l0) (h : laws_markGroupS.f k l0 a1 = some (r1, r2)) :
    Calls Try.prog 66 #[u9000_, .int .i64 a1] w fun e w' => e = .returned (.int .i64 r1) ∧ Kd.R k61 61 w' w0.heap.size (fun k_ => (P0_ k_ ∨ w.heap.size ≤ k_)) u9000_ r2 ∧ Below w0.heap.size w0 w' ∧ Kept w w' (fun k_ => P0_ k_) := by
 have HO0 := AM (show Kd.R k61 61 w w0.heap.size (fun k_ => (P0_ k_ ∨ w.heap.size ≤ k_)) u9000_ l0 from Kd.R_mono ho0 (fun k_ hk => (.inl hk))); have HK := AM (Kept.refl w (fun k_ => P0_ k_)); have HW0 := AM hB.size; have HB := AM hB; clear hB; have H : (laws_markGroupS.l0 k l0 a1 0) = some (r1, r2) := h; clear h; have H' := AM H; clear H; go_enter Try.func66, Try.ntmps66
 go_wp2
 go_loopg [1, 5] k (fun kq v1 v5 w' => ∃ (x0_1 : List (S61)) (x1_1 : Int) (x5_1 : Int), v1 = .int .i64 x1_1 ∧ v5 = .int .i64 x5_1 ∧ Aside0 (laws_markGroupS.l0 kq x0_1 x1_1 x5_1 = some (r1, r2)) ∧ Aside0 (kq ≤ k) ∧ Aside0 (Kd.R k61 61 w' w0.heap.size (fun k_ => (P0_ k_ ∨ w.heap.size ≤ k_)) u9000_ x0_1) ∧ Aside0 (Kept w w' (fun k_ => P0_ k_)) ∧ Aside0 (Below w0.heap.size w0 w'))
 case atStart => exact ⟨(l0), (a1), (0), (by first | rfl | (simp; done) | (simp [*]; done)), (by first | rfl | (simp; done) | (simp [*]; done)), H', ⟨Nat.le_refl _⟩, ⟨rX HO0.out⟩, ⟨tX HK.out⟩, ⟨bX HB.out⟩⟩
 case round =>
  clear H'; try clear p2
  obtain ⟨x0_1, x1_1, x5_1, rfl, rfl, HA, HK1, HO_0, HK, HB⟩ := hrel
  cases gk with
  | zero => exact absurd HA.out (by simp [laws_markGroupS.l0])
  | succ k1 =>
   have H := HA.out; clear HA; simp only [laws_markGroupS.l0] at H
   by_cases c3 : x5_1 < (x0_1.length : Int)
   ·
    rw [if_pos c3] at H; have c3b0 := dY c3; clear c3; replace H := oM H; obtain ⟨t101, A40, H⟩ := H; have A4 := AM A40; clear A40; by_cases c5 : 0 ≤ x5_1
    ·
     rw [if_pos c5] at H; have c5b0 := dY c5; clear c5; obtain ⟨y102, hy102⟩ : ∃ y_ : List (S61), y_ = (x0_1.set (x5_1 : Int).toNat (⟨t101, (rd_T61 x0_1 x5_1).f1⟩ : S61)) := ⟨_, rfl⟩; replace H : (laws_markGroupS.l0 k1 (y102.set (x5_1 : Int).toNat (⟨(rd_T61 y102 x5_1).f0, wrap64 (x1_1 + 1)⟩ : S61)) (wrap64 ((wrap64 (x1_1 + 1)) + 1)) (wrap64 (x5_1 + 1))) = some (r1, r2) := by first | (rw [hy102]; with_reducible exact H) | (have H2_ := (Option.bind_some _ _).symm.trans H; rw [hy102]; with_reducible exact H2_) | (have H2_ := (Option.bind_some _ _).symm.trans H; with_reducible exact H2_) | with_reducible exact H | (rw [hy102]; exact H) | exact H
     have Ny102 := AM hy102; clear hy102; obtain ⟨y103, hy103⟩ : ∃ y_ : List (S61), y_ = (y102.set (x5_1 : Int).toNat (⟨(rd_T61 y102 x5_1).f0, wrap64 (x1_1 + 1)⟩ : S61)) := ⟨_, rfl⟩; replace H : (laws_markGroupS.l0 k1 y103 (wrap64 ((wrap64 (x1_1 + 1)) + 1)) (wrap64 (x5_1 + 1))) = some (r1, r2) := by first | (rw [hy103]; with_reducible exact H) | (have H2_ := (Option.bind_some _ _).symm.trans H; rw [hy103]; with_reducible exact H2_) | (have H2_ := (Option.bind_some _ _).symm.trans H; with_reducible exact H2_) | with_reducible exact H | (rw [hy103]; exact H) | exact H
     have Ny103 := AM hy103; clear hy103; have H' := AM H; clear H; obtain ⟨Ao8, co8, eo8⟩ := Kd.R_slice HO_0.out; subst eo8
     go_wp2_with (first | ((with_reducible refine gate_callee (f := 64) rfl ?_); refine gL (some 15) Try.func64 #[.int .i64 x1_1] ?_; (with_reducible refine (laws_markText.calls k1 x1_1 t101 _ A4.out).mono ?_); rintro e w9 ⟨rfl, hb⟩; refine ⟨_, rfl, ?_⟩; have _ := AM (Kd.R_below (rX HO_0.out) hb); have _ := AM (Kept.below (S := (fun k_ => P0_ k_)) (tX HK.out) hb); have _ := AM (below_step (bX HB.out) hb); clear HO_0 HK HB; rename_i HO_0 HK HB; (try clear hb); (try clear hk); have p6 : 0 ≤ (x5_1 : Int) := oD ‹_›; have q6 : (x5_1 : Int) < ((x0_1.length : Int) : Int) := oD ‹_›; obtain ⟨go6, co6, eo6, gb6, gl6, cl6, HG6⟩ := Kd.R_form HO_0.out (by omega); (first | cases eo6 | (injection eo6 with ea_ en_ ec_; (first | subst ea_ | (injection ea_ with ea_; subst ea_)); subst ec_; clear en_)); have GB6 := AM gb6; have GG6 := AM HG6; clear gb6 gl6 HG6; have HMgo6 := AM (show (P0_ go6 ∨ w.heap.size ≤ go6) from (HO_0.out.1 _ rfl)); obtain ⟨ce6, hcl6, hM6, hcc6, hfr6⟩ := Kd.R_elem HO_0.out z61 (x5_1 : Int) p6 q6; obtain rfl := k61_openM hM6; have hx6_0 : w9.cell? ⟨go6, (x5_1 : Int).toNat * 2, none⟩ = some (.string ((rd_T61 x0_1 x5_1).f0)) := hcc6 0 _ rfl; have hx6_1 : w9.cell? ⟨go6, (x5_1 : Int).toNat * 2 + 1, none⟩ = some (.int .i64 ((rd_T61 x0_1 x5_1).f1)) := hcc6 1 _ rfl; have hf6_0 : w9.frozen? ⟨go6, (x5_1 : Int).toNat * 2, none⟩ = false := hfr6 0; have hf6_1 : w9.frozen? ⟨go6, (x5_1 : Int).toNat * 2 + 1, none⟩ = false := hfr6 1; clear hcl6 hcc6 hfr6 hM6; replace p6 := eq_true p6; replace q6 := eq_true q6; have HX10 := AM (show Kd.R k61 61 w9 w0.heap.size (fun k_ => (P0_ k_ ∨ w.heap.size ≤ k_)) (.slice (some ⟨go6, 0, none⟩) x0_1.length co8) x0_1 from (rX HO_0.out)); obtain ⟨ce10, hcl10, hM10, hcc10, hfr10⟩ := Kd.R_elem HX10.out z61 (x5_1 : Int) (oD ‹_›) (by have h_ : (x5_1 : Int) < ((x0_1.length : Int) : Int) := oD ‹_›; first | exact h_ | (have e_ := (Kd.R_reads' HO_0.out).1; omega) | simpa using h_); obtain rfl := k61_openM hM10; have HP10 := Kd.R_seg HX10.out (x5_1 : Int) (oD ‹_›) (by have h_ : (x5_1 : Int) < ((x0_1.length : Int) : Int) := oD ‹_›; first | exact h_ | (have e_ := (Kd.R_reads' HO_0.out).1; omega) | simpa using h_) (seg := [.string t101]) (j := 0) hcl10 hcc10 (show 1 ≤ 2 from by decide) (x' := (⟨t101, (rd_T61 x0_1 x5_1).f1⟩ : S61)) (k61_mkM _ _ _ (⟨t101, (rd_T61 x0_1 x5_1).f1⟩ : S61) ) (fun _ hk => hk); have hx10_0 := hcc10 0 _ rfl; (try simp only [show (k61).sz = 2 from rfl, Nat.mul_one, Nat.add_zero] at hx10_0); have hf10_0 := hfr10 0; (try simp only [show (k61).sz = 2 from rfl, Nat.mul_one, Nat.add_zero] at hf10_0); clear hcl10 hcc10 hfr10 hM10) | ((with_reducible refine gate_store (t := 9) (p := 17) rfl ?_); refine store_event (t := 9) (p := 17) (v := ?vo_w11) (w1 := (w9.setCell ⟨go6, (x5_1 : Int).toNat * 2, none⟩ (.string t101))) ?hg ?ho ?hn ?hr ?_; (case ho => rfl); (case hg => rfl); (case hn => rfl); (case hr => first | (go_simp; done) | (go_simp; rfl)); intro w11 hw; have hg : w9.grownBy w11 (some go6) := (by rw [hw]; exact HP10.2); have hp_ : Kd.R k61 61 w11 w0.heap.size (fun k_ => (P0_ k_ ∨ w.heap.size ≤ k_)) (.slice (some ⟨go6, 0, none⟩) x0_1.length co8) y102 := (by rw [hw, Ny102.out]; exact HP10.1); clear HP10; have _ := AM (hp_); have _ := AM ((by rw [hw]; exact bS (HB.out) GB6.out : Below w0.heap.size w0 w11)); have _ := AM (Kept.of_grown (S := (fun k_ => P0_ k_)) hg (tX HK.out) (fun k_ e_ => (HO_0.out.1 k_ e_))); clear HO_0 HB HK; rename_i HO_0 HB HK; clear hg hw hp_; have p7 : 0 ≤ (x5_1 : Int) := oD ‹_›; have q7 : (x5_1 : Int) < ((x0_1.length : Int) : Int) := oD ‹_›; obtain ⟨ce7, hcl7, hM7, hcc7, hfr7⟩ := Kd.R_elem HO_0.out z61 (x5_1 : Int) p7 q7; obtain rfl := k61_openM hM7; have hx7_0 : w11.cell? ⟨go6, (x5_1 : Int).toNat * 2, none⟩ = some (.string ((rd_T61 y102 x5_1).f0)) := hcc7 0 _ rfl; have hx7_1 : w11.cell? ⟨go6, (x5_1 : Int).toNat * 2 + 1, none⟩ = some (.int .i64 ((rd_T61 y102 x5_1).f1)) := hcc7 1 _ rfl; have hf7_0 : w11.frozen? ⟨go6, (x5_1 : Int).toNat * 2, none⟩ = false := hfr7 0; have hf7_1 : w11.frozen? ⟨go6, (x5_1 : Int).toNat * 2 + 1, none⟩ = false := hfr7 1; clear hcl7 hcc7 hfr7 hM7; replace p7 := eq_true p7; replace q7 := eq_true q7; have HX12 := AM (show Kd.R k61 61 w11 w0.heap.size (fun k_ => (P0_ k_ ∨ w.heap.size ≤ k_)) (.slice (some ⟨go6, 0, none⟩) x0_1.length co8) y102 from (rX HO_0.out)); obtain ⟨ce12, hcl12, hM12, hcc12, hfr12⟩ := Kd.R_elem HX12.out z61 (x5_1 : Int) (oD ‹_›) (by have h_ : (x5_1 : Int) < ((x0_1.length : Int) : Int) := oD ‹_›; first | exact h_ | (have e_ := (Kd.R_reads' HO_0.out).1; omega) | simpa using h_); obtain rfl := k61_openM hM12; have HP12 := Kd.R_seg HX12.out (x5_1 : Int) (oD ‹_›) (by have h_ : (x5_1 : Int) < ((x0_1.length : Int) : Int) := oD ‹_›; first | exact h_ | (have e_ := (Kd.R_reads' HO_0.out).1; omega) | simpa using h_) (seg := [.int .i64 (wrap64 (x1_1 + 1))]) (j := 1) hcl12 hcc12 (show 2 ≤ 2 from by decide) (x' := (⟨(rd_T61 y102 x5_1).f0, wrap64 (x1_1 + 1)⟩ : S61)) (k61_mkM _ _ _ (⟨(rd_T61 y102 x5_1).f0, wrap64 (x1_1 + 1)⟩ : S61) ) (fun _ hk => hk); have hx12_1 := hcc12 1 _ rfl; (try simp only [show (k61).sz = 2 from rfl, Nat.mul_one, Nat.add_zero] at hx12_1); have hf12_1 := hfr12 1; (try simp only [show (k61).sz = 2 from rfl, Nat.mul_one, Nat.add_zero] at hf12_1); clear hcl12 hcc12 hfr12 hM12) | ((with_reducible refine gate_store (t := 2) (p := 24) rfl ?_); refine store_event (t := 2) (p := 24) (v := ?vo_w13) (w1 := (w11.setCell ⟨go6, (x5_1 : Int).toNat * 2 + 1, none⟩ (.int .i64 (wrap64 (x1_1 + 1))))) ?hg ?ho ?hn ?hr ?_; (case ho => rfl); (case hg => rfl); (case hn => rfl); (case hr => first | (go_simp; done) | (go_simp; rfl)); intro w13 hw; have hg : w11.grownBy w13 (some go6) := (by rw [hw]; exact HP12.2); have hp_ : Kd.R k61 61 w13 w0.heap.size (fun k_ => (P0_ k_ ∨ w.heap.size ≤ k_)) (.slice (some ⟨go6, 0, none⟩) x0_1.length co8) y103 := (by rw [hw, Ny103.out]; exact HP12.1); clear HP12; have _ := AM (hp_); have _ := AM ((by rw [hw]; exact bS (HB.out) GB6.out : Below w0.heap.size w0 w13)); have _ := AM (Kept.of_grown (S := (fun k_ => P0_ k_)) hg (tX HK.out) (fun k_ e_ => (HO_0.out.1 k_ e_))); clear HO_0 HB HK; rename_i HO_0 HB HK; clear hg hw hp_))
     go_roundg k1
     case measure => have := HK1.out; omega
     case rel => exact ⟨(y103), (wrap64 ((wrap64 (x1_1 + 1)) + 1)), (wrap64 (x5_1 + 1)), (by first | rfl | (simp; done) | (simp [*]; done)), (by first | rfl | (simp; done) | (simp [*]; done)), H', ⟨by have := HK1.out; omega⟩, ⟨rX HO_0.out⟩, ⟨tX HK.out⟩, ⟨bX HB.out⟩⟩
    rw [if_neg c5] at H; exact absurd H (by simp)
   rw [if_neg c3] at H; have c3b0 := dN c3; clear c3; simp only [Option.some.injEq, Prod.mk.injEq] at H
   obtain ⟨rfl, rfl⟩ := H; obtain ⟨Ao14, co14, eo14⟩ := Kd.R_slice HO_0.out; subst eo14; go_wp2
   go_ret
   exact ⟨by first | rfl | (simp [*, errW_none, errW_some] <;> rfl), rX HO_0.out, bX HB.out, tX HK.out⟩

end Go.Proofs.Ytcaildjhnkedfaa.Q
