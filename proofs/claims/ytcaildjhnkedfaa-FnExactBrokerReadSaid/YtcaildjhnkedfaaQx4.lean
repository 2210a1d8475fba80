/- Printed by wip/mp.py: functions as plain Lean functions, and their calls. -/
import Derived.Test.YtcaildjhnkedfaaQx0
import Derived.Test.YtcaildjhnkedfaaQx1
namespace Go.Proofs.Ytcaildjhnkedfaa.Q
open Go.RowKit Go.Proofs.Ytcaildjhnkedfaa.HB Go.Proofs.YtcaildjhnkedfaaW.PrintWords Go.Proofs.YtcaildjhnkedfaaW.PrintLast Go.Proofs.YtcaildjhnkedfaaW.PrintMore
attribute [local go_sem] max2_int min2_int max_two min_two max_three min_three max_four min_four   -- for this text's walks alone
set_option linter.unusedVariables false
set_option linter.unusedSimpArgs false

/-! ### spec_GetNum: function 33 -/

mutual
def spec_GetNum.l0 : Nat → ByteArray → Int → Int → Int → Option (Int × Int × Int)
  | 0, _, _, _, _ => none
  | k + 1, x0, x1, x5, x6 => if x6 < 10 then (if x1 ≥ (wrap64 ((x0.size : Int) - x6)) then (some (0, 0, 4)) else (if 0 ≤ (wrap64 (x1 + x6)) then (if (wrap64 (x1 + x6)) < (x0.size : Int) then (if x6 = 9 then (spec_GetNum.j1 k x0 x1 x5 x6 (IntKind.u64.wrap (bt x0 (wrap64 (x1 + x6)))) (decide ((IntKind.u64.wrap (bt x0 (wrap64 (x1 + x6)))) > 1))) else (spec_GetNum.j1 k x0 x1 x5 x6 (IntKind.u64.wrap (bt x0 (wrap64 (x1 + x6)))) false)) else (none)) else (none))) else (some (0, 0, 3))
def spec_GetNum.j1 : Nat → ByteArray → Int → Int → Int → Int → Bool → Option (Int × Int × Int)
  | 0, _, _, _, _, _, _ => none
  | k + 1, x0, x1, x5, x6, x7, x38 => if x38 = true then (some (0, 0, 3)) else (if 0 ≤ (IntKind.u64.wrap (wrap64 (7 * x6))) then (if x7 < 128 then (if x7 = 0 then (spec_GetNum.j2 k x1 (IntKind.u64.wrap (x5 + (shl .u64 (Int.tmod x7 128) (IntKind.u64.wrap (wrap64 (7 * x6)))))) x6 (decide (x6 > 0))) else (spec_GetNum.j2 k x1 (IntKind.u64.wrap (x5 + (shl .u64 (Int.tmod x7 128) (IntKind.u64.wrap (wrap64 (7 * x6)))))) x6 false)) else (spec_GetNum.l0 k x0 x1 (IntKind.u64.wrap (x5 + (shl .u64 (Int.tmod x7 128) (IntKind.u64.wrap (wrap64 (7 * x6)))))) (wrap64 (x6 + 1)))) else (none))
def spec_GetNum.j2 : Nat → Int → Int → Int → Bool → Option (Int × Int × Int)
  | 0, _, _, _, _ => none
  | k + 1, x1, x5, x6, x55 => if x55 = true then (some (0, 0, 3)) else (if (Int.tmod x5 2) = 1 then (some (wrap64 ((wrap64 (-(wrap64 (IntKind.u64.wrap (Int.tdiv x5 2))))) - 1), wrap64 ((wrap64 (x1 + x6)) + 1), 0)) else (some (wrap64 (IntKind.u64.wrap (Int.tdiv x5 2)), wrap64 ((wrap64 (x1 + x6)) + 1), 0)))
end
def spec_GetNum.f (k : Nat) (a0 : ByteArray) (a1 : Int) : Option (Int × Int × Int) := if (a0.size : Int) > 20000 then (some (0, 0, 2)) else (if a1 < 0 then (some (0, 0, 1)) else (spec_GetNum.l0 k a0 a1 0 0))
theorem spec_GetNum.mono_l : ∀ k, (∀ y0 y1 y2 y3, LeO (spec_GetNum.l0 k y0 y1 y2 y3) (spec_GetNum.l0 (k + 1) y0 y1 y2 y3)) ∧ (∀ y0 y1 y2 y3 y4 y5, LeO (spec_GetNum.j1 k y0 y1 y2 y3 y4 y5) (spec_GetNum.j1 (k + 1) y0 y1 y2 y3 y4 y5)) ∧ (∀ y0 y1 y2 y3, LeO (spec_GetNum.j2 k y0 y1 y2 y3) (spec_GetNum.j2 (k + 1) y0 y1 y2 y3))
  | 0 => ⟨fun _ _ _ _ r h => by simp [spec_GetNum.l0] at h, fun _ _ _ _ _ _ r h => by simp [spec_GetNum.j1] at h, fun _ _ _ _ r h => by simp [spec_GetNum.j2] at h⟩
  | k + 1 => by
    obtain ⟨ih0, ih1, ih2⟩ := spec_GetNum.mono_l k; refine ⟨?_, ?_, ?_⟩
    · intro y0 y1 y2 y3
      unfold spec_GetNum.l0
      repeat' first | (with_reducible first | exact ih0 _ _ _ _ | exact ih1 _ _ _ _ _ _ | exact ih2 _ _ _ _ | exact oR _ | exact oN _ | refine oI ?_ ?_ | refine oB ?_ fun _ => ?_) | exact ih0 _ _ _ _ | exact ih1 _ _ _ _ _ _ | exact ih2 _ _ _ _ | exact oN _ | refine oI ?_ ?_ | refine oB ?_ fun _ => ?_
    · intro y0 y1 y2 y3 y4 y5
      unfold spec_GetNum.j1
      repeat' first | (with_reducible first | exact ih0 _ _ _ _ | exact ih1 _ _ _ _ _ _ | exact ih2 _ _ _ _ | exact oR _ | exact oN _ | refine oI ?_ ?_ | refine oB ?_ fun _ => ?_) | exact ih0 _ _ _ _ | exact ih1 _ _ _ _ _ _ | exact ih2 _ _ _ _ | exact oN _ | refine oI ?_ ?_ | refine oB ?_ fun _ => ?_
    · intro y0 y1 y2 y3
      unfold spec_GetNum.j2
      repeat' first | (with_reducible first | exact ih0 _ _ _ _ | exact ih1 _ _ _ _ _ _ | exact ih2 _ _ _ _ | exact oR _ | exact oN _ | refine oI ?_ ?_ | refine oB ?_ fun _ => ?_) | exact ih0 _ _ _ _ | exact ih1 _ _ _ _ _ _ | exact ih2 _ _ _ _ | exact oN _ | refine oI ?_ ?_ | refine oB ?_ fun _ => ?_
theorem spec_GetNum.mono : ∀ a0 a1 k, LeO (spec_GetNum.f k a0 a1) (spec_GetNum.f (k + 1) a0 a1) := by
  intro a0 a1 k; obtain ⟨ih0, ih1, ih2⟩ := spec_GetNum.mono_l k; unfold spec_GetNum.f
  repeat' first | (with_reducible first | exact ih0 _ _ _ _ | exact ih1 _ _ _ _ _ _ | exact ih2 _ _ _ _ | exact oR _ | exact oN _ | refine oI ?_ ?_ | refine oB ?_ fun _ => ?_) | exact ih0 _ _ _ _ | exact ih1 _ _ _ _ _ _ | exact ih2 _ _ _ _ | exact oN _ | refine oI ?_ ?_ | refine oB ?_ fun _ => ?_
set_option maxHeartbeats 60000000 in
set_option maxRecDepth 100000 in
theorem spec_GetNum.calls (k : Nat) (a0 : ByteArray) (a1 : Int) (r1 : Int) (r2 : Int) (r3 : Int) (w : World) (h : spec_GetNum.f k a0 a1 = some (r1, r2, r3)) :
    Calls Try.prog 33 #[.string a0, .int .i64 a1] w fun e w' => e = .returned (.agg #[.int .i64 r1, .int .i64 r2, .int .i64 r3]) ∧ Below w.heap.size w w' := by
 have hu63 := Try.underlying63; have HB := AM (Below.refl w.heap.size w); have H : (if (a0.size : Int) > 20000 then (some (0, 0, 2)) else (if a1 < 0 then (some (0, 0, 1)) else (spec_GetNum.l0 k a0 a1 0 0))) = some (r1, r2, r3) := h; clear h; by_cases c3 : (a0.size : Int) > 20000
 ·
  rw [if_pos c3] at H; have c3b0 : decide (20000 < (a0.size : Int)) = true := dY c3; have c3b1 : decide (20000 < a0.size) = true := dY (by omega); clear c3; simp only [Option.some.injEq, Prod.mk.injEq] at H
  obtain ⟨rfl, rfl, rfl⟩ := H; go_enter Try.func33, Try.ntmps33
  go_wp2_with (first | ((with_reducible refine gate_dst (N := 4) rfl ?_); refine bE (cs := #[.int .i64 0, .int .i64 0, .int .i64 0]) (t := 63) ?_; intro gb101 hg w4 hbox hb; have _ := AM (below_step (bX HB.out) hb); have _ := AM (hbox); have n2_ := AM (gZ hg (bZ (bX HB.out))); clear HB; rename_i HB BK101; have GW101 := n2_; have GE101 := n2_; clear n2_; clear hb hbox hg; have hcz5 := q3 BK101.out; have hfz5 := fZ BK101.out))
  refine bodyPost_ret (results_cell_row rfl _ _ gb101 63 #[.int .i64 0, .int .i64 0, .int .i64 2] (0, 0) _ rfl (by refine kP (cs := #[.int .i64 0, .int .i64 0, .int .i64 0]) 2 ?_; refine kP (cs := #[.int .i64 0, .int .i64 0, .int .i64 0]) 1 ?_; refine kP (cs := #[.int .i64 0, .int .i64 0, .int .i64 0]) 0 ?_; exact kX BK101.out) Try.underlying63 rfl (by kernel_rfl)) rfl ?_; exact ⟨by first | rfl | (simp [*, errW_none, errW_some] <;> rfl), bX HB.out⟩
 rw [if_neg c3] at H; have c3b0 : decide (20000 < (a0.size : Int)) = false := dN c3; have c3b1 : decide (20000 < a0.size) = false := dN (by omega); clear c3; by_cases c6 : a1 < 0
 ·
  rw [if_pos c6] at H; have c6b0 := dY c6; clear c6; simp only [Option.some.injEq, Prod.mk.injEq] at H
  obtain ⟨rfl, rfl, rfl⟩ := H; go_enter Try.func33, Try.ntmps33
  go_wp2_with (first | ((with_reducible refine gate_dst (N := 4) rfl ?_); refine bE (cs := #[.int .i64 0, .int .i64 0, .int .i64 0]) (t := 63) ?_; intro gb101 hg w7 hbox hb; have _ := AM (below_step (bX HB.out) hb); have _ := AM (hbox); have n2_ := AM (gZ hg (bZ (bX HB.out))); clear HB; rename_i HB BK101; have GW101 := n2_; have GE101 := n2_; clear n2_; clear hb hbox hg; have hcz8 := q3 BK101.out; have hfz8 := fZ BK101.out))
  refine bodyPost_ret (results_cell_row rfl _ _ gb101 63 #[.int .i64 0, .int .i64 0, .int .i64 1] (0, 0) _ rfl (by refine kP (cs := #[.int .i64 0, .int .i64 0, .int .i64 0]) 2 ?_; refine kP (cs := #[.int .i64 0, .int .i64 0, .int .i64 0]) 1 ?_; refine kP (cs := #[.int .i64 0, .int .i64 0, .int .i64 0]) 0 ?_; exact kX BK101.out) Try.underlying63 rfl (by kernel_rfl)) rfl ?_; exact ⟨by first | rfl | (simp [*, errW_none, errW_some] <;> rfl), bX HB.out⟩
 rw [if_neg c6] at H; have c6b0 := dN c6; clear c6; have H' := AM H; clear H; go_enter Try.func33, Try.ntmps33
 go_wp2_with (first | ((with_reducible refine gate_dst (N := 4) rfl ?_); refine bE (cs := #[.int .i64 0, .int .i64 0, .int .i64 0]) (t := 63) ?_; intro gb101 hg w9 hbox hb; have _ := AM (below_step (bX HB.out) hb); have _ := AM (hbox); have n2_ := AM (gZ hg (bZ (bX HB.out))); clear HB; rename_i HB BK101; have GW101 := n2_; have GE101 := n2_; clear n2_; clear hb hbox hg))
 go_loopg [5, 6] k (fun kq v5 v6 w' => ∃ (x5_1 : Int) (x6_1 : Int) (x102000_1 : Int) (x102001_1 : Int) (x102002_1 : Int), v5 = .int .u64 x5_1 ∧ v6 = .int .i64 x6_1 ∧ Aside0 (spec_GetNum.l0 kq a0 a1 x5_1 x6_1 = some (r1, r2, r3)) ∧ Aside0 (kq ≤ k) ∧ Aside0 (w'.heap[gb101]? = some (.cells #[.int .i64 x102000_1, .int .i64 x102001_1, .int .i64 x102002_1] 63 (0, 0))) ∧ Aside0 (Below w.heap.size w w'))
 case atStart => exact ⟨(0), (0), (0), (0), (0), (by first | rfl | (simp; done) | (simp [*]; done)), (by first | rfl | (simp; done) | (simp [*]; done)), H', ⟨Nat.le_refl _⟩, ⟨kX BK101.out⟩, ⟨bX HB.out⟩⟩
 case round =>
  clear H'; (try clear p2); (try clear c3); (try clear c3b0); (try clear c3b1); (try clear c6); (try clear c6b0); (try clear hcz5); (try clear hcz8); (try clear hfz5); (try clear hfz8); obtain ⟨x5_1, x6_1, x102000_1, x102001_1, x102002_1, rfl, rfl, HA, HK1, BK101, HB⟩ := hrel
  cases gk with
  | zero => exact absurd HA.out (by simp [spec_GetNum.l0])
  | succ k1 =>
   have H := HA.out; clear HA; simp only [spec_GetNum.l0] at H
   by_cases c10 : x6_1 < 10
   ·
    rw [if_pos c10] at H; have c10b0 := dY c10; clear c10; by_cases c11 : a1 ≥ (wrap64 ((a0.size : Int) - x6_1))
    ·
     rw [if_pos c11] at H; have c11b0 : decide ((wrap64 ((a0.size : Int) - x6_1)) ≤ a1) = true := dY c11; clear c11; simp only [Option.some.injEq, Prod.mk.injEq] at H
     obtain ⟨rfl, rfl, rfl⟩ := H; have hcz12 := q3 BK101.out; have hfz12 := fZ BK101.out; go_wp2
     refine bodyPost_ret (results_cell_row rfl _ _ gb101 63 #[.int .i64 0, .int .i64 0, .int .i64 4] (0, 0) _ rfl (by refine kP (cs := #[.int .i64 0, .int .i64 0, .int .i64 x102002_1]) 2 ?_; refine kP (cs := #[.int .i64 0, .int .i64 x102001_1, .int .i64 x102002_1]) 1 ?_; refine kP (cs := #[.int .i64 x102000_1, .int .i64 x102001_1, .int .i64 x102002_1]) 0 ?_; exact kX BK101.out) Try.underlying63 rfl (by kernel_rfl)) rfl ?_; exact ⟨by first | rfl | (simp [*, errW_none, errW_some] <;> rfl), bX HB.out⟩
    rw [if_neg c11] at H; have c11b0 : decide ((wrap64 ((a0.size : Int) - x6_1)) ≤ a1) = false := dN c11; clear c11; obtain ⟨ji13, hji13⟩ : ∃ j_ : Int, (wrap64 (a1 + x6_1)) = j_ := ⟨_, rfl⟩; replace H : (if 0 ≤ (ji13) then (if (ji13) < (a0.size : Int) then (if x6_1 = 9 then (spec_GetNum.j1 k1 a0 a1 x5_1 x6_1 (IntKind.u64.wrap (bt a0 (ji13))) (decide ((IntKind.u64.wrap (bt a0 (ji13))) > 1))) else (spec_GetNum.j1 k1 a0 a1 x5_1 x6_1 (IntKind.u64.wrap (bt a0 (ji13))) false)) else (none)) else (none)) = some (r1, r2, r3) := by first | (rw [hji13] at H; exact H) | (simp only [hji13] at H ⊢; exact H)
    have hji13w : (IntKind.i64.wrap (a1 + x6_1)) = ji13 := (i64_w _).trans hji13; by_cases c14 : 0 ≤ (ji13)
    ·
     rw [if_pos c14] at H; have c14b0 := dY c14; clear c14; by_cases c15 : (ji13) < (a0.size : Int)
     ·
      rw [if_pos c15] at H; have c15b0 := dY c15; clear c15; have HC17 := AM H; clear H; have p16 : 0 ≤ ((ji13) : Int) := oD ‹_›; have q16 : (ji13) < (a0.size : Int) := oD ‹_›; have hx16 := bt_at a0 (ji13); replace p16 := eq_true p16; replace q16 := eq_true q16; go_upto_region 12 with (fail)
      go_cut [38] (fun v38 wc => ∃ (kq : Nat) (x38_16 : Bool), v38 = .bool x38_16 ∧ Aside0 (spec_GetNum.j1 kq a0 a1 x5_1 x6_1 (IntKind.u64.wrap (bt a0 (ji13))) x38_16 = some (r1, r2, r3)) ∧ Aside0 (kq ≤ k1) ∧ Aside0 (wc.heap[gb101]? = some (.cells #[.int .i64 x102000_1, .int .i64 x102001_1, .int .i64 x102002_1] 63 (0, 0))) ∧ Aside0 (Below w.heap.size w wc))
      case first =>
       have H := HC17.out; clear HC17; by_cases c18 : x6_1 = 9
       ·
        rw [if_pos c18] at H; have c18b0 : (x6_1 == 9) = true := beq_iff_eq.mpr c18; have c18b1 : (x6_1 != 9) = false := bne_eq_false_iff_eq.mpr c18; clear c18
        (first | rw [c18b0] | (simp only [i64_w, i32_w]; rw [c18b0]) | skip)
        have H' := AM H; clear H; go_wp2
        go_meet
        case rel => exact ⟨_, (decide ((IntKind.u64.wrap (bt a0 (ji13))) > 1)), (by first | rfl | (simp; done) | (simp only [← hji13] <;> (first | rfl | simp)) | (simp [*]; done)), H', ⟨by have := HK1.out; first | omega | exact Nat.le_refl _⟩, ⟨kX BK101.out⟩, ⟨bX HB.out⟩⟩
       rw [if_neg c18] at H; have c18b0 : (x6_1 == 9) = false := beq_eq_false_iff_ne.mpr c18; have c18b1 : (x6_1 != 9) = true := bne_iff_ne.mpr c18
       (first | rw [c18b0] | (simp only [i64_w, i32_w]; rw [c18b0]) | skip)
       have H' := AM H; clear H; go_wp2
       go_meet
       case rel => exact ⟨_, (false), (by first | rfl | (simp; done) | (simp [*]; done)), H', ⟨by have := HK1.out; first | omega | exact Nat.le_refl _⟩, ⟨kX BK101.out⟩, ⟨bX HB.out⟩⟩
      case rest =>
       clear HC17; (try clear c1); (try clear p1); (try clear q1); (try clear hx1); (try clear p2); (try clear c3); (try clear c3b0); (try clear c3b1); (try clear c6); (try clear c6b0); (try clear p6); (try clear c10); (try clear c10b0); (try clear c11); (try clear c11b0); (try clear c14); (try clear c14b0); (try clear c15); (try clear c15b0); (try clear p16); (try clear q16); (try clear hx16); (try clear c18); (try clear c18b0); (try clear c18b1); (try clear hcz12); (try clear hcz5); (try clear hcz8); (try clear hfz12); (try clear hfz5); (try clear hfz8); obtain ⟨kq, x38_16, rfl, HA, HJ16, BK101, HB⟩ := hcut
       cases kq with
       | zero => exact absurd HA.out (by simp [spec_GetNum.j1])
       | succ kj16 =>
        have H := HA.out; clear HA; simp only [spec_GetNum.j1] at H
        by_cases c19 : x38_16 = true
        ·
         subst c19; rw [if_pos rfl] at H; simp only [Option.some.injEq, Prod.mk.injEq] at H
         obtain ⟨rfl, rfl, rfl⟩ := H; have hcz20 := q3 BK101.out; have hfz20 := fZ BK101.out; go_wp2
         refine bodyPost_ret (results_cell_row rfl _ _ gb101 63 #[.int .i64 0, .int .i64 0, .int .i64 3] (0, 0) _ rfl (by refine kP (cs := #[.int .i64 0, .int .i64 0, .int .i64 x102002_1]) 2 ?_; refine kP (cs := #[.int .i64 0, .int .i64 x102001_1, .int .i64 x102002_1]) 1 ?_; refine kP (cs := #[.int .i64 x102000_1, .int .i64 x102001_1, .int .i64 x102002_1]) 0 ?_; exact kX BK101.out) Try.underlying63 rfl (by kernel_rfl)) rfl ?_; exact ⟨by first | rfl | (simp [errW_none, errW_some] <;> rfl) | (simp only [← hji13]; first | rfl | (simp [errW_none, errW_some] <;> rfl)) | (simp [*, errW_none, errW_some] <;> rfl), bX HB.out⟩
        replace c19 := oE c19; subst c19; rw [if_neg nft] at H; obtain ⟨ji21, hji21⟩ : ∃ j_ : Int, (IntKind.u64.wrap (wrap64 (7 * x6_1))) = j_ := ⟨_, rfl⟩; replace H : (if 0 ≤ (ji21) then (if (IntKind.u64.wrap (bt a0 (ji13))) < 128 then (if (IntKind.u64.wrap (bt a0 (ji13))) = 0 then (spec_GetNum.j2 kj16 a1 (IntKind.u64.wrap (x5_1 + (shl .u64 (Int.tmod (IntKind.u64.wrap (bt a0 (ji13))) 128) (ji21)))) x6_1 (decide (x6_1 > 0))) else (spec_GetNum.j2 kj16 a1 (IntKind.u64.wrap (x5_1 + (shl .u64 (Int.tmod (IntKind.u64.wrap (bt a0 (ji13))) 128) (ji21)))) x6_1 false)) else (spec_GetNum.l0 kj16 a0 a1 (IntKind.u64.wrap (x5_1 + (shl .u64 (Int.tmod (IntKind.u64.wrap (bt a0 (ji13))) 128) (ji21)))) (wrap64 (x6_1 + 1)))) else (none)) = some (r1, r2, r3) := by first | (rw [hji21] at H; exact H) | (simp only [hji21] at H ⊢; exact H)
        by_cases c22 : 0 ≤ (ji21)
        ·
         rw [if_pos c22] at H; have c22b0 := eq_true c22; have c22b1 := dY c22; clear c22; obtain ⟨ji23, hji23⟩ : ∃ j_ : Int, (shl .u64 (Int.tmod (IntKind.u64.wrap (bt a0 (ji13))) 128) (ji21)) = j_ := ⟨_, rfl⟩; replace H : (if (IntKind.u64.wrap (bt a0 (ji13))) < 128 then (if (IntKind.u64.wrap (bt a0 (ji13))) = 0 then (spec_GetNum.j2 kj16 a1 (IntKind.u64.wrap (x5_1 + (ji23))) x6_1 (decide (x6_1 > 0))) else (spec_GetNum.j2 kj16 a1 (IntKind.u64.wrap (x5_1 + (ji23))) x6_1 false)) else (spec_GetNum.l0 kj16 a0 a1 (IntKind.u64.wrap (x5_1 + (ji23))) (wrap64 (x6_1 + 1)))) = some (r1, r2, r3) := by first | (rw [hji23] at H; exact H) | (simp only [hji23] at H ⊢; exact H)
         have hji23_ : (IntKind.u64.wrap ((Int.tmod (IntKind.u64.wrap (bt a0 (ji13))) 128) * 2 ^ min (ji21).toNat 64)) = ji23 := hji23; have hji23z : (ji21) ≤ 64 → (IntKind.u64.wrap ((Int.tmod (IntKind.u64.wrap (bt a0 (ji13))) 128) * 2 ^ (ji21).toNat)) = ji23 := shl_small hji23; by_cases c24 : (IntKind.u64.wrap (bt a0 (ji13))) < 128
         ·
          rw [if_pos c24] at H; have c24b0 := dY c24; clear c24; have HC25 := AM H; clear H; go_upto_region 16 with (fail)
          go_cut [55] (fun v55 wc => ∃ (kq : Nat) (x55_24 : Bool), v55 = .bool x55_24 ∧ Aside0 (spec_GetNum.j2 kq a1 (IntKind.u64.wrap (x5_1 + (ji23))) x6_1 x55_24 = some (r1, r2, r3)) ∧ Aside0 (kq ≤ kj16) ∧ Aside0 (wc.heap[gb101]? = some (.cells #[.int .i64 x102000_1, .int .i64 x102001_1, .int .i64 x102002_1] 63 (0, 0))) ∧ Aside0 (Below w.heap.size w wc))
          case first =>
           have H := HC25.out; clear HC25; by_cases c26 : (IntKind.u64.wrap (bt a0 (ji13))) = 0
           ·
            rw [if_pos c26] at H; have c26b0 : ((IntKind.u64.wrap (bt a0 (ji13))) == 0) = true := beq_iff_eq.mpr c26; have c26b1 : ((IntKind.u64.wrap (bt a0 (ji13))) != 0) = false := bne_eq_false_iff_eq.mpr c26; clear c26
            (first | rw [c26b0] | (simp only [i64_w, i32_w]; rw [c26b0]) | skip)
            have H' := AM H; clear H; go_wp2
            go_meet
            case rel => exact ⟨_, (decide (x6_1 > 0)), (by first | rfl | (simp; done) | (simp [*]; done)), H', ⟨by have := HK1.out; have := HJ16.out; first | omega | exact Nat.le_refl _⟩, ⟨kX BK101.out⟩, ⟨bX HB.out⟩⟩
           rw [if_neg c26] at H; have c26b0 : ((IntKind.u64.wrap (bt a0 (ji13))) == 0) = false := beq_eq_false_iff_ne.mpr c26; have c26b1 : ((IntKind.u64.wrap (bt a0 (ji13))) != 0) = true := bne_iff_ne.mpr c26
           (first | rw [c26b0] | (simp only [i64_w, i32_w]; rw [c26b0]) | skip)
           have H' := AM H; clear H; go_wp2
           go_meet
           case rel => exact ⟨_, (false), (by first | rfl | (simp; done) | (simp [*]; done)), H', ⟨by have := HK1.out; have := HJ16.out; first | omega | exact Nat.le_refl _⟩, ⟨kX BK101.out⟩, ⟨bX HB.out⟩⟩
          case rest =>
           clear HC25; (try clear c1); (try clear p1); (try clear q1); (try clear hx1); (try clear c2); (try clear p2); (try clear c3); (try clear c3b0); (try clear c3b1); (try clear c6); (try clear c6b0); (try clear p6); (try clear c10); (try clear c10b0); (try clear c11); (try clear c11b0); (try clear c14); (try clear c14b0); (try clear c15); (try clear c15b0); (try clear p16); (try clear q16); (try clear hx16); (try clear c18); (try clear c18b0); (try clear c18b1); (try clear c19); (try clear c22); (try clear c22b0); (try clear c22b1); (try clear c24); (try clear c24b0); (try clear c26); (try clear c26b0); (try clear c26b1); (try clear hcz12); (try clear hcz20); (try clear hcz5); (try clear hcz8); (try clear hfz12); (try clear hfz20); (try clear hfz5); (try clear hfz8); obtain ⟨kq, x55_24, rfl, HA, HJ24, BK101, HB⟩ := hcut
           cases kq with
           | zero => exact absurd HA.out (by simp [spec_GetNum.j2])
           | succ kj24 =>
            have H := HA.out; clear HA; simp only [spec_GetNum.j2] at H
            by_cases c27 : x55_24 = true
            ·
             subst c27; rw [if_pos rfl] at H; simp only [Option.some.injEq, Prod.mk.injEq] at H
             obtain ⟨rfl, rfl, rfl⟩ := H; have hcz28 := q3 BK101.out; have hfz28 := fZ BK101.out; go_wp2
             refine bodyPost_ret (results_cell_row rfl _ _ gb101 63 #[.int .i64 0, .int .i64 0, .int .i64 3] (0, 0) _ rfl (by refine kP (cs := #[.int .i64 0, .int .i64 0, .int .i64 x102002_1]) 2 ?_; refine kP (cs := #[.int .i64 0, .int .i64 x102001_1, .int .i64 x102002_1]) 1 ?_; refine kP (cs := #[.int .i64 x102000_1, .int .i64 x102001_1, .int .i64 x102002_1]) 0 ?_; exact kX BK101.out) Try.underlying63 rfl (by kernel_rfl)) rfl ?_; exact ⟨by first | rfl | (simp [errW_none, errW_some] <;> rfl) | (simp only [← hji13, ← hji21, ← hji23]; first | rfl | (simp [errW_none, errW_some] <;> rfl)) | (simp [*, errW_none, errW_some] <;> rfl), bX HB.out⟩
            replace c27 := oE c27; subst c27; rw [if_neg nft] at H; by_cases c29 : (Int.tmod (IntKind.u64.wrap (x5_1 + (ji23))) 2) = 1
            ·
             rw [if_pos c29] at H; have c29b0 : ((Int.tmod (IntKind.u64.wrap (x5_1 + (ji23))) 2) == 1) = true := beq_iff_eq.mpr c29; have c29b1 : ((Int.tmod (IntKind.u64.wrap (x5_1 + (ji23))) 2) != 1) = false := bne_eq_false_iff_eq.mpr c29; clear c29; simp only [Option.some.injEq, Prod.mk.injEq] at H
             obtain ⟨rfl, rfl, rfl⟩ := H; have hcz30 := q3 BK101.out; have hfz30 := fZ BK101.out; go_wp2
             refine bodyPost_ret (results_cell_row rfl _ _ gb101 63 #[.int .i64 (wrap64 ((wrap64 (-(wrap64 (IntKind.u64.wrap (Int.tdiv (IntKind.u64.wrap (x5_1 + (ji23))) 2))))) - 1)), .int .i64 (wrap64 ((wrap64 (a1 + x6_1)) + 1)), .int .i64 0] (0, 0) _ rfl (by refine kP (cs := #[.int .i64 (wrap64 ((wrap64 (-(wrap64 (IntKind.u64.wrap (Int.tdiv (IntKind.u64.wrap (x5_1 + (ji23))) 2))))) - 1)), .int .i64 (wrap64 ((wrap64 (a1 + x6_1)) + 1)), .int .i64 x102002_1]) 2 ?_; refine kP (cs := #[.int .i64 (wrap64 ((wrap64 (-(wrap64 (IntKind.u64.wrap (Int.tdiv (IntKind.u64.wrap (x5_1 + (ji23))) 2))))) - 1)), .int .i64 x102001_1, .int .i64 x102002_1]) 1 ?_; refine kP (cs := #[.int .i64 x102000_1, .int .i64 x102001_1, .int .i64 x102002_1]) 0 ?_; exact kX BK101.out) Try.underlying63 rfl (by kernel_rfl)) rfl ?_; exact ⟨by first | rfl | (simp [errW_none, errW_some] <;> rfl) | (simp only [← hji13, ← hji21, ← hji23]; first | rfl | (simp [errW_none, errW_some] <;> rfl)) | (simp [*, errW_none, errW_some] <;> rfl), bX HB.out⟩
            rw [if_neg c29] at H; have c29b0 : ((Int.tmod (IntKind.u64.wrap (x5_1 + (ji23))) 2) == 1) = false := beq_eq_false_iff_ne.mpr c29; have c29b1 : ((Int.tmod (IntKind.u64.wrap (x5_1 + (ji23))) 2) != 1) = true := bne_iff_ne.mpr c29; simp only [Option.some.injEq, Prod.mk.injEq] at H
            obtain ⟨rfl, rfl, rfl⟩ := H; have hcz31 := q3 BK101.out; have hfz31 := fZ BK101.out; go_wp2
            refine bodyPost_ret (results_cell_row rfl _ _ gb101 63 #[.int .i64 (wrap64 (IntKind.u64.wrap (Int.tdiv (IntKind.u64.wrap (x5_1 + (ji23))) 2))), .int .i64 (wrap64 ((wrap64 (a1 + x6_1)) + 1)), .int .i64 0] (0, 0) _ rfl (by refine kP (cs := #[.int .i64 (wrap64 (IntKind.u64.wrap (Int.tdiv (IntKind.u64.wrap (x5_1 + (ji23))) 2))), .int .i64 (wrap64 ((wrap64 (a1 + x6_1)) + 1)), .int .i64 x102002_1]) 2 ?_; refine kP (cs := #[.int .i64 (wrap64 (IntKind.u64.wrap (Int.tdiv (IntKind.u64.wrap (x5_1 + (ji23))) 2))), .int .i64 x102001_1, .int .i64 x102002_1]) 1 ?_; refine kP (cs := #[.int .i64 x102000_1, .int .i64 x102001_1, .int .i64 x102002_1]) 0 ?_; exact kX BK101.out) Try.underlying63 rfl (by kernel_rfl)) rfl ?_; exact ⟨by first | rfl | (simp [errW_none, errW_some] <;> rfl) | (simp only [← hji13, ← hji21, ← hji23]; first | rfl | (simp [errW_none, errW_some] <;> rfl)) | (simp [*, errW_none, errW_some] <;> rfl), bX HB.out⟩
         rw [if_neg c24] at H; have c24b0 := dN c24; clear c24; have H' := AM H; clear H; go_wp2
         go_roundg kj16
         case measure => have := HK1.out; have := HJ16.out; omega
         case rel => exact ⟨(IntKind.u64.wrap (x5_1 + (ji23))), (wrap64 (x6_1 + 1)), (x102000_1), (x102001_1), (x102002_1), (by first | rfl | (simp; done) | (simp only [← hji23] <;> (first | rfl | simp)) | (simp [*]; done)), (by first | rfl | (simp; done) | (simp [*]; done)), H', ⟨by have := HK1.out; have := HJ16.out; omega⟩, ⟨kX BK101.out⟩, ⟨bX HB.out⟩⟩
        rw [if_neg c22] at H; exact absurd H (by simp)
     rw [if_neg c15] at H; exact absurd H (by simp)
    rw [if_neg c14] at H; exact absurd H (by simp)
   rw [if_neg c10] at H; have c10b0 := dN c10; clear c10; simp only [Option.some.injEq, Prod.mk.injEq] at H
   obtain ⟨rfl, rfl, rfl⟩ := H; have hcz32 := q3 BK101.out; have hfz32 := fZ BK101.out; go_wp2
   refine bodyPost_ret (results_cell_row rfl _ _ gb101 63 #[.int .i64 0, .int .i64 0, .int .i64 3] (0, 0) _ rfl (by refine kP (cs := #[.int .i64 0, .int .i64 0, .int .i64 x102002_1]) 2 ?_; refine kP (cs := #[.int .i64 0, .int .i64 x102001_1, .int .i64 x102002_1]) 1 ?_; refine kP (cs := #[.int .i64 x102000_1, .int .i64 x102001_1, .int .i64 x102002_1]) 0 ?_; exact kX BK101.out) Try.underlying63 rfl (by kernel_rfl)) rfl ?_; exact ⟨by first | rfl | (simp [*, errW_none, errW_some] <;> rfl), bX HB.out⟩

/-- A state of type 39 at block g of W; what its slices lead to came in by w0. -/
def IsS39 (w0 W : World) (g : Nat) (f0 : ByteArray) (f1 : Int) (f2 : Bool) : Prop := W.heap[g]? = some (.cells #[.string f0, .int .i64 f1, .bool f2] 39 (0, 0)) ∧ w0.heap.size ≤ g
theorem IsS39.grown {w0 W : World} {g : Nat} {f0 : ByteArray} {f1 : Int} {f2 : Bool} {W1 : World} {row : Option Nat} (h : IsS39 w0 W g f0 f1 f2) (hw : W.grownBy W1 row) (hne : some g ≠ row) : IsS39 w0 W1 g f0 f1 f2 := by
  obtain ⟨hb, hg⟩ := h; exact ⟨blk_grown hb hw hne, hg⟩
theorem IsS39.own_neN {w0 W : World} {g : Nat} {f0 : ByteArray} {f1 : Int} {f2 : Bool} {α : Type} {d : Kd α} {e : Nat} {base : Nat} {ok : Nat → Prop} {v : Value} {xs : List α} (h : IsS39 w0 W g f0 f1 f2) (ho : Kd.N d e W base ok v xs) (ht : e ≠ 39) : some g ≠ v.ownBlock := by
  obtain ⟨hb, hg⟩ := h; exact Kd.N_ne ho hb ht
theorem IsS39.fresh {w0 W : World} {g : Nat} {f0 : ByteArray} {f1 : Int} {f2 : Bool} (h : IsS39 w0 W g f0 f1 f2) : ∀ k, W.heap.size ≤ k → k ≠ g := by
  obtain ⟨hb, hg⟩ := h; exact Kd.freshB hb
theorem IsS39.kept {w0 W : World} {g : Nat} {f0 : ByteArray} {f1 : Int} {f2 : Bool} {W1 : World} {S : Nat → Prop} (h : IsS39 w0 W g f0 f1 f2) (hk : Kept W W1 S) (hne : ¬ S g) : IsS39 w0 W1 g f0 f1 f2 := by
  obtain ⟨hb, hg⟩ := h; exact ⟨blk_kept hb hk hne, hg⟩
theorem IsS39.below {w0 W : World} {g : Nat} {f0 : ByteArray} {f1 : Int} {f2 : Bool} {W1 : World} (h : IsS39 w0 W g f0 f1 f2) (hw : Below W.heap.size W W1) : IsS39 w0 W1 g f0 f1 f2 := h.grown (grown_of_below hw none) (by simp)
theorem IsS39.alloc {w0 W : World} {g : Nat} {f0 : ByteArray} {f1 : Int} {f2 : Bool} (h : IsS39 w0 W g f0 f1 f2) (o : Obj) : IsS39 w0 (W.alloc o) g f0 f1 f2 := h.below (bA (Below.refl _ _) o)
theorem IsS39.drewN {w0 W : World} {g : Nat} {f0 : ByteArray} {f1 : Int} {f2 : Bool} (h : IsS39 w0 W g f0 f1 f2) (m : Nat) : IsS39 w0 (W.drewN m) g f0 f1 f2 := h
theorem IsS39.drew {w0 W : World} {g : Nat} {f0 : ByteArray} {f1 : Int} {f2 : Bool} (h : IsS39 w0 W g f0 f1 f2) : IsS39 w0 W.drew g f0 f1 f2 := h
theorem IsS39.at_ {w0 W : World} {g : Nat} {f0 : ByteArray} {f1 : Int} {f2 : Bool} {w' : World} {m : Nat} (hq : W.drewN m = w') (h : IsS39 w0 W g f0 f1 f2) : IsS39 w0 w' g f0 f1 f2 := by subst hq; exact IsS39.drewN h m
theorem IsS39.apart {w0 W : World} {g : Nat} {f0 : ByteArray} {f1 : Int} {f2 : Bool} {α : Type} {d : Kd α} {e : Nat} {base : Nat} {ok : Nat → Prop} {v : Value} {xs : List α} (h : IsS39 w0 W g f0 f1 f2) (ho : d.R e W base ok v xs) (ht : ∀ q, q ∈ e :: d.E → q ≠ 39) : d.R e W base (fun k => ok k ∧ k ≠ g) v xs := by
  obtain ⟨hb, hg⟩ := h; exact Kd.R_types ho hb ht
theorem IsS39.own_ne {w0 W : World} {g : Nat} {f0 : ByteArray} {f1 : Int} {f2 : Bool} {α : Type} {d : Kd α} {e : Nat} {base : Nat} {ok : Nat → Prop} {v : Value} {xs : List α} (h : IsS39 w0 W g f0 f1 f2) (ho : d.R e W base ok v xs) (ht : e ≠ 39) : some g ≠ v.ownBlock := by
  obtain ⟨hb, hg⟩ := h; exact Kd.R_ne ho hb ht
theorem IsS39.apartQ {w0 W : World} {g : Nat} {f0 : ByteArray} {f1 : Int} {f2 : Bool} {α : Type} {d : Kd α} {e : Nat} {base : Nat} {ok : Nat → Prop} {v : Value} {xs : List α} (h : IsS39 w0 W g f0 f1 f2) (ho : d.Q e W base ok v xs) (ht : ∀ q, q ∈ e :: d.E → q ≠ 39) : d.Q e W base (fun k => ok k ∧ k ≠ g) v xs := by
  obtain ⟨hb, hg⟩ := h; exact Kd.Q_types ho hb ht
theorem IsS39.own_neQ {w0 W : World} {g : Nat} {f0 : ByteArray} {f1 : Int} {f2 : Bool} {α : Type} {d : Kd α} {e : Nat} {base : Nat} {ok : Nat → Prop} {v : Value} {xs : List α} (h : IsS39 w0 W g f0 f1 f2) (ho : d.Q e W base ok v xs) (ht : e ≠ 39) : some g ≠ v.ownBlock := by
  obtain ⟨hb, hg⟩ := h; exact Kd.Q_ne ho hb ht
theorem IsS39.apartS {w0 W : World} {g : Nat} {f0 : ByteArray} {f1 : Int} {f2 : Bool} {α : Type} {d : Kd α} {e : Nat} {base : Nat} {ok : Nat → Prop} {v : Value} {xs : List α} (h : IsS39 w0 W g f0 f1 f2) (ho : d.S e W base ok v xs) (ht : ∀ q, q ∈ e :: d.E → q ≠ 39) : d.S e W base (fun k => ok k ∧ k ≠ g) v xs := by
  obtain ⟨hb, hg⟩ := h; exact Kd.S_types ho hb ht
theorem IsS39.own_neS {w0 W : World} {g : Nat} {f0 : ByteArray} {f1 : Int} {f2 : Bool} {α : Type} {d : Kd α} {e : Nat} {base : Nat} {ok : Nat → Prop} {v : Value} {xs : List α} (h : IsS39 w0 W g f0 f1 f2) (ho : d.S e W base ok v xs) (ht : e ≠ 39) : some g ≠ v.ownBlock := by
  obtain ⟨hb, hg⟩ := h; exact Kd.S_ne ho hb ht
theorem IsS39.lt {w0 W : World} {g : Nat} {f0 : ByteArray} {f1 : Int} {f2 : Bool} (h : IsS39 w0 W g f0 f1 f2) : g < W.heap.size := by
  obtain ⟨hb, hg⟩ := h; exact blk_lt hb
theorem IsS39.ge {w0 W : World} {g : Nat} {f0 : ByteArray} {f1 : Int} {f2 : Bool} (h : IsS39 w0 W g f0 f1 f2) : w0.heap.size ≤ g := by
  obtain ⟨hb, hg⟩ := h; exact hg
theorem IsS39.ne_blk {w0 W : World} {g : Nat} {f0 : ByteArray} {f1 : Int} {f2 : Bool} {a : Nat} {cs : Array Value} {t : TypeId} {fr : Nat × Nat} (h : IsS39 w0 W g f0 f1 f2) (hb2 : W.heap[a]? = some (.cells cs t fr)) (ht : t ≠ 39) : g ≠ a := by
  obtain ⟨hb, hg⟩ := h; rintro rfl; rw [hb] at hb2
  injection hb2 with hb2
  injection hb2 with _ ht2
  exact ht ht2.symm
theorem IsS39.far {w0 W : World} {g : Nat} {f0 : ByteArray} {f1 : Int} {f2 : Bool} {p : Addr} (h : IsS39 w0 W g f0 f1 f2) (hne : g ≠ p.block) (u : Value) : IsS39 w0 (W.setCell p u) g f0 f1 f2 := by
  obtain ⟨hb, hg⟩ := h; exact ⟨blk_far hb hne u, hg⟩
theorem cellS39_0 {W : World} {g : Nat} {f0 : ByteArray} {f1 : Int} {f2 : Bool} (h : W.heap[g]? = some (.cells #[.string f0, .int .i64 f1, .bool f2] 39 (0, 0))) : W.cell? ⟨g, 0, none⟩ = some (.string f0) := (kC h 0).trans rfl
theorem IsS39.set_0 {w0 W : World} {g : Nat} {f0 : ByteArray} {f1 : Int} {f2 : Bool} (h : IsS39 w0 W g f0 f1 f2) (x : ByteArray) : IsS39 w0 (W.setCell ⟨g, 0, none⟩ (.string x)) g x f1 f2 := by
  obtain ⟨hb, hg⟩ := h; exact ⟨by simpa using blk_set hb 0 (.string x), hg⟩
theorem cellS39_1 {W : World} {g : Nat} {f0 : ByteArray} {f1 : Int} {f2 : Bool} (h : W.heap[g]? = some (.cells #[.string f0, .int .i64 f1, .bool f2] 39 (0, 0))) : W.cell? ⟨g, 1, none⟩ = some (.int .i64 f1) := (kC h 1).trans rfl
theorem IsS39.set_1 {w0 W : World} {g : Nat} {f0 : ByteArray} {f1 : Int} {f2 : Bool} (h : IsS39 w0 W g f0 f1 f2) (x : Int) : IsS39 w0 (W.setCell ⟨g, 1, none⟩ (.int .i64 x)) g f0 x f2 := by
  obtain ⟨hb, hg⟩ := h; exact ⟨by simpa using blk_set hb 1 (.int .i64 x), hg⟩
theorem cellS39_2 {W : World} {g : Nat} {f0 : ByteArray} {f1 : Int} {f2 : Bool} (h : W.heap[g]? = some (.cells #[.string f0, .int .i64 f1, .bool f2] 39 (0, 0))) : W.cell? ⟨g, 2, none⟩ = some (.bool f2) := (kC h 2).trans rfl
theorem IsS39.set_2 {w0 W : World} {g : Nat} {f0 : ByteArray} {f1 : Int} {f2 : Bool} (h : IsS39 w0 W g f0 f1 f2) (x : Bool) : IsS39 w0 (W.setCell ⟨g, 2, none⟩ (.bool x)) g f0 f1 x := by
  obtain ⟨hb, hg⟩ := h; exact ⟨by simpa using blk_set hb 2 (.bool x), hg⟩
theorem IsS39.new (w0 W : World) (f0 : ByteArray) (f1 : Int) (f2 : Bool) (hB : Below w0.heap.size w0 W) : IsS39 w0 (W.alloc (.cells #[.string f0, .int .i64 f1, .bool f2] 39)) W.heap.size f0 f1 f2 := ⟨by simpa using heap_alloc_new W _, hB.size⟩

/-! ### spec_l06Reader_num: function 17 -/
abbrev spec_l06Reader_num.b0 : Array Bool := #[true, true, true, false, true, false, false, false, false, false, false]
abbrev spec_l06Reader_num.b1 : Array Bool := #[true, true, true, false, true, true, false, false, false, false, false]
abbrev spec_l06Reader_num.b2 : Array Bool := #[true, true, true, false, true, true, true, false, false, false, false]
abbrev spec_l06Reader_num.b3 : Array Bool := #[true, true, true, true, true, true, true, true, false, true, false]
def spec_l06Reader_num.f (k : Nat) (s0_0 : ByteArray) (s0_1 : Int) (s0_2 : Bool) : Option (Int × ByteArray × Int × Bool) := (spec_GetNum.f k s0_0 s0_1).bind fun bt101 => (if s0_2 = true then (some (0, s0_0, s0_1, true)) else (if bt101.2.2 = 0 then (some (bt101.1, s0_0, bt101.2.1, s0_2)) else (some (0, s0_0, s0_1, true))))
theorem spec_l06Reader_num.mono : ∀ a0 a1 a2 k, LeO (spec_l06Reader_num.f k a0 a1 a2) (spec_l06Reader_num.f (k + 1) a0 a1 a2) := by
  intro a0 a1 a2 k; unfold spec_l06Reader_num.f
  repeat' first | (with_reducible first | exact spec_GetNum.mono _ _ _ | exact oR _ | exact oN _ | refine oI ?_ ?_ | refine oB ?_ fun _ => ?_) | exact spec_GetNum.mono _ _ _ | exact oN _ | refine oI ?_ ?_ | refine oB ?_ fun _ => ?_
def spec_l06Reader_num.T1 : Bool × List (List Nat × List Nat) := (true, [([], []), ([0], [0]), ([1], [1]), ([2], [2]), ([], []), ([4], [4]), ([5], [5]), ([6], [6]), ([3, 7], [3, 7]), ([], []), ([9, 8, 8, 0, 1, 2, 3, 4, 5, 6, 7, 8, 9], [8, 9])])
def spec_l06Reader_num.B1 : List Nat := [0, 1, 3, 7, 0, 16, 48, 112, 255, 0, 1023]
theorem spec_l06Reader_num.tab1 : rtab .any (opsOf Try.f17 1) = spec_l06Reader_num.T1 := by kernel_rfl
theorem spec_l06Reader_num.bits1 : waitsOk spec_l06Reader_num.T1.2 spec_l06Reader_num.B1 = true := by kernel_rfl
theorem bI39_0_spec_l06Reader_num {n : Nat} {w W W' : World} (h : Below n w W) (f : Below n w W → Below n w W' := by intro h_; repeat (first | (with_reducible first | exact h_ | apply bA | apply bN | apply bD | refine bS ?_ (IsS39.ge HI0.out) | refine bS ?_ (Aside0.out (by assumption))) | exact h_)) : Below n w W' := f h
theorem iX39_6_spec_l06Reader_num {p q : Prop} (h : p) (f : p → q := by intro h_; repeat (first | (with_reducible first | exact h_ | apply IsS39.alloc | apply IsS39.drewN | apply IsS39.drew | apply IsS39.set_0 | apply IsS39.set_1 | apply IsS39.set_2 | refine IsS39.far ?_ (Aside0.out (by assumption)) _ | apply IsS39.far | exact Aside0.out (by assumption)) | exact h_)) : q := f h
set_option maxHeartbeats 60000000 in
set_option maxRecDepth 100000 in
theorem spec_l06Reader_num.calls (k : Nat) (g : Nat) (s0_0 : ByteArray) (s0_1 : Int) (s0_2 : Bool) (r1 : Int) (r2 : ByteArray) (r3 : Int) (r4 : Bool) (w0 w : World) (hI : IsS39 w0 w g s0_0 s0_1 s0_2) (hB : Below w0.heap.size w0 w) (h : spec_l06Reader_num.f k s0_0 s0_1 s0_2 = some (r1, r2, r3, r4)) :
    Calls Try.prog 17 #[.pointer (some ⟨g, 0, none⟩)] w fun e w' => e = .returned (.int .i64 r1) ∧ IsS39 w0 w' g r2 r3 r4 ∧ Below w0.heap.size w0 w' ∧ KeepBut w w' g none := by
 have hu63 := Try.underlying63; have HI0 := AM hI; have HK := AM (KeepBut.refl w g none); have HL := AM hB.size; clear hI; have HW0 := AM hB.size; have HB := AM hB; clear hB; have H : ((spec_GetNum.f k s0_0 s0_1).bind fun bt101 => (if s0_2 = true then (some (0, s0_0, s0_1, true)) else (if bt101.2.2 = 0 then (some (bt101.1, s0_0, bt101.2.1, s0_2)) else (some (0, s0_0, s0_1, true))))) = some (r1, r2, r3, r4) := h; clear h; replace H := oM H; obtain ⟨⟨t101, t102, t103⟩, A20, H⟩ := H; try dsimp only at H
 have A2 := AM A20; clear A20; by_cases c3 : s0_2 = true
 ·
  subst c3; rw [if_pos rfl] at H; simp only [Option.some.injEq, Prod.mk.injEq] at H
  obtain ⟨rfl, rfl, rfl, rfl⟩ := H; go_enter Try.func17, Try.ntmps17
  try go_wp2
  have _ := AM (IsS39.drew HI0.out); have _ := AM (keep_drew HK.out); have _ := AM (bD HB.out); clear HI0 HK HB; rename_i HI0 HK HB; refine start_ (n := 11) (S := fun w' => w'.cell? ⟨g, 0, none⟩ = some (.string s0_0) ∧ w'.cell? ⟨g, 1, none⟩ = some (.int .i64 s0_1) ∧ w'.cell? ⟨g, 2, none⟩ = some (.bool true)) (ds := []) (upTo 0 11) (by kernel_rfl) rfl rfl ⟨(kC (AM HI0.out.1).out 0).trans rfl, (kC (AM HI0.out.1).out 1).trans rfl, (kC (AM HI0.out.1).out 2).trans rfl⟩ (fun hHeld => ?_); refine with_tabW spec_l06Reader_num.tab1 spec_l06Reader_num.bits1 (fun HT_ HW_ => ?_); generalize w.drew = w4 at HI0 HK HB hHeld ⊢; refine pF 0 1 11 4 ?_; refine pF 1 2 11 5 ?_; refine pF 2 3 11 6 ?_; refine pF2 4 8 spec_l06Reader_num.b0 ?_; refine pF2 5 9 spec_l06Reader_num.b1 ?_; refine pF2 6 10 spec_l06Reader_num.b2 ?_; refine pT2 3 7 (upTo 7 11) ?_ hHeld; refine pT2 7 11 (upTo 8 11) ?_ hHeld; refine join_ (σ := Nat) 1 (upTo 10 11) (fun s_ => [(12, .agg #[.int .i64 t101, .int .i64 t102, .int .i64 t103]), (3, .pointer (some ⟨s_, 0, none⟩))]) (fun s_ w' => (w'.cell? ⟨g, 0, none⟩ = some (.string s0_0) ∧ w'.cell? ⟨g, 1, none⟩ = some (.int .i64 s0_1) ∧ w'.cell? ⟨g, 2, none⟩ = some (.bool true)) ∧ (w'.heap[s_]? = some (.cells #[.int .i64 0, .int .i64 0, .int .i64 0] 63 (0, 0))) ∧ (w.heap.size ≤ s_) ∧ (w0.heap.size ≤ s_) ∧ (g ≠ s_) ∧ (s_ ≠ g) ∧ (IsS39 w0 w' g s0_0 s0_1 true) ∧ (KeepBut w w' g none) ∧ (Below w0.heap.size w0 w')) ?_ ?_; rotate_left
  ·
   intro hCont; refine two_ (i := 8) (j := 9) (Ni := some 12) (Nj := some 3) (upTo 9 11) spec_l06Reader_num.b3 rfl rfl rfl rfl (two_of HT_.out (by kernel_rfl)) (by decide) (by decide) (fun K hK => ?_) (fun K hK => ?_)
   ·
    skip
    refine gs Try.func33 #[.string s0_0, .int .i64 s0_1] ?_; with_reducible refine (spec_GetNum.calls k s0_0 s0_1 t101 t102 t103 _ A2.out).mono ?_
    rintro e w5 ⟨rfl, hb⟩; refine ⟨_, rfl, ?_⟩; have _ := AM (IsS39.below (iX39_6_spec_l06Reader_num HI0.out) hb); have _ := AM (KeepBut.trans (hX HK.out) (KeepBut.of_below hb g none) (.inl rfl)); have _ := AM (below_step (bI39_0_spec_l06Reader_num HB.out) hb); clear HI0 HK HB; rename_i HI0 HK HB; (try clear hb); (try clear hk); refine hK.out _ _ ⟨(kC (AM HI0.out.1).out 0).trans rfl, (kC (AM HI0.out.1).out 1).trans rfl, (kC (AM HI0.out.1).out 2).trans rfl⟩ (fun hHeld => ?_); clear hK K; refine norm_ (a' := ?_) ?_ ?_; rotate_left
    ·
     show Act.put _ (some 12) _ = _
     simp only [Act.put, sA, sB, sC, i64_w, i32_w]
     rfl
    refine oU 9 3 (upTo 10 11) HT_.out (fun K hK => ?_); refine box_step ?hg (N := 3) ?hd (cs := #[.int .i64 0, .int .i64 0, .int .i64 0]) (t := 63) ?hr ?_; (case hd => rfl); (case hg => rfl); (case hr => first | (go_simp; done) | (go_simp; rfl)); intro gb104 hg w6 hbox hb; have _ := AM (IsS39.below (iX39_6_spec_l06Reader_num HI0.out) hb); have _ := AM (KeepBut.trans (hX HK.out) (KeepBut.of_below hb g none) (.inl rfl)); have _ := AM (below_step (bI39_0_spec_l06Reader_num HB.out) hb); have _ := AM (hbox); have _ := AM ((by rw [hg]; exact (keep_size (w := w) (g := g) (row := none) (hX HK.out)) : w.heap.size ≤ gb104)); have _ := AM ((Nat.le_trans HW0.out (by rw [hg]; exact (keep_size (w := w) (g := g) (row := none) (hX HK.out)) : w.heap.size ≤ gb104) : w0.heap.size ≤ gb104)); have _ := AM ((by rw [hg]; exact Nat.ne_of_lt (IsS39.lt (show IsS39 w0 _ g s0_0 s0_1 true from iX39_6_spec_l06Reader_num HI0.out)) : g ≠ gb104)); have _ := AM ((by rw [hg]; exact Nat.ne_of_gt (IsS39.lt (show IsS39 w0 _ g s0_0 s0_1 true from iX39_6_spec_l06Reader_num HI0.out)) : gb104 ≠ g)); clear HI0 HK HB; rename_i HI0 HK HB BK104 GW104 GE104 NB0_104 NB104_0; clear hb hbox hg; refine hK.out _ _ ⟨(kC (AM HI0.out.1).out 0).trans rfl, (kC (AM HI0.out.1).out 1).trans rfl, (kC (AM HI0.out.1).out 2).trans rfl⟩ (fun hHeld => ?_); clear hK K; refine norm_ (a' := ?_) ?_ ?_; rotate_left
    ·
     show Act.put _ (some 3) _ = _
     simp only [Act.put, sA, sB, sC, i64_w, i32_w]
     rfl
    exact norm_ (by simp only [putAll, Act.put, List.setIfInBounds_toArray, List.set_cons_zero, List.set_cons_succ]) (hCont (gb104) _ ⟨hHeld, (kX BK104.out), GW104.out, GE104.out, NB0_104.out, NB104_0.out, (iX39_6_spec_l06Reader_num HI0.out), (hX HK.out), (bI39_0_spec_l06Reader_num HB.out)⟩)
   skip
   refine box_step ?hg (N := 3) ?hd (cs := #[.int .i64 0, .int .i64 0, .int .i64 0]) (t := 63) ?hr ?_; (case hd => rfl); (case hg => rfl); (case hr => first | (go_simp; done) | (go_simp; rfl)); intro gb104 hg w5 hbox hb; have _ := AM (IsS39.below (iX39_6_spec_l06Reader_num HI0.out) hb); have _ := AM (KeepBut.trans (hX HK.out) (KeepBut.of_below hb g none) (.inl rfl)); have _ := AM (below_step (bI39_0_spec_l06Reader_num HB.out) hb); have _ := AM (hbox); have _ := AM ((by rw [hg]; exact (keep_size (w := w) (g := g) (row := none) (hX HK.out)) : w.heap.size ≤ gb104)); have _ := AM ((Nat.le_trans HW0.out (by rw [hg]; exact (keep_size (w := w) (g := g) (row := none) (hX HK.out)) : w.heap.size ≤ gb104) : w0.heap.size ≤ gb104)); have _ := AM ((by rw [hg]; exact Nat.ne_of_lt (IsS39.lt (show IsS39 w0 _ g s0_0 s0_1 true from iX39_6_spec_l06Reader_num HI0.out)) : g ≠ gb104)); have _ := AM ((by rw [hg]; exact Nat.ne_of_gt (IsS39.lt (show IsS39 w0 _ g s0_0 s0_1 true from iX39_6_spec_l06Reader_num HI0.out)) : gb104 ≠ g)); clear HI0 HK HB; rename_i HI0 HK HB BK104 GW104 GE104 NB0_104 NB104_0; clear hb hbox hg; refine hK.out _ _ ⟨(kC (AM HI0.out.1).out 0).trans rfl, (kC (AM HI0.out.1).out 1).trans rfl, (kC (AM HI0.out.1).out 2).trans rfl⟩ (fun hHeld => ?_); clear hK K; refine norm_ (a' := ?_) ?_ ?_; rotate_left
   ·
    show Act.put _ (some 3) _ = _
    simp only [Act.put, sA, sB, sC, i64_w, i32_w]
    rfl
   refine oU 8 12 (upTo 10 11) HT_.out (fun K hK => ?_); refine gs Try.func33 #[.string s0_0, .int .i64 s0_1] ?_; with_reducible refine (spec_GetNum.calls k s0_0 s0_1 t101 t102 t103 _ A2.out).mono ?_
   rintro e w6 ⟨rfl, hb⟩; refine ⟨_, rfl, ?_⟩; have _ := AM (IsS39.below (iX39_6_spec_l06Reader_num HI0.out) hb); have _ := AM (nB BK104.out hb); have _ := AM (KeepBut.trans (hX HK.out) (KeepBut.of_below hb g none) (.inl rfl)); have _ := AM (below_step (bI39_0_spec_l06Reader_num HB.out) hb); clear HI0 BK104 HK HB; rename_i HI0 BK104 HK HB; (try clear hb); (try clear hk); refine hK.out _ _ ⟨(kC (AM HI0.out.1).out 0).trans rfl, (kC (AM HI0.out.1).out 1).trans rfl, (kC (AM HI0.out.1).out 2).trans rfl⟩ (fun hHeld => ?_); clear hK K; refine norm_ (a' := ?_) ?_ ?_; rotate_left
   ·
    show Act.put _ (some 12) _ = _
    simp only [Act.put, sA, sB, sC, i64_w, i32_w]
    rfl
   exact norm_ (by simp only [putAll, Act.put, List.setIfInBounds_toArray, List.set_cons_zero, List.set_cons_succ]) (hCont (gb104) _ ⟨hHeld, (kX BK104.out), GW104.out, GE104.out, NB0_104.out, NB104_0.out, (iX39_6_spec_l06Reader_num HI0.out), (hX HK.out), (bI39_0_spec_l06Reader_num HB.out)⟩)
  rintro gb104 w7 ⟨hS_, h0_, h1_, h2_, h3_, h4_, h5_, h6_, h7_⟩; have _ : Aside0 (w7.heap[gb104]? = some (.cells #[.int .i64 0, .int .i64 0, .int .i64 0] 63 (0, 0))) := ⟨h0_⟩; have _ : Aside0 (w.heap.size ≤ gb104) := ⟨h1_⟩; have _ : Aside0 (w0.heap.size ≤ gb104) := ⟨h2_⟩; have _ : Aside0 (g ≠ gb104) := ⟨h3_⟩; have _ : Aside0 (gb104 ≠ g) := ⟨h4_⟩; have _ : Aside0 (IsS39 w0 w7 g s0_0 s0_1 true) := ⟨h5_⟩; have _ : Aside0 (KeepBut w w7 g none) := ⟨h6_⟩; have _ : Aside0 (Below w0.heap.size w0 w7) := ⟨h7_⟩; clear HI0 HK HB h0_ h1_ h2_ h3_ h4_ h5_ h6_ h7_; rename_i BK104 GW104 GE104 NB0_104 NB104_0 HI0 HK HB; have hHeld : w7.cell? ⟨g, 0, none⟩ = some (.string s0_0) ∧ w7.cell? ⟨g, 1, none⟩ = some (.int .i64 s0_1) ∧ w7.cell? ⟨g, 2, none⟩ = some (.bool true) := hS_; refine norm_ (a' := ?_) ?_ ?_; rotate_left
  ·
   simp only [putAll, Act.put, List.setIfInBounds_toArray, List.set_cons_zero, List.set_cons_succ]
   rfl
  refine one_ (i := 10) (N := none) (upTo 11 11) rfl rfl (one_of HT_.out (by kernel_rfl)) (by decide) (fun K hK => ?_); have hs8 : w7.cell? ⟨gb104, 0, none⟩ = some (.int .i64 0) := hC BK104.out 0; have hfs8 := fZ BK104.out 0; have hs9 : w7.cell? ⟨gb104, 1, none⟩ = some (.int .i64 0) := hC BK104.out 1; have hfs9 := fZ BK104.out 1; have hs10 : w7.cell? ⟨gb104, 2, none⟩ = some (.int .i64 0) := hC BK104.out 2; have hfs10 := fZ BK104.out 2; refine skip_ (w1 := ?_) (by rfl) rfl ?_ ?_; rotate_left
  ·
   go_simp
   rfl
  refine hK.out _ _ ⟨(cT NB0_104.out ((cT NB0_104.out ((cT NB0_104.out (hHeld.1)))))), (cT NB0_104.out ((cT NB0_104.out ((cT NB0_104.out (hHeld.2.1)))))), (cT NB0_104.out ((cT NB0_104.out ((cT NB0_104.out (hHeld.2.2))))))⟩ (fun hHeld => ?_); clear hK K; refine done_ (done_of HT_.out (by kernel_rfl)) ?_; obtain ⟨HGz11, hgz11⟩ := HI0.out; have hcz11_0 := cellS39_0 HGz11; have hcz11_1 := cellS39_1 HGz11; have hcz11_2 := cellS39_2 HGz11; have hfz11_0 := fZ HGz11 0; have hfz11_1 := fZ HGz11 1; have hfz11_2 := fZ HGz11 2; clear HGz11 hgz11; try go_wp2
  go_ret
  exact ⟨by first | rfl | (simp [*, errW_none, errW_some] <;> rfl), iX39_6_spec_l06Reader_num HI0.out, bI39_0_spec_l06Reader_num HB.out, hX HK.out⟩
 replace c3 := oE c3; subst c3; rw [if_neg nft] at H; by_cases c12 : t103 = 0
 ·
  rw [if_pos c12] at H; have c12b0 : (t103 == 0) = true := beq_iff_eq.mpr c12; have c12b1 : (t103 != 0) = false := bne_eq_false_iff_eq.mpr c12; clear c12; simp only [Option.some.injEq, Prod.mk.injEq] at H
  obtain ⟨rfl, rfl, rfl, rfl⟩ := H; go_enter Try.func17, Try.ntmps17
  try go_wp2
  have _ := AM (IsS39.drew HI0.out); have _ := AM (keep_drew HK.out); have _ := AM (bD HB.out); clear HI0 HK HB; rename_i HI0 HK HB; refine start_ (n := 11) (S := fun w' => w'.cell? ⟨g, 0, none⟩ = some (.string s0_0) ∧ w'.cell? ⟨g, 1, none⟩ = some (.int .i64 s0_1) ∧ w'.cell? ⟨g, 2, none⟩ = some (.bool false)) (ds := []) (upTo 0 11) (by kernel_rfl) rfl rfl ⟨(kC (AM HI0.out.1).out 0).trans rfl, (kC (AM HI0.out.1).out 1).trans rfl, (kC (AM HI0.out.1).out 2).trans rfl⟩ (fun hHeld => ?_); refine with_tabW spec_l06Reader_num.tab1 spec_l06Reader_num.bits1 (fun HT_ HW_ => ?_); generalize w.drew = w13 at HI0 HK HB hHeld ⊢; refine pF 0 1 11 4 ?_; refine pF 1 2 11 5 ?_; refine pF 2 3 11 6 ?_; refine pF2 4 8 spec_l06Reader_num.b0 ?_; refine pF2 5 9 spec_l06Reader_num.b1 ?_; refine pF2 6 10 spec_l06Reader_num.b2 ?_; refine pT2 3 7 (upTo 7 11) ?_ hHeld; refine pT2 7 11 (upTo 8 11) ?_ hHeld; refine join_ (σ := Nat) 1 (upTo 10 11) (fun s_ => [(12, .agg #[.int .i64 t101, .int .i64 t102, .int .i64 t103]), (3, .pointer (some ⟨s_, 0, none⟩))]) (fun s_ w' => (w'.cell? ⟨g, 0, none⟩ = some (.string s0_0) ∧ w'.cell? ⟨g, 1, none⟩ = some (.int .i64 s0_1) ∧ w'.cell? ⟨g, 2, none⟩ = some (.bool false)) ∧ (w'.heap[s_]? = some (.cells #[.int .i64 0, .int .i64 0, .int .i64 0] 63 (0, 0))) ∧ (w.heap.size ≤ s_) ∧ (w0.heap.size ≤ s_) ∧ (g ≠ s_) ∧ (s_ ≠ g) ∧ (IsS39 w0 w' g s0_0 s0_1 false) ∧ (KeepBut w w' g none) ∧ (Below w0.heap.size w0 w')) ?_ ?_; rotate_left
  ·
   intro hCont; refine two_ (i := 8) (j := 9) (Ni := some 12) (Nj := some 3) (upTo 9 11) spec_l06Reader_num.b3 rfl rfl rfl rfl (two_of HT_.out (by kernel_rfl)) (by decide) (by decide) (fun K hK => ?_) (fun K hK => ?_)
   ·
    skip
    refine gs Try.func33 #[.string s0_0, .int .i64 s0_1] ?_; with_reducible refine (spec_GetNum.calls k s0_0 s0_1 t101 t102 t103 _ A2.out).mono ?_
    rintro e w14 ⟨rfl, hb⟩; refine ⟨_, rfl, ?_⟩; have _ := AM (IsS39.below (iX39_6_spec_l06Reader_num HI0.out) hb); have _ := AM (KeepBut.trans (hX HK.out) (KeepBut.of_below hb g none) (.inl rfl)); have _ := AM (below_step (bI39_0_spec_l06Reader_num HB.out) hb); clear HI0 HK HB; rename_i HI0 HK HB; (try clear hb); (try clear hk); refine hK.out _ _ ⟨(kC (AM HI0.out.1).out 0).trans rfl, (kC (AM HI0.out.1).out 1).trans rfl, (kC (AM HI0.out.1).out 2).trans rfl⟩ (fun hHeld => ?_); clear hK K; refine norm_ (a' := ?_) ?_ ?_; rotate_left
    ·
     show Act.put _ (some 12) _ = _
     simp only [Act.put, sA, sB, sC, i64_w, i32_w]
     rfl
    refine oU 9 3 (upTo 10 11) HT_.out (fun K hK => ?_); refine box_step ?hg (N := 3) ?hd (cs := #[.int .i64 0, .int .i64 0, .int .i64 0]) (t := 63) ?hr ?_; (case hd => rfl); (case hg => rfl); (case hr => first | (go_simp; done) | (go_simp; rfl)); intro gb104 hg w15 hbox hb; have _ := AM (IsS39.below (iX39_6_spec_l06Reader_num HI0.out) hb); have _ := AM (KeepBut.trans (hX HK.out) (KeepBut.of_below hb g none) (.inl rfl)); have _ := AM (below_step (bI39_0_spec_l06Reader_num HB.out) hb); have _ := AM (hbox); have _ := AM ((by rw [hg]; exact (keep_size (w := w) (g := g) (row := none) (hX HK.out)) : w.heap.size ≤ gb104)); have _ := AM ((Nat.le_trans HW0.out (by rw [hg]; exact (keep_size (w := w) (g := g) (row := none) (hX HK.out)) : w.heap.size ≤ gb104) : w0.heap.size ≤ gb104)); have _ := AM ((by rw [hg]; exact Nat.ne_of_lt (IsS39.lt (show IsS39 w0 _ g s0_0 s0_1 false from iX39_6_spec_l06Reader_num HI0.out)) : g ≠ gb104)); have _ := AM ((by rw [hg]; exact Nat.ne_of_gt (IsS39.lt (show IsS39 w0 _ g s0_0 s0_1 false from iX39_6_spec_l06Reader_num HI0.out)) : gb104 ≠ g)); clear HI0 HK HB; rename_i HI0 HK HB BK104 GW104 GE104 NB0_104 NB104_0; clear hb hbox hg; refine hK.out _ _ ⟨(kC (AM HI0.out.1).out 0).trans rfl, (kC (AM HI0.out.1).out 1).trans rfl, (kC (AM HI0.out.1).out 2).trans rfl⟩ (fun hHeld => ?_); clear hK K; refine norm_ (a' := ?_) ?_ ?_; rotate_left
    ·
     show Act.put _ (some 3) _ = _
     simp only [Act.put, sA, sB, sC, i64_w, i32_w]
     rfl
    exact norm_ (by simp only [putAll, Act.put, List.setIfInBounds_toArray, List.set_cons_zero, List.set_cons_succ]) (hCont (gb104) _ ⟨hHeld, (kX BK104.out), GW104.out, GE104.out, NB0_104.out, NB104_0.out, (iX39_6_spec_l06Reader_num HI0.out), (hX HK.out), (bI39_0_spec_l06Reader_num HB.out)⟩)
   skip
   refine box_step ?hg (N := 3) ?hd (cs := #[.int .i64 0, .int .i64 0, .int .i64 0]) (t := 63) ?hr ?_; (case hd => rfl); (case hg => rfl); (case hr => first | (go_simp; done) | (go_simp; rfl)); intro gb104 hg w14 hbox hb; have _ := AM (IsS39.below (iX39_6_spec_l06Reader_num HI0.out) hb); have _ := AM (KeepBut.trans (hX HK.out) (KeepBut.of_below hb g none) (.inl rfl)); have _ := AM (below_step (bI39_0_spec_l06Reader_num HB.out) hb); have _ := AM (hbox); have _ := AM ((by rw [hg]; exact (keep_size (w := w) (g := g) (row := none) (hX HK.out)) : w.heap.size ≤ gb104)); have _ := AM ((Nat.le_trans HW0.out (by rw [hg]; exact (keep_size (w := w) (g := g) (row := none) (hX HK.out)) : w.heap.size ≤ gb104) : w0.heap.size ≤ gb104)); have _ := AM ((by rw [hg]; exact Nat.ne_of_lt (IsS39.lt (show IsS39 w0 _ g s0_0 s0_1 false from iX39_6_spec_l06Reader_num HI0.out)) : g ≠ gb104)); have _ := AM ((by rw [hg]; exact Nat.ne_of_gt (IsS39.lt (show IsS39 w0 _ g s0_0 s0_1 false from iX39_6_spec_l06Reader_num HI0.out)) : gb104 ≠ g)); clear HI0 HK HB; rename_i HI0 HK HB BK104 GW104 GE104 NB0_104 NB104_0; clear hb hbox hg; refine hK.out _ _ ⟨(kC (AM HI0.out.1).out 0).trans rfl, (kC (AM HI0.out.1).out 1).trans rfl, (kC (AM HI0.out.1).out 2).trans rfl⟩ (fun hHeld => ?_); clear hK K; refine norm_ (a' := ?_) ?_ ?_; rotate_left
   ·
    show Act.put _ (some 3) _ = _
    simp only [Act.put, sA, sB, sC, i64_w, i32_w]
    rfl
   refine oU 8 12 (upTo 10 11) HT_.out (fun K hK => ?_); refine gs Try.func33 #[.string s0_0, .int .i64 s0_1] ?_; with_reducible refine (spec_GetNum.calls k s0_0 s0_1 t101 t102 t103 _ A2.out).mono ?_
   rintro e w15 ⟨rfl, hb⟩; refine ⟨_, rfl, ?_⟩; have _ := AM (IsS39.below (iX39_6_spec_l06Reader_num HI0.out) hb); have _ := AM (nB BK104.out hb); have _ := AM (KeepBut.trans (hX HK.out) (KeepBut.of_below hb g none) (.inl rfl)); have _ := AM (below_step (bI39_0_spec_l06Reader_num HB.out) hb); clear HI0 BK104 HK HB; rename_i HI0 BK104 HK HB; (try clear hb); (try clear hk); refine hK.out _ _ ⟨(kC (AM HI0.out.1).out 0).trans rfl, (kC (AM HI0.out.1).out 1).trans rfl, (kC (AM HI0.out.1).out 2).trans rfl⟩ (fun hHeld => ?_); clear hK K; refine norm_ (a' := ?_) ?_ ?_; rotate_left
   ·
    show Act.put _ (some 12) _ = _
    simp only [Act.put, sA, sB, sC, i64_w, i32_w]
    rfl
   exact norm_ (by simp only [putAll, Act.put, List.setIfInBounds_toArray, List.set_cons_zero, List.set_cons_succ]) (hCont (gb104) _ ⟨hHeld, (kX BK104.out), GW104.out, GE104.out, NB0_104.out, NB104_0.out, (iX39_6_spec_l06Reader_num HI0.out), (hX HK.out), (bI39_0_spec_l06Reader_num HB.out)⟩)
  rintro gb104 w16 ⟨hS_, h0_, h1_, h2_, h3_, h4_, h5_, h6_, h7_⟩; have _ : Aside0 (w16.heap[gb104]? = some (.cells #[.int .i64 0, .int .i64 0, .int .i64 0] 63 (0, 0))) := ⟨h0_⟩; have _ : Aside0 (w.heap.size ≤ gb104) := ⟨h1_⟩; have _ : Aside0 (w0.heap.size ≤ gb104) := ⟨h2_⟩; have _ : Aside0 (g ≠ gb104) := ⟨h3_⟩; have _ : Aside0 (gb104 ≠ g) := ⟨h4_⟩; have _ : Aside0 (IsS39 w0 w16 g s0_0 s0_1 false) := ⟨h5_⟩; have _ : Aside0 (KeepBut w w16 g none) := ⟨h6_⟩; have _ : Aside0 (Below w0.heap.size w0 w16) := ⟨h7_⟩; clear HI0 HK HB h0_ h1_ h2_ h3_ h4_ h5_ h6_ h7_; rename_i BK104 GW104 GE104 NB0_104 NB104_0 HI0 HK HB; have hHeld : w16.cell? ⟨g, 0, none⟩ = some (.string s0_0) ∧ w16.cell? ⟨g, 1, none⟩ = some (.int .i64 s0_1) ∧ w16.cell? ⟨g, 2, none⟩ = some (.bool false) := hS_; refine norm_ (a' := ?_) ?_ ?_; rotate_left
  ·
   simp only [putAll, Act.put, List.setIfInBounds_toArray, List.set_cons_zero, List.set_cons_succ]
   rfl
  refine one_ (i := 10) (N := none) (upTo 11 11) rfl rfl (one_of HT_.out (by kernel_rfl)) (by decide) (fun K hK => ?_); have hs17 : w16.cell? ⟨gb104, 0, none⟩ = some (.int .i64 0) := hC BK104.out 0; have hfs17 := fZ BK104.out 0; have hs18 : w16.cell? ⟨gb104, 1, none⟩ = some (.int .i64 0) := hC BK104.out 1; have hfs18 := fZ BK104.out 1; have hs19 : w16.cell? ⟨gb104, 2, none⟩ = some (.int .i64 0) := hC BK104.out 2; have hfs19 := fZ BK104.out 2; refine skip_ (w1 := ?_) (by rfl) rfl ?_ ?_; rotate_left
  ·
   go_simp
   rfl
  refine hK.out _ _ ⟨(cT NB0_104.out ((cT NB0_104.out ((cT NB0_104.out (hHeld.1)))))), (cT NB0_104.out ((cT NB0_104.out ((cT NB0_104.out (hHeld.2.1)))))), (cT NB0_104.out ((cT NB0_104.out ((cT NB0_104.out (hHeld.2.2))))))⟩ (fun hHeld => ?_); clear hK K; refine done_ (done_of HT_.out (by kernel_rfl)) ?_; obtain ⟨HGz20, hgz20⟩ := HI0.out; have hcz20_0 := cellS39_0 HGz20; have hcz20_1 := cellS39_1 HGz20; have hcz20_2 := cellS39_2 HGz20; have hfz20_0 := fZ HGz20 0; have hfz20_1 := fZ HGz20 1; have hfz20_2 := fZ HGz20 2; clear HGz20 hgz20; have hnb21 := NB104_0.out; have hnc21 := NB0_104.out; have hcz22 := q3 BK104.out; have hfz22 := fZ BK104.out; try go_wp2
  go_ret
  exact ⟨by first | rfl | (simp [*, errW_none, errW_some] <;> rfl), iX39_6_spec_l06Reader_num HI0.out, bI39_0_spec_l06Reader_num HB.out, hX HK.out⟩
 rw [if_neg c12] at H; have c12b0 : (t103 == 0) = false := beq_eq_false_iff_ne.mpr c12; have c12b1 : (t103 != 0) = true := bne_iff_ne.mpr c12; simp only [Option.some.injEq, Prod.mk.injEq] at H
 obtain ⟨rfl, rfl, rfl, rfl⟩ := H; go_enter Try.func17, Try.ntmps17
 try go_wp2
 have _ := AM (IsS39.drew HI0.out); have _ := AM (keep_drew HK.out); have _ := AM (bD HB.out); clear HI0 HK HB; rename_i HI0 HK HB; refine start_ (n := 11) (S := fun w' => w'.cell? ⟨g, 0, none⟩ = some (.string s0_0) ∧ w'.cell? ⟨g, 1, none⟩ = some (.int .i64 s0_1) ∧ w'.cell? ⟨g, 2, none⟩ = some (.bool false)) (ds := []) (upTo 0 11) (by kernel_rfl) rfl rfl ⟨(kC (AM HI0.out.1).out 0).trans rfl, (kC (AM HI0.out.1).out 1).trans rfl, (kC (AM HI0.out.1).out 2).trans rfl⟩ (fun hHeld => ?_); refine with_tabW spec_l06Reader_num.tab1 spec_l06Reader_num.bits1 (fun HT_ HW_ => ?_); generalize w.drew = w23 at HI0 HK HB hHeld ⊢; refine pF 0 1 11 4 ?_; refine pF 1 2 11 5 ?_; refine pF 2 3 11 6 ?_; refine pF2 4 8 spec_l06Reader_num.b0 ?_; refine pF2 5 9 spec_l06Reader_num.b1 ?_; refine pF2 6 10 spec_l06Reader_num.b2 ?_; refine pT2 3 7 (upTo 7 11) ?_ hHeld; refine pT2 7 11 (upTo 8 11) ?_ hHeld; refine join_ (σ := Nat) 1 (upTo 10 11) (fun s_ => [(12, .agg #[.int .i64 t101, .int .i64 t102, .int .i64 t103]), (3, .pointer (some ⟨s_, 0, none⟩))]) (fun s_ w' => (w'.cell? ⟨g, 0, none⟩ = some (.string s0_0) ∧ w'.cell? ⟨g, 1, none⟩ = some (.int .i64 s0_1) ∧ w'.cell? ⟨g, 2, none⟩ = some (.bool false)) ∧ (w'.heap[s_]? = some (.cells #[.int .i64 0, .int .i64 0, .int .i64 0] 63 (0, 0))) ∧ (w.heap.size ≤ s_) ∧ (w0.heap.size ≤ s_) ∧ (g ≠ s_) ∧ (s_ ≠ g) ∧ (IsS39 w0 w' g s0_0 s0_1 false) ∧ (KeepBut w w' g none) ∧ (Below w0.heap.size w0 w')) ?_ ?_; rotate_left
 ·
  intro hCont; refine two_ (i := 8) (j := 9) (Ni := some 12) (Nj := some 3) (upTo 9 11) spec_l06Reader_num.b3 rfl rfl rfl rfl (two_of HT_.out (by kernel_rfl)) (by decide) (by decide) (fun K hK => ?_) (fun K hK => ?_)
  ·
   skip
   refine gs Try.func33 #[.string s0_0, .int .i64 s0_1] ?_; with_reducible refine (spec_GetNum.calls k s0_0 s0_1 t101 t102 t103 _ A2.out).mono ?_
   rintro e w24 ⟨rfl, hb⟩; refine ⟨_, rfl, ?_⟩; have _ := AM (IsS39.below (iX39_6_spec_l06Reader_num HI0.out) hb); have _ := AM (KeepBut.trans (hX HK.out) (KeepBut.of_below hb g none) (.inl rfl)); have _ := AM (below_step (bI39_0_spec_l06Reader_num HB.out) hb); clear HI0 HK HB; rename_i HI0 HK HB; (try clear hb); (try clear hk); refine hK.out _ _ ⟨(kC (AM HI0.out.1).out 0).trans rfl, (kC (AM HI0.out.1).out 1).trans rfl, (kC (AM HI0.out.1).out 2).trans rfl⟩ (fun hHeld => ?_); clear hK K; refine norm_ (a' := ?_) ?_ ?_; rotate_left
   ·
    show Act.put _ (some 12) _ = _
    simp only [Act.put, sA, sB, sC, i64_w, i32_w]
    rfl
   refine oU 9 3 (upTo 10 11) HT_.out (fun K hK => ?_); refine box_step ?hg (N := 3) ?hd (cs := #[.int .i64 0, .int .i64 0, .int .i64 0]) (t := 63) ?hr ?_; (case hd => rfl); (case hg => rfl); (case hr => first | (go_simp; done) | (go_simp; rfl)); intro gb104 hg w25 hbox hb; have _ := AM (IsS39.below (iX39_6_spec_l06Reader_num HI0.out) hb); have _ := AM (KeepBut.trans (hX HK.out) (KeepBut.of_below hb g none) (.inl rfl)); have _ := AM (below_step (bI39_0_spec_l06Reader_num HB.out) hb); have _ := AM (hbox); have _ := AM ((by rw [hg]; exact (keep_size (w := w) (g := g) (row := none) (hX HK.out)) : w.heap.size ≤ gb104)); have _ := AM ((Nat.le_trans HW0.out (by rw [hg]; exact (keep_size (w := w) (g := g) (row := none) (hX HK.out)) : w.heap.size ≤ gb104) : w0.heap.size ≤ gb104)); have _ := AM ((by rw [hg]; exact Nat.ne_of_lt (IsS39.lt (show IsS39 w0 _ g s0_0 s0_1 false from iX39_6_spec_l06Reader_num HI0.out)) : g ≠ gb104)); have _ := AM ((by rw [hg]; exact Nat.ne_of_gt (IsS39.lt (show IsS39 w0 _ g s0_0 s0_1 false from iX39_6_spec_l06Reader_num HI0.out)) : gb104 ≠ g)); clear HI0 HK HB; rename_i HI0 HK HB BK104 GW104 GE104 NB0_104 NB104_0; clear hb hbox hg; refine hK.out _ _ ⟨(kC (AM HI0.out.1).out 0).trans rfl, (kC (AM HI0.out.1).out 1).trans rfl, (kC (AM HI0.out.1).out 2).trans rfl⟩ (fun hHeld => ?_); clear hK K; refine norm_ (a' := ?_) ?_ ?_; rotate_left
   ·
    show Act.put _ (some 3) _ = _
    simp only [Act.put, sA, sB, sC, i64_w, i32_w]
    rfl
   exact norm_ (by simp only [putAll, Act.put, List.setIfInBounds_toArray, List.set_cons_zero, List.set_cons_succ]) (hCont (gb104) _ ⟨hHeld, (kX BK104.out), GW104.out, GE104.out, NB0_104.out, NB104_0.out, (iX39_6_spec_l06Reader_num HI0.out), (hX HK.out), (bI39_0_spec_l06Reader_num HB.out)⟩)
  skip
  refine box_step ?hg (N := 3) ?hd (cs := #[.int .i64 0, .int .i64 0, .int .i64 0]) (t := 63) ?hr ?_; (case hd => rfl); (case hg => rfl); (case hr => first | (go_simp; done) | (go_simp; rfl)); intro gb104 hg w24 hbox hb; have _ := AM (IsS39.below (iX39_6_spec_l06Reader_num HI0.out) hb); have _ := AM (KeepBut.trans (hX HK.out) (KeepBut.of_below hb g none) (.inl rfl)); have _ := AM (below_step (bI39_0_spec_l06Reader_num HB.out) hb); have _ := AM (hbox); have _ := AM ((by rw [hg]; exact (keep_size (w := w) (g := g) (row := none) (hX HK.out)) : w.heap.size ≤ gb104)); have _ := AM ((Nat.le_trans HW0.out (by rw [hg]; exact (keep_size (w := w) (g := g) (row := none) (hX HK.out)) : w.heap.size ≤ gb104) : w0.heap.size ≤ gb104)); have _ := AM ((by rw [hg]; exact Nat.ne_of_lt (IsS39.lt (show IsS39 w0 _ g s0_0 s0_1 false from iX39_6_spec_l06Reader_num HI0.out)) : g ≠ gb104)); have _ := AM ((by rw [hg]; exact Nat.ne_of_gt (IsS39.lt (show IsS39 w0 _ g s0_0 s0_1 false from iX39_6_spec_l06Reader_num HI0.out)) : gb104 ≠ g)); clear HI0 HK HB; rename_i HI0 HK HB BK104 GW104 GE104 NB0_104 NB104_0; clear hb hbox hg; refine hK.out _ _ ⟨(kC (AM HI0.out.1).out 0).trans rfl, (kC (AM HI0.out.1).out 1).trans rfl, (kC (AM HI0.out.1).out 2).trans rfl⟩ (fun hHeld => ?_); clear hK K; refine norm_ (a' := ?_) ?_ ?_; rotate_left
  ·
   show Act.put _ (some 3) _ = _
   simp only [Act.put, sA, sB, sC, i64_w, i32_w]
   rfl
  refine oU 8 12 (upTo 10 11) HT_.out (fun K hK => ?_); refine gs Try.func33 #[.string s0_0, .int .i64 s0_1] ?_; with_reducible refine (spec_GetNum.calls k s0_0 s0_1 t101 t102 t103 _ A2.out).mono ?_
  rintro e w25 ⟨rfl, hb⟩; refine ⟨_, rfl, ?_⟩; have _ := AM (IsS39.below (iX39_6_spec_l06Reader_num HI0.out) hb); have _ := AM (nB BK104.out hb); have _ := AM (KeepBut.trans (hX HK.out) (KeepBut.of_below hb g none) (.inl rfl)); have _ := AM (below_step (bI39_0_spec_l06Reader_num HB.out) hb); clear HI0 BK104 HK HB; rename_i HI0 BK104 HK HB; (try clear hb); (try clear hk); refine hK.out _ _ ⟨(kC (AM HI0.out.1).out 0).trans rfl, (kC (AM HI0.out.1).out 1).trans rfl, (kC (AM HI0.out.1).out 2).trans rfl⟩ (fun hHeld => ?_); clear hK K; refine norm_ (a' := ?_) ?_ ?_; rotate_left
  ·
   show Act.put _ (some 12) _ = _
   simp only [Act.put, sA, sB, sC, i64_w, i32_w]
   rfl
  exact norm_ (by simp only [putAll, Act.put, List.setIfInBounds_toArray, List.set_cons_zero, List.set_cons_succ]) (hCont (gb104) _ ⟨hHeld, (kX BK104.out), GW104.out, GE104.out, NB0_104.out, NB104_0.out, (iX39_6_spec_l06Reader_num HI0.out), (hX HK.out), (bI39_0_spec_l06Reader_num HB.out)⟩)
 rintro gb104 w26 ⟨hS_, h0_, h1_, h2_, h3_, h4_, h5_, h6_, h7_⟩; have _ : Aside0 (w26.heap[gb104]? = some (.cells #[.int .i64 0, .int .i64 0, .int .i64 0] 63 (0, 0))) := ⟨h0_⟩; have _ : Aside0 (w.heap.size ≤ gb104) := ⟨h1_⟩; have _ : Aside0 (w0.heap.size ≤ gb104) := ⟨h2_⟩; have _ : Aside0 (g ≠ gb104) := ⟨h3_⟩; have _ : Aside0 (gb104 ≠ g) := ⟨h4_⟩; have _ : Aside0 (IsS39 w0 w26 g s0_0 s0_1 false) := ⟨h5_⟩; have _ : Aside0 (KeepBut w w26 g none) := ⟨h6_⟩; have _ : Aside0 (Below w0.heap.size w0 w26) := ⟨h7_⟩; clear HI0 HK HB h0_ h1_ h2_ h3_ h4_ h5_ h6_ h7_; rename_i BK104 GW104 GE104 NB0_104 NB104_0 HI0 HK HB; have hHeld : w26.cell? ⟨g, 0, none⟩ = some (.string s0_0) ∧ w26.cell? ⟨g, 1, none⟩ = some (.int .i64 s0_1) ∧ w26.cell? ⟨g, 2, none⟩ = some (.bool false) := hS_; refine norm_ (a' := ?_) ?_ ?_; rotate_left
 ·
  simp only [putAll, Act.put, List.setIfInBounds_toArray, List.set_cons_zero, List.set_cons_succ]
  rfl
 refine one_ (i := 10) (N := none) (upTo 11 11) rfl rfl (one_of HT_.out (by kernel_rfl)) (by decide) (fun K hK => ?_); have hs27 : w26.cell? ⟨gb104, 0, none⟩ = some (.int .i64 0) := hC BK104.out 0; have hfs27 := fZ BK104.out 0; have hs28 : w26.cell? ⟨gb104, 1, none⟩ = some (.int .i64 0) := hC BK104.out 1; have hfs28 := fZ BK104.out 1; have hs29 : w26.cell? ⟨gb104, 2, none⟩ = some (.int .i64 0) := hC BK104.out 2; have hfs29 := fZ BK104.out 2; refine skip_ (w1 := ?_) (by rfl) rfl ?_ ?_; rotate_left
 ·
  go_simp
  rfl
 refine hK.out _ _ ⟨(cT NB0_104.out ((cT NB0_104.out ((cT NB0_104.out (hHeld.1)))))), (cT NB0_104.out ((cT NB0_104.out ((cT NB0_104.out (hHeld.2.1)))))), (cT NB0_104.out ((cT NB0_104.out ((cT NB0_104.out (hHeld.2.2))))))⟩ (fun hHeld => ?_); clear hK K; refine done_ (done_of HT_.out (by kernel_rfl)) ?_; obtain ⟨HGz30, hgz30⟩ := HI0.out; have hcz30_0 := cellS39_0 HGz30; have hcz30_1 := cellS39_1 HGz30; have hcz30_2 := cellS39_2 HGz30; have hfz30_0 := fZ HGz30 0; have hfz30_1 := fZ HGz30 1; have hfz30_2 := fZ HGz30 2; clear HGz30 hgz30; have hnb31 := NB104_0.out; have hnc31 := NB0_104.out; have hcz32 := q3 BK104.out; have hfz32 := fZ BK104.out; try go_wp2
 go_ret
 exact ⟨by first | rfl | (simp [*, errW_none, errW_some] <;> rfl), iX39_6_spec_l06Reader_num HI0.out, bI39_0_spec_l06Reader_num HB.out, hX HK.out⟩

/-! ### spec_l06Reader_many: function 15 -/

def spec_l06Reader_many.f (k : Nat) (s0_0 : ByteArray) (s0_1 : Int) (s0_2 : Bool) (a1 : Int) : Option (Int × ByteArray × Int × Bool) := (spec_l06Reader_num.f k s0_0 s0_1 s0_2).bind fun bt101 => ((spec_l03Is.f bt101.1 0 a1).bind fun t105 => (if t105 = true then (some (bt101.1, bt101.2.1, bt101.2.2.1, bt101.2.2.2)) else (some (0, bt101.2.1, bt101.2.2.1, true))))
theorem spec_l06Reader_many.mono : ∀ a0 a1 a2 a3 k, LeO (spec_l06Reader_many.f k a0 a1 a2 a3) (spec_l06Reader_many.f (k + 1) a0 a1 a2 a3) := by
  intro a0 a1 a2 a3 k; unfold spec_l06Reader_many.f
  repeat' first | (with_reducible first | exact spec_l06Reader_num.mono _ _ _ _ | exact oR _ | exact oN _ | refine oI ?_ ?_ | refine oB ?_ fun _ => ?_) | exact spec_l06Reader_num.mono _ _ _ _ | exact oN _ | refine oI ?_ ?_ | refine oB ?_ fun _ => ?_
theorem bI39_0_spec_l06Reader_many {n : Nat} {w W W' : World} (h : Below n w W) (f : Below n w W → Below n w W' := by intro h_; repeat (first | (with_reducible first | exact h_ | apply bA | apply bN | apply bD | refine bS ?_ (IsS39.ge HI0.out) | refine bS ?_ (Aside0.out (by assumption))) | exact h_)) : Below n w W' := f h
theorem iX39_6_spec_l06Reader_many {p q : Prop} (h : p) (f : p → q := by intro h_; repeat (first | (with_reducible first | exact h_ | apply IsS39.alloc | apply IsS39.drewN | apply IsS39.drew | apply IsS39.set_0 | apply IsS39.set_1 | apply IsS39.set_2 | refine IsS39.far ?_ (Aside0.out (by assumption)) _ | apply IsS39.far | exact Aside0.out (by assumption)) | exact h_)) : q := f h
set_option maxHeartbeats 60000000 in
set_option maxRecDepth 100000 in
theorem spec_l06Reader_many.calls (k : Nat) (g : Nat) (s0_0 : ByteArray) (s0_1 : Int) (s0_2 : Bool) (a1 : Int) (r1 : Int) (r2 : ByteArray) (r3 : Int) (r4 : Bool) (w0 w : World) (hI : IsS39 w0 w g s0_0 s0_1 s0_2) (hB : Below w0.heap.size w0 w) (h : spec_l06Reader_many.f k s0_0 s0_1 s0_2 a1 = some (r1, r2, r3, r4)) :
    Calls Try.prog 15 #[.pointer (some ⟨g, 0, none⟩), .int .i64 a1] w fun e w' => e = .returned (.int .i64 r1) ∧ IsS39 w0 w' g r2 r3 r4 ∧ Below w0.heap.size w0 w' ∧ KeepBut w w' g none := by
 have HI0 := AM hI; have HK := AM (KeepBut.refl w g none); have HL := AM hB.size; clear hI; have HW0 := AM hB.size; have HB := AM hB; clear hB; have H : ((spec_l06Reader_num.f k s0_0 s0_1 s0_2).bind fun bt101 => ((spec_l03Is.f bt101.1 0 a1).bind fun t105 => (if t105 = true then (some (bt101.1, bt101.2.1, bt101.2.2.1, bt101.2.2.2)) else (some (0, bt101.2.1, bt101.2.2.1, true))))) = some (r1, r2, r3, r4) := h; clear h; replace H := oM H; obtain ⟨⟨t101, t102, t103, t104⟩, A30, H⟩ := H; try dsimp only at H
 have A3 := AM A30; clear A30; replace H := oM H; obtain ⟨t105, A40, H⟩ := H; have A4 := AM A40; clear A40; by_cases c5 : t105 = true
 ·
  subst c5; rw [if_pos rfl] at H; simp only [Option.some.injEq, Prod.mk.injEq] at H
  obtain ⟨rfl, rfl, rfl, rfl⟩ := H; go_enter Try.func15, Try.ntmps15
  go_wp2_with (first | ((with_reducible refine gate_callee (f := 17) rfl ?_); refine gL (some 7) Try.func17 #[.pointer (some ⟨g, 0, none⟩)] ?_; (with_reducible refine (spec_l06Reader_num.calls k g s0_0 s0_1 s0_2 t101 t102 t103 t104 w0 _ ?side1 ?side2 A3.out).mono ?_); (case side1 => exact (iX39_6_spec_l06Reader_many HI0.out)); (case side2 => exact (bI39_0_spec_l06Reader_many HB.out)); rintro e w6 ⟨rfl, hi, hb, hk⟩; refine ⟨_, rfl, ?_⟩; have _ := AM (KeepBut.trans (hX HK.out) hk (.inl rfl)); have _ := AM (hb); have _ := AM (hi); clear HK HB HI0; rename_i HK HB HI0; (try clear hb); (try clear hb2); (try clear hk); (try clear hi)) | ((with_reducible refine gate_callee (f := 32) rfl ?_); refine gL (some 10) Try.func32 #[.int .i64 t101, .int .i64 0, .int .i64 a1] ?_; (with_reducible refine (spec_l03Is.calls t101 0 a1 true _ A4.out).mono ?_); rintro e w' ⟨rfl, ⟨nd, rfl⟩⟩; refine ⟨_, rfl, ?_⟩))
  go_ret
  exact ⟨by first | rfl | (simp [*, errW_none, errW_some] <;> rfl), iX39_6_spec_l06Reader_many HI0.out, bI39_0_spec_l06Reader_many HB.out, hX HK.out⟩
 replace c5 := oE c5; subst c5; rw [if_neg nft] at H; simp only [Option.some.injEq, Prod.mk.injEq] at H
 obtain ⟨rfl, rfl, rfl, rfl⟩ := H; go_enter Try.func15, Try.ntmps15
 go_wp2_with (first | ((with_reducible refine gate_callee (f := 17) rfl ?_); refine gL (some 7) Try.func17 #[.pointer (some ⟨g, 0, none⟩)] ?_; (with_reducible refine (spec_l06Reader_num.calls k g s0_0 s0_1 s0_2 t101 t102 t103 t104 w0 _ ?side1 ?side2 A3.out).mono ?_); (case side1 => exact (iX39_6_spec_l06Reader_many HI0.out)); (case side2 => exact (bI39_0_spec_l06Reader_many HB.out)); rintro e w7 ⟨rfl, hi, hb, hk⟩; refine ⟨_, rfl, ?_⟩; have _ := AM (KeepBut.trans (hX HK.out) hk (.inl rfl)); have _ := AM (hb); have _ := AM (hi); clear HK HB HI0; rename_i HK HB HI0; (try clear hb); (try clear hb2); (try clear hk); (try clear hi)) | ((with_reducible refine gate_callee (f := 32) rfl ?_); refine gL (some 10) Try.func32 #[.int .i64 t101, .int .i64 0, .int .i64 a1] ?_; (with_reducible refine (spec_l03Is.calls t101 0 a1 false _ A4.out).mono ?_); rintro e w' ⟨rfl, ⟨nd, rfl⟩⟩; refine ⟨_, rfl, ?_⟩; (try (rw [drewN_self w7]; generalize hq_ : World.drewN w7 _ = w7; have _ : Aside0 (IsS39 w0 w7 g t102 t103 t104) := ⟨by rw [← hq_]; exact (iX39_6_spec_l06Reader_many HI0.out)⟩; have _ : Aside0 (KeepBut w w7 g none) := ⟨by rw [← hq_]; exact (hX HK.out)⟩; have _ : Aside0 (Below w0.heap.size w0 w7) := ⟨by rw [← hq_]; exact (bI39_0_spec_l06Reader_many HB.out)⟩; clear HI0 HK HB hq_; rename_i HI0 HK HB)); obtain ⟨HGz8, hgz8⟩ := HI0.out; have hcz8_0 := cellS39_0 HGz8; have hcz8_1 := cellS39_1 HGz8; have hcz8_2 := cellS39_2 HGz8; have hfz8_0 := fZ HGz8 0; have hfz8_1 := fZ HGz8 1; have hfz8_2 := fZ HGz8 2; clear HGz8 hgz8))
 go_ret
 exact ⟨by first | rfl | (simp [*, errW_none, errW_some] <;> rfl), iX39_6_spec_l06Reader_many HI0.out, bI39_0_spec_l06Reader_many HB.out, hX HK.out⟩

/-! ### spec_GetText: function 34 -/
abbrev spec_GetText.b0 : Array Bool := #[true, true, false, true, false, false, false, false, false, false, false, false, false, false, false, false]
abbrev spec_GetText.b1 : Array Bool := #[true, true, false, true, false, true, false, false, false, false, false, false, false, false, false, false]
abbrev spec_GetText.b2 : Array Bool := #[true, true, false, true, false, true, false, false, false, true, false, false, false, false, false, false]
abbrev spec_GetText.b3 : Array Bool := #[true, true, false, true, false, true, false, false, false, true, false, true, false, false, false, false]
abbrev spec_GetText.b4 : Array Bool := #[true, true, true, true, false, true, false, false, false, true, false, true, false, false, false, false]
abbrev spec_GetText.b5 : Array Bool := #[true, true, true, true, true, true, false, false, false, true, false, true, false, false, false, false]
abbrev spec_GetText.b6 : Array Bool := #[true, true, true, true, true, true, true, false, false, true, false, true, false, false, false, false]
abbrev spec_GetText.b7 : Array Bool := #[true, true, true, true, true, true, true, true, false, true, false, true, false, false, false, false]
abbrev spec_GetText.b8 : Array Bool := #[true, true, true, true, true, true, true, true, true, true, false, true, false, false, false, false]
def spec_GetText.j0 : Nat → ByteArray → Bool → Int → Int → Int → Option (ByteArray × Int × Int)
  | 0, _, _, _, _, _ => none
  | k + 1, x0, x22, x106000, x106001, x106002 => if x22 = true then (some ((⟨#[]⟩ : ByteArray), 0, 3)) else (if x106001 > (wrap64 ((x0.size : Int) - x106000)) then (some ((⟨#[]⟩ : ByteArray), 0, 4)) else (if 0 ≤ x106001 then (if x106001 ≤ (wrap64 (x106001 + x106000)) then (if (wrap64 (x106001 + x106000)) ≤ (x0.size : Int) then (some (x0.extract (x106001 : Int).toNat ((wrap64 (x106001 + x106000)) : Int).toNat, wrap64 (x106001 + x106000), 0)) else (none)) else (none)) else (none)))
def spec_GetText.f (k : Nat) (a0 : ByteArray) (a1 : Int) : Option (ByteArray × Int × Int) := (spec_GetNum.f k a0 a1).bind fun bt102 => (if bt102.2.2 = 0 then (if bt102.1 < 0 then (spec_GetText.j0 k a0 true bt102.1 bt102.2.1 bt102.2.2) else (spec_GetText.j0 k a0 (decide (bt102.1 > 20000)) bt102.1 bt102.2.1 bt102.2.2)) else (some ((⟨#[]⟩ : ByteArray), 0, bt102.2.2)))
theorem spec_GetText.mono_l : ∀ k, (∀ y0 y1 y2 y3 y4, LeO (spec_GetText.j0 k y0 y1 y2 y3 y4) (spec_GetText.j0 (k + 1) y0 y1 y2 y3 y4))
  | 0 => fun _ _ _ _ _ r h => by simp [spec_GetText.j0] at h
  | k + 1 => by
    have ih0 := spec_GetText.mono_l k
    · intro y0 y1 y2 y3 y4
      unfold spec_GetText.j0
      repeat' first | (with_reducible first | exact ih0 _ _ _ _ _ | exact spec_GetNum.mono _ _ _ | exact oR _ | exact oN _ | refine oI ?_ ?_ | refine oB ?_ fun _ => ?_) | exact ih0 _ _ _ _ _ | exact spec_GetNum.mono _ _ _ | exact oN _ | refine oI ?_ ?_ | refine oB ?_ fun _ => ?_
theorem spec_GetText.mono : ∀ a0 a1 k, LeO (spec_GetText.f k a0 a1) (spec_GetText.f (k + 1) a0 a1) := by
  intro a0 a1 k; have ih0 := spec_GetText.mono_l k; unfold spec_GetText.f
  repeat' first | (with_reducible first | exact ih0 _ _ _ _ _ | exact spec_GetNum.mono _ _ _ | exact oR _ | exact oN _ | refine oI ?_ ?_ | refine oB ?_ fun _ => ?_) | exact ih0 _ _ _ _ _ | exact spec_GetNum.mono _ _ _ | exact oN _ | refine oI ?_ ?_ | refine oB ?_ fun _ => ?_
def spec_GetText.T8 : Bool × List (List Nat × List Nat) := (true, [([], []), ([], []), ([1], [1]), ([], []), ([3], [3]), ([], []), ([5], [5]), ([4, 6], [4, 6]), ([0, 2, 7], [0, 2, 7]), ([], []), ([9], [9]), ([], []), ([11], [11]), ([10, 12], [10, 12]), ([8, 13], [8, 13]), ([14, 0, 1, 2, 3, 4, 5, 6, 7, 8, 9, 10, 11, 12, 13, 14], [14])])
def spec_GetText.B8 : List Nat := [0, 0, 2, 0, 8, 0, 32, 120, 255, 0, 512, 0, 2048, 7680, 16383, 32767]
theorem spec_GetText.tab8 : rtab .any (opsOf Try.f34 8) = spec_GetText.T8 := by kernel_rfl
theorem spec_GetText.bits8 : waitsOk spec_GetText.T8.2 spec_GetText.B8 = true := by kernel_rfl
set_option maxHeartbeats 60000000 in
set_option maxRecDepth 100000 in
theorem spec_GetText.calls (k : Nat) (a0 : ByteArray) (a1 : Int) (r1 : ByteArray) (r2 : Int) (r3 : Int) (w : World) (h : spec_GetText.f k a0 a1 = some (r1, r2, r3)) :
    Calls Try.prog 34 #[.string a0, .int .i64 a1] w fun e w' => e = .returned (.agg #[.string r1, .int .i64 r2, .int .i64 r3]) ∧ Below w.heap.size w w' := by
 have hu66 := Try.underlying66; have hu63 := Try.underlying63; have HB := AM (Below.refl w.heap.size w); have H : ((spec_GetNum.f k a0 a1).bind fun bt102 => (if bt102.2.2 = 0 then (if bt102.1 < 0 then (spec_GetText.j0 k a0 true bt102.1 bt102.2.1 bt102.2.2) else (spec_GetText.j0 k a0 (decide (bt102.1 > 20000)) bt102.1 bt102.2.1 bt102.2.2)) else (some ((⟨#[]⟩ : ByteArray), 0, bt102.2.2)))) = some (r1, r2, r3) := h; clear h; replace H := oM H; obtain ⟨⟨t102, t103, t104⟩, A30, H⟩ := H; try dsimp only at H
 have A3 := AM A30; clear A30; by_cases c4 : t104 = 0
 ·
  rw [if_pos c4] at H; have c4b0 : (t104 == 0) = true := beq_iff_eq.mpr c4; have c4b1 : (t104 != 0) = false := bne_eq_false_iff_eq.mpr c4; clear c4; have HC5 := AM H; clear H; go_enter Try.func34, Try.ntmps34
  go_upto_region 4 with (first | ((with_reducible refine gate_dst (N := 4) rfl ?_); refine bE (cs := #[.string (⟨#[]⟩ : ByteArray), .int .i64 0, .int .i64 0]) (t := 66) ?_; intro gb101 hg w6 hbox hb; have _ := AM (below_step (bX HB.out) hb); have _ := AM (hbox); have n2_ := AM (gZ hg (bZ (bX HB.out))); clear HB; rename_i HB BK101; have GW101 := n2_; have GE101 := n2_; clear n2_; clear hb hbox hg) | ((with_reducible refine gate_callee (f := 33) rfl ?_); refine gL (some 8) Try.func33 #[.string a0, .int .i64 a1] ?_; (with_reducible refine (spec_GetNum.calls k a0 a1 t102 t103 t104 _ A3.out).mono ?_); rintro e w7 ⟨rfl, hb⟩; refine ⟨_, rfl, ?_⟩; have _ := AM (nB BK101.out hb); have _ := AM (below_step (bX HB.out) hb); clear BK101 HB; rename_i BK101 HB; (try clear hb); (try clear hk)) | ((with_reducible refine gate_dst (N := 5) rfl ?_); refine bE (cs := #[.int .i64 0, .int .i64 0, .int .i64 0]) (t := 63) ?_; intro gb105 hg w8 hbox hb; have _ := AM (nB BK101.out hb); have _ := AM (below_step (bX HB.out) hb); have _ := AM (hbox); have n3_ := AM (gZ hg (bZ (bX HB.out))); have _ := AM (lX hg BK101.out); have _ := AM (lX hg BK101.out).symm; clear BK101 HB; rename_i BK101 HB BK105 NB101_105 NB105_101; have GW105 := n3_; have GE105 := n3_; clear n3_; clear hb hbox hg; have hnb9 := NB105_101.out; have hnc9 := NB101_105.out; have hcz10 := q3 BK105.out; have hfz10 := fZ BK105.out))
  (try simp only [Act.put, List.setIfInBounds_toArray, List.set_cons_zero, List.set_cons_succ]); go_cut [22] (fun v22 wc => ∃ (kq : Nat) (x22_4 : Bool), v22 = .bool x22_4 ∧ Aside0 (spec_GetText.j0 kq a0 x22_4 t102 t103 t104 = some (r1, r2, r3)) ∧ Aside0 (kq ≤ k) ∧ Aside0 (wc.heap[gb101]? = some (.cells #[.string (⟨#[]⟩ : ByteArray), .int .i64 0, .int .i64 0] 66 (0, 0))) ∧ Aside0 (wc.heap[gb105]? = some (.cells #[.int .i64 t102, .int .i64 t103, .int .i64 t104] 63 (0, 0))) ∧ Aside0 (Below w.heap.size w wc))
  case first =>
   have H := HC5.out; clear HC5; by_cases c11 : t102 < 0
   ·
    rw [if_pos c11] at H; have c11b0 := dY c11; clear c11
    (first | rw [c11b0] | (simp only [i64_w, i32_w]; rw [c11b0]) | skip)
    have H' := AM H; clear H; have hnb12 := NB105_101.out; have hnc12 := NB101_105.out; have hcz13 := q3 BK105.out; have hfz13 := fZ BK105.out; go_wp2
    go_meet
    case rel => exact ⟨_, (true), (by first | rfl | (simp; done) | (simp [*]; done)), H', ⟨by first | omega | exact Nat.le_refl _⟩, ⟨by (iterate 3 refine kF NB101_105.out ?_); exact kX BK101.out⟩, ⟨by refine kP (cs := #[.int .i64 t102, .int .i64 t103, .int .i64 0]) 2 ?_; refine kP (cs := #[.int .i64 t102, .int .i64 0, .int .i64 0]) 1 ?_; refine kP (cs := #[.int .i64 0, .int .i64 0, .int .i64 0]) 0 ?_; exact kX BK105.out⟩, ⟨bX HB.out⟩⟩
   rw [if_neg c11] at H; have c11b0 := dN c11; clear c11
   (first | rw [c11b0] | (simp only [i64_w, i32_w]; rw [c11b0]) | skip)
   have H' := AM H; clear H; have hnb14 := NB105_101.out; have hnc14 := NB101_105.out; have hcz15 := q3 BK105.out; have hfz15 := fZ BK105.out; go_wp2
   go_meet
   case rel => exact ⟨_, (decide (t102 > 20000)), (by first | rfl | (simp; done) | (simp [*]; done)), H', ⟨by first | omega | exact Nat.le_refl _⟩, ⟨by (iterate 3 refine kF NB101_105.out ?_); exact kX BK101.out⟩, ⟨by refine kP (cs := #[.int .i64 t102, .int .i64 t103, .int .i64 0]) 2 ?_; refine kP (cs := #[.int .i64 t102, .int .i64 0, .int .i64 0]) 1 ?_; refine kP (cs := #[.int .i64 0, .int .i64 0, .int .i64 0]) 0 ?_; exact kX BK105.out⟩, ⟨bX HB.out⟩⟩
  case rest =>
   clear HC5; (try clear c1); (try clear p2); (try clear c3); (try clear c4); (try clear c4b0); (try clear c4b1); (try clear c9); (try clear c11); (try clear c11b0); (try clear c12); (try clear c14); (try clear hcz10); (try clear hcz13); (try clear hcz15); (try clear hfz10); (try clear hfz13); (try clear hfz15); obtain ⟨kq, x22_4, rfl, HA, HJ4, BK101, BK105, HB⟩ := hcut
   cases kq with
   | zero => exact absurd HA.out (by simp [spec_GetText.j0])
   | succ kj4 =>
    have H := HA.out; clear HA; simp only [spec_GetText.j0] at H
    by_cases c16 : x22_4 = true
    ·
     subst c16; rw [if_pos rfl] at H; simp only [Option.some.injEq, Prod.mk.injEq] at H
     obtain ⟨rfl, rfl, rfl⟩ := H; have hnb17 := NB101_105.out; have hnc17 := NB105_101.out; have hcz18 := q3 BK101.out; have hfz18 := fZ BK101.out; go_wp2
     refine bodyPost_ret (results_cell_row rfl _ _ gb101 66 #[.string (⟨#[]⟩ : ByteArray), .int .i64 0, .int .i64 3] (0, 0) _ rfl (by refine kP (cs := #[.string (⟨#[]⟩ : ByteArray), .int .i64 0, .int .i64 0]) 2 ?_; refine kP (cs := #[.string (⟨#[]⟩ : ByteArray), .int .i64 0, .int .i64 0]) 1 ?_; refine kP (cs := #[.string (⟨#[]⟩ : ByteArray), .int .i64 0, .int .i64 0]) 0 ?_; exact kX BK101.out) Try.underlying66 rfl (by kernel_rfl)) rfl ?_; exact ⟨by first | rfl | (simp [*, errW_none, errW_some] <;> rfl), bX HB.out⟩
    replace c16 := oE c16; subst c16; rw [if_neg nft] at H; by_cases c19 : t103 > (wrap64 ((a0.size : Int) - t102))
    ·
     rw [if_pos c19] at H; have c19b0 : decide ((wrap64 ((a0.size : Int) - t102)) < t103) = true := dY c19; clear c19; simp only [Option.some.injEq, Prod.mk.injEq] at H
     obtain ⟨rfl, rfl, rfl⟩ := H; have hnb20 := NB105_101.out; have hnc20 := NB101_105.out; have hcz21 := q3 BK105.out; have hfz21 := fZ BK105.out; have hcz22 := q3 BK101.out; have hfz22 := fZ BK101.out; go_wp2
     refine bodyPost_ret (results_cell_row rfl _ _ gb101 66 #[.string (⟨#[]⟩ : ByteArray), .int .i64 0, .int .i64 4] (0, 0) _ rfl (by refine kP (cs := #[.string (⟨#[]⟩ : ByteArray), .int .i64 0, .int .i64 0]) 2 ?_; refine kP (cs := #[.string (⟨#[]⟩ : ByteArray), .int .i64 0, .int .i64 0]) 1 ?_; refine kP (cs := #[.string (⟨#[]⟩ : ByteArray), .int .i64 0, .int .i64 0]) 0 ?_; exact kX BK101.out) Try.underlying66 rfl (by kernel_rfl)) rfl ?_; exact ⟨by first | rfl | (simp [*, errW_none, errW_some] <;> rfl), bX HB.out⟩
    rw [if_neg c19] at H; have c19b0 : decide ((wrap64 ((a0.size : Int) - t102)) < t103) = false := dN c19; clear c19; by_cases c23 : 0 ≤ t103
    ·
     rw [if_pos c23] at H; have c23b0 := eq_true c23; have c23b1 := dY c23; clear c23; by_cases c24 : t103 ≤ (wrap64 (t103 + t102))
     ·
      rw [if_pos c24] at H; have c24b0 := eq_true c24; have c24b1 := dY c24; by_cases c25 : (wrap64 (t103 + t102)) ≤ (a0.size : Int)
      ·
       rw [if_pos c25] at H; have c25b0 := eq_true c25; have c25b1 := dY c25; simp only [Option.some.injEq, Prod.mk.injEq] at H
       obtain ⟨rfl, rfl, rfl⟩ := H; have hnb26 := NB105_101.out; have hnc26 := NB101_105.out; have hcz27 := q3 BK105.out; have hfz27 := fZ BK105.out; try go_wp2
       have _ := AM (kD BK101.out); have _ := AM (kD BK105.out); have _ := AM (bD HB.out); clear BK101 BK105 HB; rename_i BK101 BK105 HB; refine start_ (n := 16) (S := fun w' => w'.cell? ⟨gb105, 0, none⟩ = some (.int .i64 t102) ∧ w'.cell? ⟨gb105, 1, none⟩ = some (.int .i64 t103) ∧ w'.cell? ⟨gb105, 2, none⟩ = some (.int .i64 t104)) (ds := []) (upTo 0 16) (by kernel_rfl) rfl rfl ⟨hC BK105.out 0, hC BK105.out 1, hC BK105.out 2⟩ (fun hHeld => ?_); refine with_tabW spec_GetText.tab8 spec_GetText.bits8 (fun HT_ HW_ => ?_); generalize wc.drew = w28 at BK101 BK105 HB hHeld ⊢; refine pF 0 1 16 33 ?_; refine pF 1 2 16 34 ?_; refine pF2 3 36 spec_GetText.b0 ?_; refine pF2 5 38 spec_GetText.b1 ?_; refine pF2 9 42 spec_GetText.b2 ?_; refine pF2 11 44 spec_GetText.b3 ?_; refine pT2 2 35 spec_GetText.b4 ?_ hHeld; refine pT2 4 37 spec_GetText.b5 ?_ hHeld; refine pT2 6 39 spec_GetText.b6 ?_ hHeld; refine pF2 7 40 spec_GetText.b7 ?_; refine pF2 8 41 spec_GetText.b8 ?_; refine pT2 10 43 (upTo 12 16) ?_ hHeld; refine pT2 12 45 (upTo 13 16) ?_ hHeld; refine pF 13 14 16 46 ?_; refine pF 14 15 16 47 ?_; refine one_ (i := 15) (N := none) (upTo 16 16) rfl rfl (one_of HT_.out (by kernel_rfl)) (by decide) (fun K hK => ?_); have hs29 : w28.cell? ⟨gb101, 0, none⟩ = some (.string (⟨#[]⟩ : ByteArray)) := hC BK101.out 0; have hfs29 := fZ BK101.out 0; have hns29_1 := NB105_101.out; have hms29_1 := NB101_105.out; have hs30 : w28.cell? ⟨gb101, 1, none⟩ = some (.int .i64 0) := hC BK101.out 1; have hfs30 := fZ BK101.out 1; have hns30_1 := NB105_101.out; have hms30_1 := NB101_105.out; have hs31 : w28.cell? ⟨gb101, 2, none⟩ = some (.int .i64 0) := hC BK101.out 2; have hfs31 := fZ BK101.out 2; have hns31_1 := NB105_101.out; have hms31_1 := NB101_105.out; refine skip_ (w1 := ?_) (by rfl) rfl ?_ ?_; rotate_left
       ·
        go_simp
        rfl
       refine hK.out _ _ ⟨(cT NB105_101.out ((cT NB105_101.out ((cT NB105_101.out (hHeld.1)))))), (cT NB105_101.out ((cT NB105_101.out ((cT NB105_101.out (hHeld.2.1)))))), (cT NB105_101.out ((cT NB105_101.out ((cT NB105_101.out (hHeld.2.2))))))⟩ (fun hHeld => ?_); clear hK K; refine done_ (done_of HT_.out (by kernel_rfl)) ?_; try go_wp2
       refine bodyPost_ret (results_cell_row rfl _ _ gb101 66 #[.string (a0.extract (t103 : Int).toNat ((wrap64 (t103 + t102)) : Int).toNat), .int .i64 (wrap64 (t103 + t102)), .int .i64 0] (0, 0) _ rfl (by refine kP (cs := #[.string (a0.extract (t103 : Int).toNat ((wrap64 (t103 + t102)) : Int).toNat), .int .i64 (wrap64 (t103 + t102)), .int .i64 0]) 2 ?_; refine kP (cs := #[.string (a0.extract (t103 : Int).toNat ((wrap64 (t103 + t102)) : Int).toNat), .int .i64 0, .int .i64 0]) 1 ?_; refine kP (cs := #[.string (⟨#[]⟩ : ByteArray), .int .i64 0, .int .i64 0]) 0 ?_; exact kX BK101.out) Try.underlying66 rfl (by kernel_rfl)) rfl ?_; exact ⟨by first | rfl | (simp [*, errW_none, errW_some] <;> rfl), bX HB.out⟩
      rw [if_neg c25] at H; exact absurd H (by simp)
     rw [if_neg c24] at H; exact absurd H (by simp)
    rw [if_neg c23] at H; exact absurd H (by simp)
 rw [if_neg c4] at H; have c4b0 : (t104 == 0) = false := beq_eq_false_iff_ne.mpr c4; have c4b1 : (t104 != 0) = true := bne_iff_ne.mpr c4; simp only [Option.some.injEq, Prod.mk.injEq] at H
 obtain ⟨rfl, rfl, rfl⟩ := H; go_enter Try.func34, Try.ntmps34
 go_wp2_with (first | ((with_reducible refine gate_dst (N := 4) rfl ?_); refine bE (cs := #[.string (⟨#[]⟩ : ByteArray), .int .i64 0, .int .i64 0]) (t := 66) ?_; intro gb101 hg w32 hbox hb; have _ := AM (below_step (bX HB.out) hb); have _ := AM (hbox); have n2_ := AM (gZ hg (bZ (bX HB.out))); clear HB; rename_i HB BK101; have GW101 := n2_; have GE101 := n2_; clear n2_; clear hb hbox hg) | ((with_reducible refine gate_callee (f := 33) rfl ?_); refine gL (some 8) Try.func33 #[.string a0, .int .i64 a1] ?_; (with_reducible refine (spec_GetNum.calls k a0 a1 t102 t103 t104 _ A3.out).mono ?_); rintro e w33 ⟨rfl, hb⟩; refine ⟨_, rfl, ?_⟩; have _ := AM (nB BK101.out hb); have _ := AM (below_step (bX HB.out) hb); clear BK101 HB; rename_i BK101 HB; (try clear hb); (try clear hk)) | ((with_reducible refine gate_dst (N := 5) rfl ?_); refine bE (cs := #[.int .i64 0, .int .i64 0, .int .i64 0]) (t := 63) ?_; intro gb105 hg w34 hbox hb; have _ := AM (nB BK101.out hb); have _ := AM (below_step (bX HB.out) hb); have _ := AM (hbox); have n3_ := AM (gZ hg (bZ (bX HB.out))); have _ := AM (lX hg BK101.out); have _ := AM (lX hg BK101.out).symm; clear BK101 HB; rename_i BK101 HB BK105 NB101_105 NB105_101; have GW105 := n3_; have GE105 := n3_; clear n3_; clear hb hbox hg; have hnb35 := NB105_101.out; have hnc35 := NB101_105.out; have hcz36 := q3 BK105.out; have hfz36 := fZ BK105.out; have hcz37 := q3 BK101.out; have hfz37 := fZ BK101.out))
 refine bodyPost_ret (results_cell_row rfl _ _ gb101 66 #[.string (⟨#[]⟩ : ByteArray), .int .i64 0, .int .i64 t104] (0, 0) _ rfl (by refine kP (cs := #[.string (⟨#[]⟩ : ByteArray), .int .i64 0, .int .i64 0]) 2 ?_; refine kP (cs := #[.string (⟨#[]⟩ : ByteArray), .int .i64 0, .int .i64 0]) 1 ?_; refine kP (cs := #[.string (⟨#[]⟩ : ByteArray), .int .i64 0, .int .i64 0]) 0 ?_; (iterate 3 refine kF NB101_105.out ?_); exact kX BK101.out) Try.underlying66 rfl (by kernel_rfl)) rfl ?_; exact ⟨by first | rfl | (simp [*, errW_none, errW_some] <;> rfl), bX HB.out⟩

end Go.Proofs.Ytcaildjhnkedfaa.Q
