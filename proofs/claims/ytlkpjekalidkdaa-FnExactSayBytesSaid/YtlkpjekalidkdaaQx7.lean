/- Printed by a program of this session (wip/mp.py over the kit's print.py): functions of the translation as plain Lean functions, and that the machine's calls do what these say. -/
import Derived.Test.YtlkpjekalidkdaaQx0
import Derived.Test.YtlkpjekalidkdaaQx5
import Derived.Test.YtlkpjekalidkdaaQx6
namespace Go.Proofs.Ytlkpjekalidkdaa.Q
open Go.RowKit Go.Proofs.Ytlkpjekalidkdaa.HB Go.Proofs.YtlkpjekalidkdaaW.PrintWords Go.Proofs.YtlkpjekalidkdaaW.PrintLast Go.Proofs.YtlkpjekalidkdaaW.PrintMore
attribute [local go_sem] max2_int min2_int max_two min_two max_three min_three max_four min_four   -- for this text's walks alone
set_option linter.unusedVariables false
set_option linter.unusedSimpArgs false

/-! ### impl_isChange: function 33 -/
abbrev impl_isChange.b0 : Array Bool := #[true, true, true, true, true, true, true, true, false, true, false, false, false, false, false, false, false, false, false, false, false, false, false, false, false, false]
abbrev impl_isChange.b1 : Array Bool := #[true, true, true, true, true, true, true, true, false, true, true, false, false, false, false, false, false, false, false, false, false, false, false, false, false, false]
abbrev impl_isChange.b2 : Array Bool := #[true, true, true, true, true, true, true, true, false, true, true, false, false, false, true, false, false, false, false, false, false, false, false, false, false, false]
abbrev impl_isChange.b3 : Array Bool := #[true, true, true, true, true, true, true, true, true, true, true, false, false, false, true, false, false, false, false, false, false, false, false, false, false, false]
abbrev impl_isChange.b4 : Array Bool := #[true, true, true, true, true, true, true, true, true, true, true, true, false, false, true, false, false, false, false, false, false, false, false, false, false, false]
abbrev impl_isChange.b5 : Array Bool := #[true, true, true, true, true, true, true, true, true, true, true, true, true, false, true, false, false, false, false, false, false, false, false, false, false, false]
abbrev impl_isChange.b6 : Array Bool := #[true, true, true, true, true, true, true, true, true, true, true, true, true, true, true, true, true, true, true, true, true, false, true, false, false, false]
def impl_isChange.l0 : Nat → List (S52) → Int → Int → Int → Int → List (S52) → Option (Bool)
  | 0, _, _, _, _, _, _ => none
  | k + 1, x6, x7, x8, x102000, x102001, x102002 => if x8 < x7 then (if 0 ≤ x8 then (if x8 < (x6.length : Int) then ((impl_isProof.f k ((rd_T52 x6 x8).f0) ((rd_T52 x6 x8).f1) ((rd_T52 x6 x8).f2) ((rd_T52 x6 x8).f3)).bind fun t104 => (if t104 = true then (if x8 > 0 then (if 0 ≤ (wrap64 (x8 - 1)) then (if (wrap64 (x8 - 1)) < (x102002.length : Int) then (if ((rd_T52 x102002 (wrap64 (x8 - 1))).f1) ≥ ((rd_T52 x6 x8).f1) then (some false) else (if ((rd_T52 x6 x8).f0) ≥ x102001 then (some false) else (impl_isChange.l0 k x6 x7 (wrap64 (x8 + 1)) x102000 x102001 x102002))) else (none)) else (none)) else (if ((rd_T52 x6 x8).f0) ≥ x102001 then (some false) else (impl_isChange.l0 k x6 x7 (wrap64 (x8 + 1)) x102000 x102001 x102002))) else (some false))) else (none)) else (none)) else ((impl_isReplica.f x102000).bind fun t106 => (if t106 = true then ((impl_isView.f x102001 1).bind fun t107 => (some t107)) else (some false)))
def impl_isChange.f (k : Nat) (a0_0 : Int) (a0_1 : Int) (l0_2 : List (S52)) : Option (Bool) := impl_isChange.l0 k l0_2 (l0_2.length : Int) 0 a0_0 a0_1 l0_2
theorem impl_isChange.mono_l : ∀ k, (∀ y0 y1 y2 y3 y4 y5, LeO (impl_isChange.l0 k y0 y1 y2 y3 y4 y5) (impl_isChange.l0 (k + 1) y0 y1 y2 y3 y4 y5))
  | 0 => fun _ _ _ _ _ _ r h => by simp [impl_isChange.l0] at h
  | k + 1 => by
    have ih0 := impl_isChange.mono_l k
    · intro y0 y1 y2 y3 y4 y5
      unfold impl_isChange.l0
      repeat' first
      | (with_reducible exact ih0 _ _ _ _ _ _)
      | (with_reducible exact impl_isProof.mono _ _ _ _ _)
      | (with_reducible exact LeO.refl _)
      | (with_reducible exact LeO.none _)
      | (with_reducible refine LeO.ite ?_ ?_)
      | (with_reducible refine LeO.bind ?_ (fun _ => ?_))
      | exact ih0 _ _ _ _ _ _
      | exact impl_isProof.mono _ _ _ _ _
      | exact LeO.none _
      | refine LeO.ite ?_ ?_
      | refine LeO.bind ?_ (fun _ => ?_)
theorem impl_isChange.mono : ∀ a0 a1 a2 k, LeO (impl_isChange.f k a0 a1 a2) (impl_isChange.f (k + 1) a0 a1 a2) := by
  intro a0 a1 a2 k
  have ih0 := impl_isChange.mono_l k
  unfold impl_isChange.f
  repeat' first
      | (with_reducible exact ih0 _ _ _ _ _ _)
      | (with_reducible exact impl_isProof.mono _ _ _ _ _)
      | (with_reducible exact LeO.refl _)
      | (with_reducible exact LeO.none _)
      | (with_reducible refine LeO.ite ?_ ?_)
      | (with_reducible refine LeO.bind ?_ (fun _ => ?_))
      | exact ih0 _ _ _ _ _ _
      | exact impl_isProof.mono _ _ _ _ _
      | exact LeO.none _
      | refine LeO.ite ?_ ?_
      | refine LeO.bind ?_ (fun _ => ?_)
def impl_isChange.T4 : Bool × List (List Nat × List Nat) := (true, [([], []), ([0], [0]), ([1], [1]), ([2, 1], [2]), ([3], [3]), ([4, 3], [3, 4]), ([5, 3, 3], [3, 5]), ([6], [6]), ([7, 6], [6, 7]), ([6], [6]), ([9, 6], [6, 9]), ([8, 10, 6], [6, 8, 10]), ([11, 6], [6, 11]), ([12, 6], [6, 12]), ([6], [6]), ([14, 6], [6, 14]), ([13, 15, 6], [6, 13, 15]), ([6, 16, 3], [3, 6, 16]), ([3, 17], [3, 17]), ([18, 6], [18]), ([19], [19]), ([20, 19], [19, 20]), ([19], [19]), ([22, 19], [19, 22]), ([21, 23, 19], [19, 21, 23]), ([19, 24], [19, 24])])
def impl_isChange.B4 : List Nat := [0, 1, 3, 7, 15, 31, 63, 127, 255, 127, 639, 2047, 4095, 8191, 127, 16511, 65535, 131071, 262143, 524287, 1048575, 2097151, 1048575, 5242879, 16777215, 33554431]
theorem impl_isChange.tab4 : rtab .any (opsOf Try.f33 4) = impl_isChange.T4 := by kernel_rfl
theorem impl_isChange.bits4 : waitsOk impl_isChange.T4.2 impl_isChange.B4 = true := by kernel_rfl
set_option maxHeartbeats 60000000 in
set_option maxRecDepth 100000 in
theorem impl_isChange.calls (k : Nat) (a0_0 : Int) (a0_1 : Int) (A0_2 : Option Addr) (c0_2 : Nat) (l0_2 : List (S52)) (r : Bool) (w : World) (hr0_2 : Kd.C k52 w A0_2 l0_2.length l0_2) (hc0_2 : l0_2.length ≤ c0_2) (h : impl_isChange.f k a0_0 a0_1 l0_2 = some r) :
    Calls Try.prog 33 #[.agg #[.int .i64 a0_0, .int .i64 a0_1, .slice A0_2 l0_2.length c0_2]] w fun e w' => e = .returned (.bool r) ∧ Below w.heap.size w w' := by
 have hu41 := Try.underlying41
 have hu52 := Try.underlying52
 have HR0_2 := AM hr0_2
 have HC0_2 := AM hc0_2
 clear hr0_2 hc0_2
 have HB := AM (Below.refl w.heap.size w)
 have H : (impl_isChange.l0 k l0_2 (l0_2.length : Int) 0 a0_0 a0_1 l0_2) = some r := h
 clear h
 have H' := AM H
 clear H
 go_enter Try.func33, Try.ntmps33
 go_wp2_with (first | ((with_reducible refine gate_dst (N := 1) rfl ?_); refine box_event (by rfl) (N := 1) (by rfl) (cs := #[.int .i64 a0_0, .int .i64 a0_1, .slice A0_2 l0_2.length c0_2]) (t := 41) (by first | (go_simp; done) | (go_simp; rfl)) ?_; intro gb101 hg w2 hbox hb; have n0_ := AM (below_step (by repeat (first | (with_reducible first | exact HB.out | apply bA | apply bN | apply bD) | exact HB.out)) hb); have n1_ := AM (hbox); have n2_ := AM ((by rw [hg]; exact (bZ (by repeat (first | (with_reducible first | exact HB.out | apply bA | apply bN | apply bD) | exact HB.out))) : w.heap.size ≤ gb101)); have n3_ := n2_; clear HB; have HB := n0_; have BK101 := n1_; have GW101 := n2_; have GE101 := n3_; clear n0_ n1_ n2_ n3_; clear hb hbox hg; have hcz3_0 : w2.cell? ⟨gb101, 0, none⟩ = some (.int .i64 a0_0) := (kC BK101.out 0).trans rfl; have hcz3_1 : w2.cell? ⟨gb101, 1, none⟩ = some (.int .i64 a0_1) := (kC BK101.out 1).trans rfl; have hcz3_2 : w2.cell? ⟨gb101, 2, none⟩ = some (.slice A0_2 l0_2.length c0_2) := (kC BK101.out 2).trans rfl; have hfz3_0 := fZ BK101.out 0; have hfz3_1 := fZ BK101.out 1; have hfz3_2 := fZ BK101.out 2))
 go_loopg [8] k (fun kq v8 w' => ∃ (x8_1 : Int), v8 = .int .i64 x8_1 ∧ Aside0 (impl_isChange.l0 kq l0_2 (l0_2.length : Int) x8_1 a0_0 a0_1 l0_2 = some r) ∧ Aside0 (kq ≤ k) ∧ Aside0 (w'.heap[gb101]? = some (.cells #[.int .i64 a0_0, .int .i64 a0_1, (.slice A0_2 l0_2.length c0_2)] 41 (0, 0))) ∧ Aside0 (Below w.heap.size w w'))
 case atStart => exact ⟨(0), (by first | rfl | (simp; done) | (simp [*]; done)), H', ⟨Nat.le_refl _⟩, ⟨by (with_reducible repeat (first | apply kN | apply kD | apply kA)); exact BK101.out⟩, ⟨by repeat (first | (with_reducible first | exact HB.out | apply bA | apply bN | apply bD | refine bS ?_ GE101.out) | exact HB.out)⟩⟩
 case round =>
  clear H'
  try clear p2
  try clear c3
  try clear hcz3_0
  try clear hcz3_1
  try clear hcz3_2
  try clear hfz3_0
  try clear hfz3_1
  try clear hfz3_2
  obtain ⟨x8_1, rfl, HA, HK1, BK101, HB⟩ := hrel
  cases gk with
  | zero => exact absurd HA.out (by simp [impl_isChange.l0])
  | succ k1 =>
   have H := HA.out
   clear HA
   simp only [impl_isChange.l0] at H
   by_cases c4 : x8_1 < (l0_2.length : Int)
   ·
    rw [if_pos c4] at H
    have c4b0 : decide (x8_1 < (l0_2.length : Int)) = true := decide_eq_true c4
    clear c4
    by_cases c5 : 0 ≤ x8_1
    ·
     rw [if_pos c5] at H
     have c5b0 : decide (0 ≤ x8_1) = true := decide_eq_true c5
     clear c5
     by_cases c6 : x8_1 < (l0_2.length : Int)
     ·
      rw [if_pos c6] at H
      have c6b0 : decide (x8_1 < (l0_2.length : Int)) = true := decide_eq_true c6
      clear c6
      replace H := Option.bind_eq_some_iff.mp H
      obtain ⟨t104, A70, H⟩ := H
      replace H : (if t104 = true then (if x8_1 > 0 then (if 0 ≤ (wrap64 (x8_1 - 1)) then (if (wrap64 (x8_1 - 1)) < (l0_2.length : Int) then (if ((rd_T52 l0_2 (wrap64 (x8_1 - 1))).f1) ≥ ((rd_T52 l0_2 x8_1).f1) then (some false) else (if ((rd_T52 l0_2 x8_1).f0) ≥ a0_1 then (some false) else (impl_isChange.l0 k1 l0_2 (l0_2.length : Int) (wrap64 (x8_1 + 1)) a0_0 a0_1 l0_2))) else (none)) else (none)) else (if ((rd_T52 l0_2 x8_1).f0) ≥ a0_1 then (some false) else (impl_isChange.l0 k1 l0_2 (l0_2.length : Int) (wrap64 (x8_1 + 1)) a0_0 a0_1 l0_2))) else (some false)) = some r := H
      have A7 := AM A70
      clear A70
      by_cases c8 : t104 = true
      ·
       subst c8
       have H1 : (if x8_1 > 0 then (if 0 ≤ (wrap64 (x8_1 - 1)) then (if (wrap64 (x8_1 - 1)) < (l0_2.length : Int) then (if ((rd_T52 l0_2 (wrap64 (x8_1 - 1))).f1) ≥ ((rd_T52 l0_2 x8_1).f1) then (some false) else (if ((rd_T52 l0_2 x8_1).f0) ≥ a0_1 then (some false) else (impl_isChange.l0 k1 l0_2 (l0_2.length : Int) (wrap64 (x8_1 + 1)) a0_0 a0_1 l0_2))) else (none)) else (none)) else (if ((rd_T52 l0_2 x8_1).f0) ≥ a0_1 then (some false) else (impl_isChange.l0 k1 l0_2 (l0_2.length : Int) (wrap64 (x8_1 + 1)) a0_0 a0_1 l0_2))) = some r := by rw [if_pos rfl] at H; exact H
       clear H
       have H := H1
       clear H1
       by_cases c9 : x8_1 > 0
       ·
        rw [if_pos c9] at H
        have c9b0 : decide (0 < x8_1) = true := decide_eq_true c9
        clear c9
        obtain ⟨ji10, hji10⟩ : ∃ j_ : Int, (wrap64 (x8_1 - 1)) = j_ := ⟨_, rfl⟩
        replace H : (if 0 ≤ (ji10) then (if (ji10) < (l0_2.length : Int) then (if ((rd_T52 l0_2 (ji10)).f1) ≥ ((rd_T52 l0_2 x8_1).f1) then (some false) else (if ((rd_T52 l0_2 x8_1).f0) ≥ a0_1 then (some false) else (impl_isChange.l0 k1 l0_2 (l0_2.length : Int) (wrap64 (x8_1 + 1)) a0_0 a0_1 l0_2))) else (none)) else (none)) = some r := by first | (rw [hji10] at H; exact H) | (simp only [hji10] at H ⊢; exact H)
        (try rw [hji10] at A7)
        have hji10w : (IntKind.i64.wrap (x8_1 - 1)) = ji10 := (i64_w _).trans hji10
        by_cases c11 : 0 ≤ (ji10)
        ·
         rw [if_pos c11] at H
         have c11b0 : decide (0 ≤ (ji10)) = true := decide_eq_true c11
         clear c11
         by_cases c12 : (ji10) < (l0_2.length : Int)
         ·
          rw [if_pos c12] at H
          have c12b0 : decide ((ji10) < (l0_2.length : Int)) = true := decide_eq_true c12
          clear c12
          by_cases c13 : ((rd_T52 l0_2 (ji10)).f1) ≥ ((rd_T52 l0_2 x8_1).f1)
          ·
           rw [if_pos c13] at H
           have c13b0 : decide (((rd_T52 l0_2 x8_1).f1) ≤ ((rd_T52 l0_2 (ji10)).f1)) = true := decide_eq_true c13
           clear c13
           obtain rfl := Option.some.inj H
           have p102 : 0 ≤ (x8_1 : Int) := of_decide_eq_true (by assumption)
           have q102 : x8_1 < (l0_2.length : Int) := of_decide_eq_true (by assumption)
           obtain ⟨ad102, A102_3, c102_3, e102, hx102_0, hx102_1, hx102_2, hx102_3, hl102_3, hi102_3⟩ := at_T52 HR0_2.out x8_1 p102 q102
           cases e102
           replace hx102_0 := pw_cell_below HB.out hx102_0
           replace hx102_1 := pw_cell_below HB.out hx102_1
           replace hx102_2 := pw_cell_below HB.out hx102_2
           replace hx102_3 := pw_cell_below HB.out hx102_3
           have HR102_3 := AM hi102_3
           have HC102_3 := AM hl102_3
           clear hi102_3 hl102_3
           replace p102 := eq_true p102
           replace q102 := eq_true q102
           try go_wp2_with (first | ((with_reducible refine gate_dst (N := 4) rfl ?_); refine box_event (by rfl) (N := 4) (by rfl) (cs := #[.int .i64 0, .int .i64 0, .string (⟨#[]⟩ : ByteArray), .slice none 0 0]) (t := 52) (by first | (go_simp; done) | (go_simp; rfl)) ?_; intro gb103 hg w14 hbox hb; have n0_ := AM (blk_below (g := gb101) (o := .cells #[.int .i64 a0_0, .int .i64 a0_1, .slice (some ad102) l0_2.length c0_2] 41 (0, 0)) (by (with_reducible repeat (first | apply kN | apply kD | apply kA)); exact BK101.out) hb); have n1_ := AM (below_step (by repeat (first | (with_reducible first | exact HB.out | apply bA | apply bN | apply bD | refine bS ?_ GE101.out) | exact HB.out)) hb); have n2_ := AM (hbox); have n3_ := AM ((by rw [hg]; exact (bZ (by repeat (first | (with_reducible first | exact HB.out | apply bA | apply bN | apply bD | refine bS ?_ GE101.out) | exact HB.out))) : w.heap.size ≤ gb103)); have n4_ := n3_; have n5_ := AM ((by rw [hg]; exact Nat.ne_of_lt (blk_lt (g := gb101) (o := .cells #[.int .i64 a0_0, .int .i64 a0_1, .slice (some ad102) l0_2.length c0_2] 41 (0, 0)) (by (with_reducible repeat (first | apply kN | apply kD | apply kA)); exact BK101.out)) : gb101 ≠ gb103)); have n6_ := AM ((by rw [hg]; exact Nat.ne_of_gt (blk_lt (g := gb101) (o := .cells #[.int .i64 a0_0, .int .i64 a0_1, .slice (some ad102) l0_2.length c0_2] 41 (0, 0)) (by (with_reducible repeat (first | apply kN | apply kD | apply kA)); exact BK101.out)) : gb103 ≠ gb101)); clear BK101; clear HB; have BK101 := n0_; have HB := n1_; have BK103 := n2_; have GW103 := n3_; have GE103 := n4_; have NB101_103 := n5_; have NB103_101 := n6_; clear n0_ n1_ n2_ n3_ n4_ n5_ n6_; clear hb hbox hg; have hnb15 := NB103_101.out; have hnc15 := NB101_103.out; have hcz16_0 : w14.cell? ⟨gb103, 0, none⟩ = some (.int .i64 0) := (kC BK103.out 0).trans rfl; have hcz16_1 : w14.cell? ⟨gb103, 1, none⟩ = some (.int .i64 0) := (kC BK103.out 1).trans rfl; have hcz16_2 : w14.cell? ⟨gb103, 2, none⟩ = some (.string (⟨#[]⟩ : ByteArray)) := (kC BK103.out 2).trans rfl; have hcz16_3 : w14.cell? ⟨gb103, 3, none⟩ = some (.slice none 0 0) := (kC BK103.out 3).trans rfl; have hfz16_0 := fZ BK103.out 0; have hfz16_1 := fZ BK103.out 1; have hfz16_2 := fZ BK103.out 2; have hfz16_3 := fZ BK103.out 3))
           have n0_ : Aside0 (((((w14.setCell ⟨gb103, 0, none⟩ (.int .i64 ((rd_T52 l0_2 x8_1).f0))).setCell ⟨gb103, 1, none⟩ (.int .i64 ((rd_T52 l0_2 x8_1).f1))).setCell ⟨gb103, 2, none⟩ (.string ((rd_T52 l0_2 x8_1).f2))).setCell ⟨gb103, 3, none⟩ (.slice A102_3 ((rd_T52 l0_2 x8_1).f3).length c102_3)).heap[gb101]? = some (.cells #[.int .i64 a0_0, .int .i64 a0_1, .slice (some ad102) l0_2.length c0_2] 41 (0, 0))) := ⟨by (with_reducible repeat (first | apply kN | apply kD | apply kA)); refine blk_far ?_ NB101_103.out _; (with_reducible repeat (first | apply kN | apply kD | apply kA)); refine blk_far ?_ NB101_103.out _; (with_reducible repeat (first | apply kN | apply kD | apply kA)); refine blk_far ?_ NB101_103.out _; (with_reducible repeat (first | apply kN | apply kD | apply kA)); refine blk_far ?_ NB101_103.out _; (with_reducible repeat (first | apply kN | apply kD | apply kA)); exact BK101.out⟩
           have n1_ : Aside0 (((((w14.setCell ⟨gb103, 0, none⟩ (.int .i64 ((rd_T52 l0_2 x8_1).f0))).setCell ⟨gb103, 1, none⟩ (.int .i64 ((rd_T52 l0_2 x8_1).f1))).setCell ⟨gb103, 2, none⟩ (.string ((rd_T52 l0_2 x8_1).f2))).setCell ⟨gb103, 3, none⟩ (.slice A102_3 ((rd_T52 l0_2 x8_1).f3).length c102_3)).heap[gb103]? = some (.cells #[.int .i64 ((rd_T52 l0_2 x8_1).f0), .int .i64 ((rd_T52 l0_2 x8_1).f1), .string ((rd_T52 l0_2 x8_1).f2), .slice A102_3 ((rd_T52 l0_2 x8_1).f3).length c102_3] 52 (0, 0))) := ⟨by (with_reducible repeat (first | apply kN | apply kD | apply kA)); refine blk_put (cs := #[.int .i64 ((rd_T52 l0_2 x8_1).f0), .int .i64 ((rd_T52 l0_2 x8_1).f1), .string ((rd_T52 l0_2 x8_1).f2), .slice none 0 0]) ?_ 3 _ rfl; (with_reducible repeat (first | apply kN | apply kD | apply kA)); refine blk_put (cs := #[.int .i64 ((rd_T52 l0_2 x8_1).f0), .int .i64 ((rd_T52 l0_2 x8_1).f1), .string (⟨#[]⟩ : ByteArray), .slice none 0 0]) ?_ 2 _ rfl; (with_reducible repeat (first | apply kN | apply kD | apply kA)); refine blk_put (cs := #[.int .i64 ((rd_T52 l0_2 x8_1).f0), .int .i64 0, .string (⟨#[]⟩ : ByteArray), .slice none 0 0]) ?_ 1 _ rfl; (with_reducible repeat (first | apply kN | apply kD | apply kA)); refine blk_put (cs := #[.int .i64 0, .int .i64 0, .string (⟨#[]⟩ : ByteArray), .slice none 0 0]) ?_ 0 _ rfl; (with_reducible repeat (first | apply kN | apply kD | apply kA)); exact BK103.out⟩
           have n2_ : Aside0 (Below w.heap.size w ((((w14.setCell ⟨gb103, 0, none⟩ (.int .i64 ((rd_T52 l0_2 x8_1).f0))).setCell ⟨gb103, 1, none⟩ (.int .i64 ((rd_T52 l0_2 x8_1).f1))).setCell ⟨gb103, 2, none⟩ (.string ((rd_T52 l0_2 x8_1).f2))).setCell ⟨gb103, 3, none⟩ (.slice A102_3 ((rd_T52 l0_2 x8_1).f3).length c102_3))) := ⟨by repeat (first | (with_reducible first | exact HB.out | apply bA | apply bN | apply bD | refine bS ?_ GE101.out | refine bS ?_ GE103.out) | exact HB.out)⟩
           (try clear BK101)
           (try clear BK103)
           (try clear HB)
           generalize ((((w14.setCell ⟨gb103, 0, none⟩ (.int .i64 ((rd_T52 l0_2 x8_1).f0))).setCell ⟨gb103, 1, none⟩ (.int .i64 ((rd_T52 l0_2 x8_1).f1))).setCell ⟨gb103, 2, none⟩ (.string ((rd_T52 l0_2 x8_1).f2))).setCell ⟨gb103, 3, none⟩ (.slice A102_3 ((rd_T52 l0_2 x8_1).f3).length c102_3)) = w17 at n0_ n1_ n2_ ⊢
           have BK101 := n0_
           have BK103 := n1_
           have HB := n2_
           clear n0_ n1_ n2_
           have n0_ := AM (kD BK101.out)
           have n1_ := AM (kD BK103.out)
           have n2_ := AM (bD HB.out)
           clear BK101
           clear BK103
           clear HB
           have BK101 := n0_
           have BK103 := n1_
           have HB := n2_
           clear n0_ n1_ n2_
           have p105 : 0 ≤ ((ji10) : Int) := of_decide_eq_true (by assumption)
           have q105 : (ji10) < (l0_2.length : Int) := of_decide_eq_true (by assumption)
           obtain ⟨ad105, A105_3, c105_3, e105, hx105_0, hx105_1, hx105_2, hx105_3, hl105_3, hi105_3⟩ := at_T52 HR0_2.out (ji10) p105 q105
           have hw105_3 := hx105_3
           have hw105_2 := hx105_2
           have hw105_1 := hx105_1
           have hw105_0 := hx105_0
           obtain rfl : ad102 = ad105 := (by injection e105)
           replace hx105_0 := pw_cell_below HB.out hx105_0
           replace hx105_1 := pw_cell_below HB.out hx105_1
           replace hx105_2 := pw_cell_below HB.out hx105_2
           replace hx105_3 := pw_cell_below HB.out hx105_3
           have HR105_3 := AM hi105_3
           have HC105_3 := AM hl105_3
           clear hi105_3 hl105_3
           replace p105 := eq_true p105
           replace q105 := eq_true q105
           refine start_ (n := 26) (S := fun w' => w'.cell? ⟨gb103, 0, none⟩ = some (.int .i64 ((rd_T52 l0_2 x8_1).f0)) ∧ w'.cell? ⟨gb103, 1, none⟩ = some (.int .i64 ((rd_T52 l0_2 x8_1).f1)) ∧ w'.cell? ⟨gb103, 2, none⟩ = some (.string ((rd_T52 l0_2 x8_1).f2)) ∧ w'.cell? ⟨gb103, 3, none⟩ = some (.slice A102_3 ((rd_T52 l0_2 x8_1).f3).length c102_3) ∧ w'.cell? ⟨gb101, 0, none⟩ = some (.int .i64 a0_0) ∧ w'.cell? ⟨gb101, 1, none⟩ = some (.int .i64 a0_1) ∧ w'.cell? ⟨gb101, 2, none⟩ = some (.slice (some ad102) l0_2.length c0_2) ∧ w'.cell? (ad102.add (((ji10)).toNat * 4)) = some (.int .i64 ((rd_T52 l0_2 (ji10)).f0)) ∧ w'.cell? ⟨(ad102.add (((ji10)).toNat * 4)).block, (ad102.add (((ji10)).toNat * 4)).off + 1, none⟩ = some (.int .i64 ((rd_T52 l0_2 (ji10)).f1)) ∧ w'.cell? ⟨(ad102.add (((ji10)).toNat * 4)).block, (ad102.add (((ji10)).toNat * 4)).off + 2, none⟩ = some (.string ((rd_T52 l0_2 (ji10)).f2)) ∧ w'.cell? ⟨(ad102.add (((ji10)).toNat * 4)).block, (ad102.add (((ji10)).toNat * 4)).off + 3, none⟩ = some (.slice A105_3 ((rd_T52 l0_2 (ji10)).f3).length c105_3)) (ds := []) (upTo 0 26) (by kernel_rfl) rfl rfl ⟨(kC BK103.out 0).trans rfl, (kC BK103.out 1).trans rfl, (kC BK103.out 2).trans rfl, (kC BK103.out 3).trans rfl, (kC BK101.out 0).trans rfl, (kC BK101.out 1).trans rfl, (kC BK101.out 2).trans rfl, ((HB.out.cell (World.block_lt_of_cell? w _ hw105_0)).trans hw105_0), ((HB.out.cell (World.block_lt_of_cell? w _ hw105_1)).trans hw105_1), ((HB.out.cell (World.block_lt_of_cell? w _ hw105_2)).trans hw105_2), ((HB.out.cell (World.block_lt_of_cell? w _ hw105_3)).trans hw105_3)⟩ (fun hHeld => ?_); refine with_tabW impl_isChange.tab4 impl_isChange.bits4 (fun HT_ HW_ => ?_)
           generalize w17.drew = w18 at BK101 BK103 HB HR105_3 hx105_0 hx105_1 hx105_2 hx105_3 hHeld ⊢
           refine pT2 0 13 (upTo 1 26) ?_ hHeld
           refine one_ (i := 1) (N := some 14) (upTo 2 26) rfl rfl (one_of HT_.out (by kernel_rfl)) (by decide) (fun K hK => ?_)
           refine goes_ Try.func52 (by kernel_rfl) rfl #[.agg #[.int .i64 ((rd_T52 l0_2 x8_1).f0), .int .i64 ((rd_T52 l0_2 x8_1).f1), .string ((rd_T52 l0_2 x8_1).f2), .slice A102_3 ((rd_T52 l0_2 x8_1).f3).length c102_3]] (by rfl) rfl rfl (by (try simp only [mA, mB, mC]); first | done | rfl | (simp only [mD, mE]; rfl)) ?_
           with_reducible refine (impl_isProof.calls k1 ((rd_T52 l0_2 x8_1).f0) ((rd_T52 l0_2 x8_1).f1) ((rd_T52 l0_2 x8_1).f2) _ _ ((rd_T52 l0_2 x8_1).f3) true _ ?side1 ?side2 A7.out).mono ?_
           (case side1 => repeat (first | exact (cB HR102_3.out HB.out) | (with_reducible refine cA ?_ _) | (with_reducible refine cN ?_ _) | (with_reducible refine cD ?_)))
           (case side2 => exact HC102_3.out)
           rintro e w19 ⟨rfl, hb⟩
           refine ⟨_, rfl, ?_⟩
           have n0_ := AM (blk_below (g := gb101) (o := .cells #[.int .i64 a0_0, .int .i64 a0_1, .slice (some ad102) l0_2.length c0_2] 41 (0, 0)) (by (with_reducible repeat (first | apply kN | apply kD | apply kA)); exact BK101.out) hb)
           have n1_ := AM (blk_below (g := gb103) (o := .cells #[.int .i64 ((rd_T52 l0_2 x8_1).f0), .int .i64 ((rd_T52 l0_2 x8_1).f1), .string ((rd_T52 l0_2 x8_1).f2), .slice A102_3 ((rd_T52 l0_2 x8_1).f3).length c102_3] 52 (0, 0)) (by (with_reducible repeat (first | apply kN | apply kD | apply kA)); exact BK103.out) hb)
           have n2_ := AM (below_step (by repeat (first | (with_reducible first | exact HB.out | apply bA | apply bN | apply bD | refine bS ?_ GE101.out | refine bS ?_ GE103.out) | exact HB.out)) hb)
           clear BK101
           clear BK103
           clear HB
           have BK101 := n0_
           have BK103 := n1_
           have HB := n2_
           clear n0_ n1_ n2_
           (try clear hb)
           (try clear hb2)
           (try clear hk)
           (try clear hi)
           refine hK.out _ _ ⟨(kC BK103.out 0).trans rfl, (kC BK103.out 1).trans rfl, (kC BK103.out 2).trans rfl, (kC BK103.out 3).trans rfl, (kC BK101.out 0).trans rfl, (kC BK101.out 1).trans rfl, (kC BK101.out 2).trans rfl, ((HB.out.cell (World.block_lt_of_cell? w _ hw105_0)).trans hw105_0), ((HB.out.cell (World.block_lt_of_cell? w _ hw105_1)).trans hw105_1), ((HB.out.cell (World.block_lt_of_cell? w _ hw105_2)).trans hw105_2), ((HB.out.cell (World.block_lt_of_cell? w _ hw105_3)).trans hw105_3)⟩ (fun hHeld => ?_)
           clear hK K
           refine norm_ (a' := ?_) ?_ ?_
           rotate_left
           ·
            show Act.put _ (some 14) _ = _
            simp only [Act.put, sA, sB, sC, i64_w, i32_w]
            rfl
           refine pF 2 3 26 15 ?_
           refine pF 3 4 26 16 ?_
           refine pF 4 5 26 17 ?_
           refine pF 5 6 26 18 ?_
           refine pF 6 7 26 19 ?_
           refine pF 7 8 26 20 ?_
           refine pF2 9 22 impl_isChange.b0 ?_
           refine pF2 10 23 impl_isChange.b1 ?_
           refine pF2 14 27 impl_isChange.b2 ?_
           refine pT2 8 21 impl_isChange.b3 ?_ hHeld
           refine pF2 11 24 impl_isChange.b4 ?_
           refine pF2 12 25 impl_isChange.b5 ?_
           refine pT2 13 26 (upTo 15 26) ?_ hHeld
           refine pT2 15 28 (upTo 16 26) ?_ hHeld
           refine pF 16 17 26 29 ?_
           refine pF 17 18 26 30 ?_
           refine pF 18 19 26 31 ?_
           refine pF 19 20 26 32 ?_
           refine pU 20 21 26 33 ?_
           refine pU 21 22 26 34 ?_
           refine pU 22 23 26 35 ?_
           refine pU 23 24 26 36 ?_
           refine pU 24 25 26 37 ?_
           refine pF 25 26 26 38 ?_
           refine done_ (done_of HT_.out (by kernel_rfl)) ?_
           try go_wp2
           go_ret
           exact ⟨by first | rfl | (simp [errW_none, errW_some] <;> rfl) | (simp only [← hji10]; first | rfl | (simp [errW_none, errW_some] <;> rfl)) | (simp [*, errW_none, errW_some] <;> rfl), by repeat (first | (with_reducible first | exact HB.out | apply bA | apply bN | apply bD | refine bS ?_ GE101.out | refine bS ?_ GE103.out) | exact HB.out)⟩
          ·
           rw [if_neg c13] at H
           have c13b0 : decide (((rd_T52 l0_2 x8_1).f1) ≤ ((rd_T52 l0_2 (ji10)).f1)) = false := decide_eq_false c13
           clear c13
           by_cases c20 : ((rd_T52 l0_2 x8_1).f0) ≥ a0_1
           ·
            rw [if_pos c20] at H
            have c20b0 : decide (a0_1 ≤ ((rd_T52 l0_2 x8_1).f0)) = true := decide_eq_true c20
            clear c20
            obtain rfl := Option.some.inj H
            have p102 : 0 ≤ (x8_1 : Int) := of_decide_eq_true (by assumption)
            have q102 : x8_1 < (l0_2.length : Int) := of_decide_eq_true (by assumption)
            obtain ⟨ad102, A102_3, c102_3, e102, hx102_0, hx102_1, hx102_2, hx102_3, hl102_3, hi102_3⟩ := at_T52 HR0_2.out x8_1 p102 q102
            cases e102
            replace hx102_0 := pw_cell_below HB.out hx102_0
            replace hx102_1 := pw_cell_below HB.out hx102_1
            replace hx102_2 := pw_cell_below HB.out hx102_2
            replace hx102_3 := pw_cell_below HB.out hx102_3
            have HR102_3 := AM hi102_3
            have HC102_3 := AM hl102_3
            clear hi102_3 hl102_3
            replace p102 := eq_true p102
            replace q102 := eq_true q102
            try go_wp2_with (first | ((with_reducible refine gate_dst (N := 4) rfl ?_); refine box_event (by rfl) (N := 4) (by rfl) (cs := #[.int .i64 0, .int .i64 0, .string (⟨#[]⟩ : ByteArray), .slice none 0 0]) (t := 52) (by first | (go_simp; done) | (go_simp; rfl)) ?_; intro gb103 hg w21 hbox hb; have n0_ := AM (blk_below (g := gb101) (o := .cells #[.int .i64 a0_0, .int .i64 a0_1, .slice (some ad102) l0_2.length c0_2] 41 (0, 0)) (by (with_reducible repeat (first | apply kN | apply kD | apply kA)); exact BK101.out) hb); have n1_ := AM (below_step (by repeat (first | (with_reducible first | exact HB.out | apply bA | apply bN | apply bD | refine bS ?_ GE101.out) | exact HB.out)) hb); have n2_ := AM (hbox); have n3_ := AM ((by rw [hg]; exact (bZ (by repeat (first | (with_reducible first | exact HB.out | apply bA | apply bN | apply bD | refine bS ?_ GE101.out) | exact HB.out))) : w.heap.size ≤ gb103)); have n4_ := n3_; have n5_ := AM ((by rw [hg]; exact Nat.ne_of_lt (blk_lt (g := gb101) (o := .cells #[.int .i64 a0_0, .int .i64 a0_1, .slice (some ad102) l0_2.length c0_2] 41 (0, 0)) (by (with_reducible repeat (first | apply kN | apply kD | apply kA)); exact BK101.out)) : gb101 ≠ gb103)); have n6_ := AM ((by rw [hg]; exact Nat.ne_of_gt (blk_lt (g := gb101) (o := .cells #[.int .i64 a0_0, .int .i64 a0_1, .slice (some ad102) l0_2.length c0_2] 41 (0, 0)) (by (with_reducible repeat (first | apply kN | apply kD | apply kA)); exact BK101.out)) : gb103 ≠ gb101)); clear BK101; clear HB; have BK101 := n0_; have HB := n1_; have BK103 := n2_; have GW103 := n3_; have GE103 := n4_; have NB101_103 := n5_; have NB103_101 := n6_; clear n0_ n1_ n2_ n3_ n4_ n5_ n6_; clear hb hbox hg; have hnb22 := NB103_101.out; have hnc22 := NB101_103.out; have hcz23_0 : w21.cell? ⟨gb103, 0, none⟩ = some (.int .i64 0) := (kC BK103.out 0).trans rfl; have hcz23_1 : w21.cell? ⟨gb103, 1, none⟩ = some (.int .i64 0) := (kC BK103.out 1).trans rfl; have hcz23_2 : w21.cell? ⟨gb103, 2, none⟩ = some (.string (⟨#[]⟩ : ByteArray)) := (kC BK103.out 2).trans rfl; have hcz23_3 : w21.cell? ⟨gb103, 3, none⟩ = some (.slice none 0 0) := (kC BK103.out 3).trans rfl; have hfz23_0 := fZ BK103.out 0; have hfz23_1 := fZ BK103.out 1; have hfz23_2 := fZ BK103.out 2; have hfz23_3 := fZ BK103.out 3))
            have n0_ : Aside0 (((((w21.setCell ⟨gb103, 0, none⟩ (.int .i64 ((rd_T52 l0_2 x8_1).f0))).setCell ⟨gb103, 1, none⟩ (.int .i64 ((rd_T52 l0_2 x8_1).f1))).setCell ⟨gb103, 2, none⟩ (.string ((rd_T52 l0_2 x8_1).f2))).setCell ⟨gb103, 3, none⟩ (.slice A102_3 ((rd_T52 l0_2 x8_1).f3).length c102_3)).heap[gb101]? = some (.cells #[.int .i64 a0_0, .int .i64 a0_1, .slice (some ad102) l0_2.length c0_2] 41 (0, 0))) := ⟨by (with_reducible repeat (first | apply kN | apply kD | apply kA)); refine blk_far ?_ NB101_103.out _; (with_reducible repeat (first | apply kN | apply kD | apply kA)); refine blk_far ?_ NB101_103.out _; (with_reducible repeat (first | apply kN | apply kD | apply kA)); refine blk_far ?_ NB101_103.out _; (with_reducible repeat (first | apply kN | apply kD | apply kA)); refine blk_far ?_ NB101_103.out _; (with_reducible repeat (first | apply kN | apply kD | apply kA)); exact BK101.out⟩
            have n1_ : Aside0 (((((w21.setCell ⟨gb103, 0, none⟩ (.int .i64 ((rd_T52 l0_2 x8_1).f0))).setCell ⟨gb103, 1, none⟩ (.int .i64 ((rd_T52 l0_2 x8_1).f1))).setCell ⟨gb103, 2, none⟩ (.string ((rd_T52 l0_2 x8_1).f2))).setCell ⟨gb103, 3, none⟩ (.slice A102_3 ((rd_T52 l0_2 x8_1).f3).length c102_3)).heap[gb103]? = some (.cells #[.int .i64 ((rd_T52 l0_2 x8_1).f0), .int .i64 ((rd_T52 l0_2 x8_1).f1), .string ((rd_T52 l0_2 x8_1).f2), .slice A102_3 ((rd_T52 l0_2 x8_1).f3).length c102_3] 52 (0, 0))) := ⟨by (with_reducible repeat (first | apply kN | apply kD | apply kA)); refine blk_put (cs := #[.int .i64 ((rd_T52 l0_2 x8_1).f0), .int .i64 ((rd_T52 l0_2 x8_1).f1), .string ((rd_T52 l0_2 x8_1).f2), .slice none 0 0]) ?_ 3 _ rfl; (with_reducible repeat (first | apply kN | apply kD | apply kA)); refine blk_put (cs := #[.int .i64 ((rd_T52 l0_2 x8_1).f0), .int .i64 ((rd_T52 l0_2 x8_1).f1), .string (⟨#[]⟩ : ByteArray), .slice none 0 0]) ?_ 2 _ rfl; (with_reducible repeat (first | apply kN | apply kD | apply kA)); refine blk_put (cs := #[.int .i64 ((rd_T52 l0_2 x8_1).f0), .int .i64 0, .string (⟨#[]⟩ : ByteArray), .slice none 0 0]) ?_ 1 _ rfl; (with_reducible repeat (first | apply kN | apply kD | apply kA)); refine blk_put (cs := #[.int .i64 0, .int .i64 0, .string (⟨#[]⟩ : ByteArray), .slice none 0 0]) ?_ 0 _ rfl; (with_reducible repeat (first | apply kN | apply kD | apply kA)); exact BK103.out⟩
            have n2_ : Aside0 (Below w.heap.size w ((((w21.setCell ⟨gb103, 0, none⟩ (.int .i64 ((rd_T52 l0_2 x8_1).f0))).setCell ⟨gb103, 1, none⟩ (.int .i64 ((rd_T52 l0_2 x8_1).f1))).setCell ⟨gb103, 2, none⟩ (.string ((rd_T52 l0_2 x8_1).f2))).setCell ⟨gb103, 3, none⟩ (.slice A102_3 ((rd_T52 l0_2 x8_1).f3).length c102_3))) := ⟨by repeat (first | (with_reducible first | exact HB.out | apply bA | apply bN | apply bD | refine bS ?_ GE101.out | refine bS ?_ GE103.out) | exact HB.out)⟩
            (try clear BK101)
            (try clear BK103)
            (try clear HB)
            generalize ((((w21.setCell ⟨gb103, 0, none⟩ (.int .i64 ((rd_T52 l0_2 x8_1).f0))).setCell ⟨gb103, 1, none⟩ (.int .i64 ((rd_T52 l0_2 x8_1).f1))).setCell ⟨gb103, 2, none⟩ (.string ((rd_T52 l0_2 x8_1).f2))).setCell ⟨gb103, 3, none⟩ (.slice A102_3 ((rd_T52 l0_2 x8_1).f3).length c102_3)) = w24 at n0_ n1_ n2_ ⊢
            have BK101 := n0_
            have BK103 := n1_
            have HB := n2_
            clear n0_ n1_ n2_
            have n0_ := AM (kD BK101.out)
            have n1_ := AM (kD BK103.out)
            have n2_ := AM (bD HB.out)
            clear BK101
            clear BK103
            clear HB
            have BK101 := n0_
            have BK103 := n1_
            have HB := n2_
            clear n0_ n1_ n2_
            have p105 : 0 ≤ ((ji10) : Int) := of_decide_eq_true (by assumption)
            have q105 : (ji10) < (l0_2.length : Int) := of_decide_eq_true (by assumption)
            obtain ⟨ad105, A105_3, c105_3, e105, hx105_0, hx105_1, hx105_2, hx105_3, hl105_3, hi105_3⟩ := at_T52 HR0_2.out (ji10) p105 q105
            have hw105_3 := hx105_3
            have hw105_2 := hx105_2
            have hw105_1 := hx105_1
            have hw105_0 := hx105_0
            obtain rfl : ad102 = ad105 := (by injection e105)
            replace hx105_0 := pw_cell_below HB.out hx105_0
            replace hx105_1 := pw_cell_below HB.out hx105_1
            replace hx105_2 := pw_cell_below HB.out hx105_2
            replace hx105_3 := pw_cell_below HB.out hx105_3
            have HR105_3 := AM hi105_3
            have HC105_3 := AM hl105_3
            clear hi105_3 hl105_3
            replace p105 := eq_true p105
            replace q105 := eq_true q105
            refine start_ (n := 26) (S := fun w' => w'.cell? ⟨gb103, 0, none⟩ = some (.int .i64 ((rd_T52 l0_2 x8_1).f0)) ∧ w'.cell? ⟨gb103, 1, none⟩ = some (.int .i64 ((rd_T52 l0_2 x8_1).f1)) ∧ w'.cell? ⟨gb103, 2, none⟩ = some (.string ((rd_T52 l0_2 x8_1).f2)) ∧ w'.cell? ⟨gb103, 3, none⟩ = some (.slice A102_3 ((rd_T52 l0_2 x8_1).f3).length c102_3) ∧ w'.cell? ⟨gb101, 0, none⟩ = some (.int .i64 a0_0) ∧ w'.cell? ⟨gb101, 1, none⟩ = some (.int .i64 a0_1) ∧ w'.cell? ⟨gb101, 2, none⟩ = some (.slice (some ad102) l0_2.length c0_2) ∧ w'.cell? (ad102.add (((ji10)).toNat * 4)) = some (.int .i64 ((rd_T52 l0_2 (ji10)).f0)) ∧ w'.cell? ⟨(ad102.add (((ji10)).toNat * 4)).block, (ad102.add (((ji10)).toNat * 4)).off + 1, none⟩ = some (.int .i64 ((rd_T52 l0_2 (ji10)).f1)) ∧ w'.cell? ⟨(ad102.add (((ji10)).toNat * 4)).block, (ad102.add (((ji10)).toNat * 4)).off + 2, none⟩ = some (.string ((rd_T52 l0_2 (ji10)).f2)) ∧ w'.cell? ⟨(ad102.add (((ji10)).toNat * 4)).block, (ad102.add (((ji10)).toNat * 4)).off + 3, none⟩ = some (.slice A105_3 ((rd_T52 l0_2 (ji10)).f3).length c105_3)) (ds := []) (upTo 0 26) (by kernel_rfl) rfl rfl ⟨(kC BK103.out 0).trans rfl, (kC BK103.out 1).trans rfl, (kC BK103.out 2).trans rfl, (kC BK103.out 3).trans rfl, (kC BK101.out 0).trans rfl, (kC BK101.out 1).trans rfl, (kC BK101.out 2).trans rfl, ((HB.out.cell (World.block_lt_of_cell? w _ hw105_0)).trans hw105_0), ((HB.out.cell (World.block_lt_of_cell? w _ hw105_1)).trans hw105_1), ((HB.out.cell (World.block_lt_of_cell? w _ hw105_2)).trans hw105_2), ((HB.out.cell (World.block_lt_of_cell? w _ hw105_3)).trans hw105_3)⟩ (fun hHeld => ?_); refine with_tabW impl_isChange.tab4 impl_isChange.bits4 (fun HT_ HW_ => ?_)
            generalize w24.drew = w25 at BK101 BK103 HB HR105_3 hx105_0 hx105_1 hx105_2 hx105_3 hHeld ⊢
            refine pT2 0 13 (upTo 1 26) ?_ hHeld
            refine one_ (i := 1) (N := some 14) (upTo 2 26) rfl rfl (one_of HT_.out (by kernel_rfl)) (by decide) (fun K hK => ?_)
            refine goes_ Try.func52 (by kernel_rfl) rfl #[.agg #[.int .i64 ((rd_T52 l0_2 x8_1).f0), .int .i64 ((rd_T52 l0_2 x8_1).f1), .string ((rd_T52 l0_2 x8_1).f2), .slice A102_3 ((rd_T52 l0_2 x8_1).f3).length c102_3]] (by rfl) rfl rfl (by (try simp only [mA, mB, mC]); first | done | rfl | (simp only [mD, mE]; rfl)) ?_
            with_reducible refine (impl_isProof.calls k1 ((rd_T52 l0_2 x8_1).f0) ((rd_T52 l0_2 x8_1).f1) ((rd_T52 l0_2 x8_1).f2) _ _ ((rd_T52 l0_2 x8_1).f3) true _ ?side1 ?side2 A7.out).mono ?_
            (case side1 => repeat (first | exact (cB HR102_3.out HB.out) | (with_reducible refine cA ?_ _) | (with_reducible refine cN ?_ _) | (with_reducible refine cD ?_)))
            (case side2 => exact HC102_3.out)
            rintro e w26 ⟨rfl, hb⟩
            refine ⟨_, rfl, ?_⟩
            have n0_ := AM (blk_below (g := gb101) (o := .cells #[.int .i64 a0_0, .int .i64 a0_1, .slice (some ad102) l0_2.length c0_2] 41 (0, 0)) (by (with_reducible repeat (first | apply kN | apply kD | apply kA)); exact BK101.out) hb)
            have n1_ := AM (blk_below (g := gb103) (o := .cells #[.int .i64 ((rd_T52 l0_2 x8_1).f0), .int .i64 ((rd_T52 l0_2 x8_1).f1), .string ((rd_T52 l0_2 x8_1).f2), .slice A102_3 ((rd_T52 l0_2 x8_1).f3).length c102_3] 52 (0, 0)) (by (with_reducible repeat (first | apply kN | apply kD | apply kA)); exact BK103.out) hb)
            have n2_ := AM (below_step (by repeat (first | (with_reducible first | exact HB.out | apply bA | apply bN | apply bD | refine bS ?_ GE101.out | refine bS ?_ GE103.out) | exact HB.out)) hb)
            clear BK101
            clear BK103
            clear HB
            have BK101 := n0_
            have BK103 := n1_
            have HB := n2_
            clear n0_ n1_ n2_
            (try clear hb)
            (try clear hb2)
            (try clear hk)
            (try clear hi)
            refine hK.out _ _ ⟨(kC BK103.out 0).trans rfl, (kC BK103.out 1).trans rfl, (kC BK103.out 2).trans rfl, (kC BK103.out 3).trans rfl, (kC BK101.out 0).trans rfl, (kC BK101.out 1).trans rfl, (kC BK101.out 2).trans rfl, ((HB.out.cell (World.block_lt_of_cell? w _ hw105_0)).trans hw105_0), ((HB.out.cell (World.block_lt_of_cell? w _ hw105_1)).trans hw105_1), ((HB.out.cell (World.block_lt_of_cell? w _ hw105_2)).trans hw105_2), ((HB.out.cell (World.block_lt_of_cell? w _ hw105_3)).trans hw105_3)⟩ (fun hHeld => ?_)
            clear hK K
            refine norm_ (a' := ?_) ?_ ?_
            rotate_left
            ·
             show Act.put _ (some 14) _ = _
             simp only [Act.put, sA, sB, sC, i64_w, i32_w]
             rfl
            refine pF 2 3 26 15 ?_
            refine pF 3 4 26 16 ?_
            refine pF 4 5 26 17 ?_
            refine pF 5 6 26 18 ?_
            refine pF 6 7 26 19 ?_
            refine pF 7 8 26 20 ?_
            refine pF2 9 22 impl_isChange.b0 ?_
            refine pF2 10 23 impl_isChange.b1 ?_
            refine pF2 14 27 impl_isChange.b2 ?_
            refine pT2 8 21 impl_isChange.b3 ?_ hHeld
            refine pF2 11 24 impl_isChange.b4 ?_
            refine pF2 12 25 impl_isChange.b5 ?_
            refine pT2 13 26 (upTo 15 26) ?_ hHeld
            refine pT2 15 28 (upTo 16 26) ?_ hHeld
            refine pF 16 17 26 29 ?_
            refine pF 17 18 26 30 ?_
            refine pF 18 19 26 31 ?_
            refine pF 19 20 26 32 ?_
            refine pF 20 21 26 33 ?_
            refine pF2 22 35 impl_isChange.b6 ?_
            refine pT2 21 34 (upTo 23 26) ?_ hHeld
            refine pT2 23 36 (upTo 24 26) ?_ hHeld
            refine pF 24 25 26 37 ?_
            refine pF 25 26 26 38 ?_
            refine done_ (done_of HT_.out (by kernel_rfl)) ?_
            try go_wp2
            go_ret
            exact ⟨by first | rfl | (simp [errW_none, errW_some] <;> rfl) | (simp only [← hji10]; first | rfl | (simp [errW_none, errW_some] <;> rfl)) | (simp [*, errW_none, errW_some] <;> rfl), by repeat (first | (with_reducible first | exact HB.out | apply bA | apply bN | apply bD | refine bS ?_ GE101.out | refine bS ?_ GE103.out) | exact HB.out)⟩
           ·
            rw [if_neg c20] at H
            have c20b0 : decide (a0_1 ≤ ((rd_T52 l0_2 x8_1).f0)) = false := decide_eq_false c20
            clear c20
            have H' := AM H
            clear H
            have p102 : 0 ≤ (x8_1 : Int) := of_decide_eq_true (by assumption)
            have q102 : x8_1 < (l0_2.length : Int) := of_decide_eq_true (by assumption)
            obtain ⟨ad102, A102_3, c102_3, e102, hx102_0, hx102_1, hx102_2, hx102_3, hl102_3, hi102_3⟩ := at_T52 HR0_2.out x8_1 p102 q102
            cases e102
            replace hx102_0 := pw_cell_below HB.out hx102_0
            replace hx102_1 := pw_cell_below HB.out hx102_1
            replace hx102_2 := pw_cell_below HB.out hx102_2
            replace hx102_3 := pw_cell_below HB.out hx102_3
            have HR102_3 := AM hi102_3
            have HC102_3 := AM hl102_3
            clear hi102_3 hl102_3
            replace p102 := eq_true p102
            replace q102 := eq_true q102
            try go_wp2_with (first | ((with_reducible refine gate_dst (N := 4) rfl ?_); refine box_event (by rfl) (N := 4) (by rfl) (cs := #[.int .i64 0, .int .i64 0, .string (⟨#[]⟩ : ByteArray), .slice none 0 0]) (t := 52) (by first | (go_simp; done) | (go_simp; rfl)) ?_; intro gb103 hg w27 hbox hb; have n0_ := AM (blk_below (g := gb101) (o := .cells #[.int .i64 a0_0, .int .i64 a0_1, .slice (some ad102) l0_2.length c0_2] 41 (0, 0)) (by (with_reducible repeat (first | apply kN | apply kD | apply kA)); exact BK101.out) hb); have n1_ := AM (below_step (by repeat (first | (with_reducible first | exact HB.out | apply bA | apply bN | apply bD | refine bS ?_ GE101.out) | exact HB.out)) hb); have n2_ := AM (hbox); have n3_ := AM ((by rw [hg]; exact (bZ (by repeat (first | (with_reducible first | exact HB.out | apply bA | apply bN | apply bD | refine bS ?_ GE101.out) | exact HB.out))) : w.heap.size ≤ gb103)); have n4_ := n3_; have n5_ := AM ((by rw [hg]; exact Nat.ne_of_lt (blk_lt (g := gb101) (o := .cells #[.int .i64 a0_0, .int .i64 a0_1, .slice (some ad102) l0_2.length c0_2] 41 (0, 0)) (by (with_reducible repeat (first | apply kN | apply kD | apply kA)); exact BK101.out)) : gb101 ≠ gb103)); have n6_ := AM ((by rw [hg]; exact Nat.ne_of_gt (blk_lt (g := gb101) (o := .cells #[.int .i64 a0_0, .int .i64 a0_1, .slice (some ad102) l0_2.length c0_2] 41 (0, 0)) (by (with_reducible repeat (first | apply kN | apply kD | apply kA)); exact BK101.out)) : gb103 ≠ gb101)); clear BK101; clear HB; have BK101 := n0_; have HB := n1_; have BK103 := n2_; have GW103 := n3_; have GE103 := n4_; have NB101_103 := n5_; have NB103_101 := n6_; clear n0_ n1_ n2_ n3_ n4_ n5_ n6_; clear hb hbox hg; have hnb28 := NB103_101.out; have hnc28 := NB101_103.out; have hcz29_0 : w27.cell? ⟨gb103, 0, none⟩ = some (.int .i64 0) := (kC BK103.out 0).trans rfl; have hcz29_1 : w27.cell? ⟨gb103, 1, none⟩ = some (.int .i64 0) := (kC BK103.out 1).trans rfl; have hcz29_2 : w27.cell? ⟨gb103, 2, none⟩ = some (.string (⟨#[]⟩ : ByteArray)) := (kC BK103.out 2).trans rfl; have hcz29_3 : w27.cell? ⟨gb103, 3, none⟩ = some (.slice none 0 0) := (kC BK103.out 3).trans rfl; have hfz29_0 := fZ BK103.out 0; have hfz29_1 := fZ BK103.out 1; have hfz29_2 := fZ BK103.out 2; have hfz29_3 := fZ BK103.out 3))
            have n0_ : Aside0 (((((w27.setCell ⟨gb103, 0, none⟩ (.int .i64 ((rd_T52 l0_2 x8_1).f0))).setCell ⟨gb103, 1, none⟩ (.int .i64 ((rd_T52 l0_2 x8_1).f1))).setCell ⟨gb103, 2, none⟩ (.string ((rd_T52 l0_2 x8_1).f2))).setCell ⟨gb103, 3, none⟩ (.slice A102_3 ((rd_T52 l0_2 x8_1).f3).length c102_3)).heap[gb101]? = some (.cells #[.int .i64 a0_0, .int .i64 a0_1, .slice (some ad102) l0_2.length c0_2] 41 (0, 0))) := ⟨by (with_reducible repeat (first | apply kN | apply kD | apply kA)); refine blk_far ?_ NB101_103.out _; (with_reducible repeat (first | apply kN | apply kD | apply kA)); refine blk_far ?_ NB101_103.out _; (with_reducible repeat (first | apply kN | apply kD | apply kA)); refine blk_far ?_ NB101_103.out _; (with_reducible repeat (first | apply kN | apply kD | apply kA)); refine blk_far ?_ NB101_103.out _; (with_reducible repeat (first | apply kN | apply kD | apply kA)); exact BK101.out⟩
            have n1_ : Aside0 (((((w27.setCell ⟨gb103, 0, none⟩ (.int .i64 ((rd_T52 l0_2 x8_1).f0))).setCell ⟨gb103, 1, none⟩ (.int .i64 ((rd_T52 l0_2 x8_1).f1))).setCell ⟨gb103, 2, none⟩ (.string ((rd_T52 l0_2 x8_1).f2))).setCell ⟨gb103, 3, none⟩ (.slice A102_3 ((rd_T52 l0_2 x8_1).f3).length c102_3)).heap[gb103]? = some (.cells #[.int .i64 ((rd_T52 l0_2 x8_1).f0), .int .i64 ((rd_T52 l0_2 x8_1).f1), .string ((rd_T52 l0_2 x8_1).f2), .slice A102_3 ((rd_T52 l0_2 x8_1).f3).length c102_3] 52 (0, 0))) := ⟨by (with_reducible repeat (first | apply kN | apply kD | apply kA)); refine blk_put (cs := #[.int .i64 ((rd_T52 l0_2 x8_1).f0), .int .i64 ((rd_T52 l0_2 x8_1).f1), .string ((rd_T52 l0_2 x8_1).f2), .slice none 0 0]) ?_ 3 _ rfl; (with_reducible repeat (first | apply kN | apply kD | apply kA)); refine blk_put (cs := #[.int .i64 ((rd_T52 l0_2 x8_1).f0), .int .i64 ((rd_T52 l0_2 x8_1).f1), .string (⟨#[]⟩ : ByteArray), .slice none 0 0]) ?_ 2 _ rfl; (with_reducible repeat (first | apply kN | apply kD | apply kA)); refine blk_put (cs := #[.int .i64 ((rd_T52 l0_2 x8_1).f0), .int .i64 0, .string (⟨#[]⟩ : ByteArray), .slice none 0 0]) ?_ 1 _ rfl; (with_reducible repeat (first | apply kN | apply kD | apply kA)); refine blk_put (cs := #[.int .i64 0, .int .i64 0, .string (⟨#[]⟩ : ByteArray), .slice none 0 0]) ?_ 0 _ rfl; (with_reducible repeat (first | apply kN | apply kD | apply kA)); exact BK103.out⟩
            have n2_ : Aside0 (Below w.heap.size w ((((w27.setCell ⟨gb103, 0, none⟩ (.int .i64 ((rd_T52 l0_2 x8_1).f0))).setCell ⟨gb103, 1, none⟩ (.int .i64 ((rd_T52 l0_2 x8_1).f1))).setCell ⟨gb103, 2, none⟩ (.string ((rd_T52 l0_2 x8_1).f2))).setCell ⟨gb103, 3, none⟩ (.slice A102_3 ((rd_T52 l0_2 x8_1).f3).length c102_3))) := ⟨by repeat (first | (with_reducible first | exact HB.out | apply bA | apply bN | apply bD | refine bS ?_ GE101.out | refine bS ?_ GE103.out) | exact HB.out)⟩
            (try clear BK101)
            (try clear BK103)
            (try clear HB)
            generalize ((((w27.setCell ⟨gb103, 0, none⟩ (.int .i64 ((rd_T52 l0_2 x8_1).f0))).setCell ⟨gb103, 1, none⟩ (.int .i64 ((rd_T52 l0_2 x8_1).f1))).setCell ⟨gb103, 2, none⟩ (.string ((rd_T52 l0_2 x8_1).f2))).setCell ⟨gb103, 3, none⟩ (.slice A102_3 ((rd_T52 l0_2 x8_1).f3).length c102_3)) = w30 at n0_ n1_ n2_ ⊢
            have BK101 := n0_
            have BK103 := n1_
            have HB := n2_
            clear n0_ n1_ n2_
            have n0_ := AM (kD BK101.out)
            have n1_ := AM (kD BK103.out)
            have n2_ := AM (bD HB.out)
            clear BK101
            clear BK103
            clear HB
            have BK101 := n0_
            have BK103 := n1_
            have HB := n2_
            clear n0_ n1_ n2_
            have p105 : 0 ≤ ((ji10) : Int) := of_decide_eq_true (by assumption)
            have q105 : (ji10) < (l0_2.length : Int) := of_decide_eq_true (by assumption)
            obtain ⟨ad105, A105_3, c105_3, e105, hx105_0, hx105_1, hx105_2, hx105_3, hl105_3, hi105_3⟩ := at_T52 HR0_2.out (ji10) p105 q105
            have hw105_3 := hx105_3
            have hw105_2 := hx105_2
            have hw105_1 := hx105_1
            have hw105_0 := hx105_0
            obtain rfl : ad102 = ad105 := (by injection e105)
            replace hx105_0 := pw_cell_below HB.out hx105_0
            replace hx105_1 := pw_cell_below HB.out hx105_1
            replace hx105_2 := pw_cell_below HB.out hx105_2
            replace hx105_3 := pw_cell_below HB.out hx105_3
            have HR105_3 := AM hi105_3
            have HC105_3 := AM hl105_3
            clear hi105_3 hl105_3
            replace p105 := eq_true p105
            replace q105 := eq_true q105
            refine start_ (n := 26) (S := fun w' => w'.cell? ⟨gb103, 0, none⟩ = some (.int .i64 ((rd_T52 l0_2 x8_1).f0)) ∧ w'.cell? ⟨gb103, 1, none⟩ = some (.int .i64 ((rd_T52 l0_2 x8_1).f1)) ∧ w'.cell? ⟨gb103, 2, none⟩ = some (.string ((rd_T52 l0_2 x8_1).f2)) ∧ w'.cell? ⟨gb103, 3, none⟩ = some (.slice A102_3 ((rd_T52 l0_2 x8_1).f3).length c102_3) ∧ w'.cell? ⟨gb101, 0, none⟩ = some (.int .i64 a0_0) ∧ w'.cell? ⟨gb101, 1, none⟩ = some (.int .i64 a0_1) ∧ w'.cell? ⟨gb101, 2, none⟩ = some (.slice (some ad102) l0_2.length c0_2) ∧ w'.cell? (ad102.add (((ji10)).toNat * 4)) = some (.int .i64 ((rd_T52 l0_2 (ji10)).f0)) ∧ w'.cell? ⟨(ad102.add (((ji10)).toNat * 4)).block, (ad102.add (((ji10)).toNat * 4)).off + 1, none⟩ = some (.int .i64 ((rd_T52 l0_2 (ji10)).f1)) ∧ w'.cell? ⟨(ad102.add (((ji10)).toNat * 4)).block, (ad102.add (((ji10)).toNat * 4)).off + 2, none⟩ = some (.string ((rd_T52 l0_2 (ji10)).f2)) ∧ w'.cell? ⟨(ad102.add (((ji10)).toNat * 4)).block, (ad102.add (((ji10)).toNat * 4)).off + 3, none⟩ = some (.slice A105_3 ((rd_T52 l0_2 (ji10)).f3).length c105_3)) (ds := []) (upTo 0 26) (by kernel_rfl) rfl rfl ⟨(kC BK103.out 0).trans rfl, (kC BK103.out 1).trans rfl, (kC BK103.out 2).trans rfl, (kC BK103.out 3).trans rfl, (kC BK101.out 0).trans rfl, (kC BK101.out 1).trans rfl, (kC BK101.out 2).trans rfl, ((HB.out.cell (World.block_lt_of_cell? w _ hw105_0)).trans hw105_0), ((HB.out.cell (World.block_lt_of_cell? w _ hw105_1)).trans hw105_1), ((HB.out.cell (World.block_lt_of_cell? w _ hw105_2)).trans hw105_2), ((HB.out.cell (World.block_lt_of_cell? w _ hw105_3)).trans hw105_3)⟩ (fun hHeld => ?_); refine with_tabW impl_isChange.tab4 impl_isChange.bits4 (fun HT_ HW_ => ?_)
            generalize w30.drew = w31 at BK101 BK103 HB HR105_3 hx105_0 hx105_1 hx105_2 hx105_3 hHeld ⊢
            refine pT2 0 13 (upTo 1 26) ?_ hHeld
            refine one_ (i := 1) (N := some 14) (upTo 2 26) rfl rfl (one_of HT_.out (by kernel_rfl)) (by decide) (fun K hK => ?_)
            refine goes_ Try.func52 (by kernel_rfl) rfl #[.agg #[.int .i64 ((rd_T52 l0_2 x8_1).f0), .int .i64 ((rd_T52 l0_2 x8_1).f1), .string ((rd_T52 l0_2 x8_1).f2), .slice A102_3 ((rd_T52 l0_2 x8_1).f3).length c102_3]] (by rfl) rfl rfl (by (try simp only [mA, mB, mC]); first | done | rfl | (simp only [mD, mE]; rfl)) ?_
            with_reducible refine (impl_isProof.calls k1 ((rd_T52 l0_2 x8_1).f0) ((rd_T52 l0_2 x8_1).f1) ((rd_T52 l0_2 x8_1).f2) _ _ ((rd_T52 l0_2 x8_1).f3) true _ ?side1 ?side2 A7.out).mono ?_
            (case side1 => repeat (first | exact (cB HR102_3.out HB.out) | (with_reducible refine cA ?_ _) | (with_reducible refine cN ?_ _) | (with_reducible refine cD ?_)))
            (case side2 => exact HC102_3.out)
            rintro e w32 ⟨rfl, hb⟩
            refine ⟨_, rfl, ?_⟩
            have n0_ := AM (blk_below (g := gb101) (o := .cells #[.int .i64 a0_0, .int .i64 a0_1, .slice (some ad102) l0_2.length c0_2] 41 (0, 0)) (by (with_reducible repeat (first | apply kN | apply kD | apply kA)); exact BK101.out) hb)
            have n1_ := AM (blk_below (g := gb103) (o := .cells #[.int .i64 ((rd_T52 l0_2 x8_1).f0), .int .i64 ((rd_T52 l0_2 x8_1).f1), .string ((rd_T52 l0_2 x8_1).f2), .slice A102_3 ((rd_T52 l0_2 x8_1).f3).length c102_3] 52 (0, 0)) (by (with_reducible repeat (first | apply kN | apply kD | apply kA)); exact BK103.out) hb)
            have n2_ := AM (below_step (by repeat (first | (with_reducible first | exact HB.out | apply bA | apply bN | apply bD | refine bS ?_ GE101.out | refine bS ?_ GE103.out) | exact HB.out)) hb)
            clear BK101
            clear BK103
            clear HB
            have BK101 := n0_
            have BK103 := n1_
            have HB := n2_
            clear n0_ n1_ n2_
            (try clear hb)
            (try clear hb2)
            (try clear hk)
            (try clear hi)
            refine hK.out _ _ ⟨(kC BK103.out 0).trans rfl, (kC BK103.out 1).trans rfl, (kC BK103.out 2).trans rfl, (kC BK103.out 3).trans rfl, (kC BK101.out 0).trans rfl, (kC BK101.out 1).trans rfl, (kC BK101.out 2).trans rfl, ((HB.out.cell (World.block_lt_of_cell? w _ hw105_0)).trans hw105_0), ((HB.out.cell (World.block_lt_of_cell? w _ hw105_1)).trans hw105_1), ((HB.out.cell (World.block_lt_of_cell? w _ hw105_2)).trans hw105_2), ((HB.out.cell (World.block_lt_of_cell? w _ hw105_3)).trans hw105_3)⟩ (fun hHeld => ?_)
            clear hK K
            refine norm_ (a' := ?_) ?_ ?_
            rotate_left
            ·
             show Act.put _ (some 14) _ = _
             simp only [Act.put, sA, sB, sC, i64_w, i32_w]
             rfl
            refine pF 2 3 26 15 ?_
            refine pF 3 4 26 16 ?_
            refine pF 4 5 26 17 ?_
            refine pF 5 6 26 18 ?_
            refine pF 6 7 26 19 ?_
            refine pF 7 8 26 20 ?_
            refine pF2 9 22 impl_isChange.b0 ?_
            refine pF2 10 23 impl_isChange.b1 ?_
            refine pF2 14 27 impl_isChange.b2 ?_
            refine pT2 8 21 impl_isChange.b3 ?_ hHeld
            refine pF2 11 24 impl_isChange.b4 ?_
            refine pF2 12 25 impl_isChange.b5 ?_
            refine pT2 13 26 (upTo 15 26) ?_ hHeld
            refine pT2 15 28 (upTo 16 26) ?_ hHeld
            refine pF 16 17 26 29 ?_
            refine pF 17 18 26 30 ?_
            refine pF 18 19 26 31 ?_
            refine pF 19 20 26 32 ?_
            refine pF 20 21 26 33 ?_
            refine pF2 22 35 impl_isChange.b6 ?_
            refine pT2 21 34 (upTo 23 26) ?_ hHeld
            refine pT2 23 36 (upTo 24 26) ?_ hHeld
            refine pF 24 25 26 37 ?_
            refine pF 25 26 26 38 ?_
            refine done_ (done_of HT_.out (by kernel_rfl)) ?_
            try go_wp2
            go_roundg k1
            case measure => have := HK1.out; omega
            case rel => exact ⟨(wrap64 (x8_1 + 1)), (by first | rfl | (simp; done) | (simp [*]; done)), H', ⟨by have := HK1.out; omega⟩, ⟨by (with_reducible repeat (first | apply kN | apply kD | apply kA)); exact BK101.out⟩, ⟨by repeat (first | (with_reducible first | exact HB.out | apply bA | apply bN | apply bD | refine bS ?_ GE101.out | refine bS ?_ GE103.out) | exact HB.out)⟩⟩
         ·
          rw [if_neg c12] at H
          exact absurd H (by simp)
        ·
         rw [if_neg c11] at H
         exact absurd H (by simp)
       ·
        rw [if_neg c9] at H
        have c9b0 : decide (0 < x8_1) = false := decide_eq_false c9
        clear c9
        by_cases c33 : ((rd_T52 l0_2 x8_1).f0) ≥ a0_1
        ·
         rw [if_pos c33] at H
         have c33b0 : decide (a0_1 ≤ ((rd_T52 l0_2 x8_1).f0)) = true := decide_eq_true c33
         clear c33
         obtain rfl := Option.some.inj H
         have p102 : 0 ≤ (x8_1 : Int) := of_decide_eq_true (by assumption)
         have q102 : x8_1 < (l0_2.length : Int) := of_decide_eq_true (by assumption)
         obtain ⟨ad102, A102_3, c102_3, e102, hx102_0, hx102_1, hx102_2, hx102_3, hl102_3, hi102_3⟩ := at_T52 HR0_2.out x8_1 p102 q102
         cases e102
         replace hx102_0 := pw_cell_below HB.out hx102_0
         replace hx102_1 := pw_cell_below HB.out hx102_1
         replace hx102_2 := pw_cell_below HB.out hx102_2
         replace hx102_3 := pw_cell_below HB.out hx102_3
         have HR102_3 := AM hi102_3
         have HC102_3 := AM hl102_3
         clear hi102_3 hl102_3
         replace p102 := eq_true p102
         replace q102 := eq_true q102
         try go_wp2_with (first | ((with_reducible refine gate_dst (N := 4) rfl ?_); refine box_event (by rfl) (N := 4) (by rfl) (cs := #[.int .i64 0, .int .i64 0, .string (⟨#[]⟩ : ByteArray), .slice none 0 0]) (t := 52) (by first | (go_simp; done) | (go_simp; rfl)) ?_; intro gb103 hg w34 hbox hb; have n0_ := AM (blk_below (g := gb101) (o := .cells #[.int .i64 a0_0, .int .i64 a0_1, .slice (some ad102) l0_2.length c0_2] 41 (0, 0)) (by (with_reducible repeat (first | apply kN | apply kD | apply kA)); exact BK101.out) hb); have n1_ := AM (below_step (by repeat (first | (with_reducible first | exact HB.out | apply bA | apply bN | apply bD | refine bS ?_ GE101.out) | exact HB.out)) hb); have n2_ := AM (hbox); have n3_ := AM ((by rw [hg]; exact (bZ (by repeat (first | (with_reducible first | exact HB.out | apply bA | apply bN | apply bD | refine bS ?_ GE101.out) | exact HB.out))) : w.heap.size ≤ gb103)); have n4_ := n3_; have n5_ := AM ((by rw [hg]; exact Nat.ne_of_lt (blk_lt (g := gb101) (o := .cells #[.int .i64 a0_0, .int .i64 a0_1, .slice (some ad102) l0_2.length c0_2] 41 (0, 0)) (by (with_reducible repeat (first | apply kN | apply kD | apply kA)); exact BK101.out)) : gb101 ≠ gb103)); have n6_ := AM ((by rw [hg]; exact Nat.ne_of_gt (blk_lt (g := gb101) (o := .cells #[.int .i64 a0_0, .int .i64 a0_1, .slice (some ad102) l0_2.length c0_2] 41 (0, 0)) (by (with_reducible repeat (first | apply kN | apply kD | apply kA)); exact BK101.out)) : gb103 ≠ gb101)); clear BK101; clear HB; have BK101 := n0_; have HB := n1_; have BK103 := n2_; have GW103 := n3_; have GE103 := n4_; have NB101_103 := n5_; have NB103_101 := n6_; clear n0_ n1_ n2_ n3_ n4_ n5_ n6_; clear hb hbox hg; have hnb35 := NB103_101.out; have hnc35 := NB101_103.out; have hcz36_0 : w34.cell? ⟨gb103, 0, none⟩ = some (.int .i64 0) := (kC BK103.out 0).trans rfl; have hcz36_1 : w34.cell? ⟨gb103, 1, none⟩ = some (.int .i64 0) := (kC BK103.out 1).trans rfl; have hcz36_2 : w34.cell? ⟨gb103, 2, none⟩ = some (.string (⟨#[]⟩ : ByteArray)) := (kC BK103.out 2).trans rfl; have hcz36_3 : w34.cell? ⟨gb103, 3, none⟩ = some (.slice none 0 0) := (kC BK103.out 3).trans rfl; have hfz36_0 := fZ BK103.out 0; have hfz36_1 := fZ BK103.out 1; have hfz36_2 := fZ BK103.out 2; have hfz36_3 := fZ BK103.out 3))
         have n0_ : Aside0 (((((w34.setCell ⟨gb103, 0, none⟩ (.int .i64 ((rd_T52 l0_2 x8_1).f0))).setCell ⟨gb103, 1, none⟩ (.int .i64 ((rd_T52 l0_2 x8_1).f1))).setCell ⟨gb103, 2, none⟩ (.string ((rd_T52 l0_2 x8_1).f2))).setCell ⟨gb103, 3, none⟩ (.slice A102_3 ((rd_T52 l0_2 x8_1).f3).length c102_3)).heap[gb101]? = some (.cells #[.int .i64 a0_0, .int .i64 a0_1, .slice (some ad102) l0_2.length c0_2] 41 (0, 0))) := ⟨by (with_reducible repeat (first | apply kN | apply kD | apply kA)); refine blk_far ?_ NB101_103.out _; (with_reducible repeat (first | apply kN | apply kD | apply kA)); refine blk_far ?_ NB101_103.out _; (with_reducible repeat (first | apply kN | apply kD | apply kA)); refine blk_far ?_ NB101_103.out _; (with_reducible repeat (first | apply kN | apply kD | apply kA)); refine blk_far ?_ NB101_103.out _; (with_reducible repeat (first | apply kN | apply kD | apply kA)); exact BK101.out⟩
         have n1_ : Aside0 (((((w34.setCell ⟨gb103, 0, none⟩ (.int .i64 ((rd_T52 l0_2 x8_1).f0))).setCell ⟨gb103, 1, none⟩ (.int .i64 ((rd_T52 l0_2 x8_1).f1))).setCell ⟨gb103, 2, none⟩ (.string ((rd_T52 l0_2 x8_1).f2))).setCell ⟨gb103, 3, none⟩ (.slice A102_3 ((rd_T52 l0_2 x8_1).f3).length c102_3)).heap[gb103]? = some (.cells #[.int .i64 ((rd_T52 l0_2 x8_1).f0), .int .i64 ((rd_T52 l0_2 x8_1).f1), .string ((rd_T52 l0_2 x8_1).f2), .slice A102_3 ((rd_T52 l0_2 x8_1).f3).length c102_3] 52 (0, 0))) := ⟨by (with_reducible repeat (first | apply kN | apply kD | apply kA)); refine blk_put (cs := #[.int .i64 ((rd_T52 l0_2 x8_1).f0), .int .i64 ((rd_T52 l0_2 x8_1).f1), .string ((rd_T52 l0_2 x8_1).f2), .slice none 0 0]) ?_ 3 _ rfl; (with_reducible repeat (first | apply kN | apply kD | apply kA)); refine blk_put (cs := #[.int .i64 ((rd_T52 l0_2 x8_1).f0), .int .i64 ((rd_T52 l0_2 x8_1).f1), .string (⟨#[]⟩ : ByteArray), .slice none 0 0]) ?_ 2 _ rfl; (with_reducible repeat (first | apply kN | apply kD | apply kA)); refine blk_put (cs := #[.int .i64 ((rd_T52 l0_2 x8_1).f0), .int .i64 0, .string (⟨#[]⟩ : ByteArray), .slice none 0 0]) ?_ 1 _ rfl; (with_reducible repeat (first | apply kN | apply kD | apply kA)); refine blk_put (cs := #[.int .i64 0, .int .i64 0, .string (⟨#[]⟩ : ByteArray), .slice none 0 0]) ?_ 0 _ rfl; (with_reducible repeat (first | apply kN | apply kD | apply kA)); exact BK103.out⟩
         have n2_ : Aside0 (Below w.heap.size w ((((w34.setCell ⟨gb103, 0, none⟩ (.int .i64 ((rd_T52 l0_2 x8_1).f0))).setCell ⟨gb103, 1, none⟩ (.int .i64 ((rd_T52 l0_2 x8_1).f1))).setCell ⟨gb103, 2, none⟩ (.string ((rd_T52 l0_2 x8_1).f2))).setCell ⟨gb103, 3, none⟩ (.slice A102_3 ((rd_T52 l0_2 x8_1).f3).length c102_3))) := ⟨by repeat (first | (with_reducible first | exact HB.out | apply bA | apply bN | apply bD | refine bS ?_ GE101.out | refine bS ?_ GE103.out) | exact HB.out)⟩
         (try clear BK101)
         (try clear BK103)
         (try clear HB)
         generalize ((((w34.setCell ⟨gb103, 0, none⟩ (.int .i64 ((rd_T52 l0_2 x8_1).f0))).setCell ⟨gb103, 1, none⟩ (.int .i64 ((rd_T52 l0_2 x8_1).f1))).setCell ⟨gb103, 2, none⟩ (.string ((rd_T52 l0_2 x8_1).f2))).setCell ⟨gb103, 3, none⟩ (.slice A102_3 ((rd_T52 l0_2 x8_1).f3).length c102_3)) = w37 at n0_ n1_ n2_ ⊢
         have BK101 := n0_
         have BK103 := n1_
         have HB := n2_
         clear n0_ n1_ n2_
         have n0_ := AM (kD BK101.out)
         have n1_ := AM (kD BK103.out)
         have n2_ := AM (bD HB.out)
         clear BK101
         clear BK103
         clear HB
         have BK101 := n0_
         have BK103 := n1_
         have HB := n2_
         clear n0_ n1_ n2_
         refine start_ (n := 26) (S := fun w' => w'.cell? ⟨gb103, 0, none⟩ = some (.int .i64 ((rd_T52 l0_2 x8_1).f0)) ∧ w'.cell? ⟨gb103, 1, none⟩ = some (.int .i64 ((rd_T52 l0_2 x8_1).f1)) ∧ w'.cell? ⟨gb103, 2, none⟩ = some (.string ((rd_T52 l0_2 x8_1).f2)) ∧ w'.cell? ⟨gb103, 3, none⟩ = some (.slice A102_3 ((rd_T52 l0_2 x8_1).f3).length c102_3) ∧ w'.cell? ⟨gb101, 0, none⟩ = some (.int .i64 a0_0) ∧ w'.cell? ⟨gb101, 1, none⟩ = some (.int .i64 a0_1) ∧ w'.cell? ⟨gb101, 2, none⟩ = some (.slice (some ad102) l0_2.length c0_2)) (ds := []) (upTo 0 26) (by kernel_rfl) rfl rfl ⟨(kC BK103.out 0).trans rfl, (kC BK103.out 1).trans rfl, (kC BK103.out 2).trans rfl, (kC BK103.out 3).trans rfl, (kC BK101.out 0).trans rfl, (kC BK101.out 1).trans rfl, (kC BK101.out 2).trans rfl⟩ (fun hHeld => ?_); refine with_tabW impl_isChange.tab4 impl_isChange.bits4 (fun HT_ HW_ => ?_)
         generalize w37.drew = w38 at BK101 BK103 HB hHeld ⊢
         refine pT2 0 13 (upTo 1 26) ?_ hHeld
         refine one_ (i := 1) (N := some 14) (upTo 2 26) rfl rfl (one_of HT_.out (by kernel_rfl)) (by decide) (fun K hK => ?_)
         refine goes_ Try.func52 (by kernel_rfl) rfl #[.agg #[.int .i64 ((rd_T52 l0_2 x8_1).f0), .int .i64 ((rd_T52 l0_2 x8_1).f1), .string ((rd_T52 l0_2 x8_1).f2), .slice A102_3 ((rd_T52 l0_2 x8_1).f3).length c102_3]] (by rfl) rfl rfl (by (try simp only [mA, mB, mC]); first | done | rfl | (simp only [mD, mE]; rfl)) ?_
         with_reducible refine (impl_isProof.calls k1 ((rd_T52 l0_2 x8_1).f0) ((rd_T52 l0_2 x8_1).f1) ((rd_T52 l0_2 x8_1).f2) _ _ ((rd_T52 l0_2 x8_1).f3) true _ ?side1 ?side2 A7.out).mono ?_
         (case side1 => repeat (first | exact (cB HR102_3.out HB.out) | (with_reducible refine cA ?_ _) | (with_reducible refine cN ?_ _) | (with_reducible refine cD ?_)))
         (case side2 => exact HC102_3.out)
         rintro e w39 ⟨rfl, hb⟩
         refine ⟨_, rfl, ?_⟩
         have n0_ := AM (blk_below (g := gb101) (o := .cells #[.int .i64 a0_0, .int .i64 a0_1, .slice (some ad102) l0_2.length c0_2] 41 (0, 0)) (by (with_reducible repeat (first | apply kN | apply kD | apply kA)); exact BK101.out) hb)
         have n1_ := AM (blk_below (g := gb103) (o := .cells #[.int .i64 ((rd_T52 l0_2 x8_1).f0), .int .i64 ((rd_T52 l0_2 x8_1).f1), .string ((rd_T52 l0_2 x8_1).f2), .slice A102_3 ((rd_T52 l0_2 x8_1).f3).length c102_3] 52 (0, 0)) (by (with_reducible repeat (first | apply kN | apply kD | apply kA)); exact BK103.out) hb)
         have n2_ := AM (below_step (by repeat (first | (with_reducible first | exact HB.out | apply bA | apply bN | apply bD | refine bS ?_ GE101.out | refine bS ?_ GE103.out) | exact HB.out)) hb)
         clear BK101
         clear BK103
         clear HB
         have BK101 := n0_
         have BK103 := n1_
         have HB := n2_
         clear n0_ n1_ n2_
         (try clear hb)
         (try clear hb2)
         (try clear hk)
         (try clear hi)
         refine hK.out _ _ ⟨(kC BK103.out 0).trans rfl, (kC BK103.out 1).trans rfl, (kC BK103.out 2).trans rfl, (kC BK103.out 3).trans rfl, (kC BK101.out 0).trans rfl, (kC BK101.out 1).trans rfl, (kC BK101.out 2).trans rfl⟩ (fun hHeld => ?_)
         clear hK K
         refine norm_ (a' := ?_) ?_ ?_
         rotate_left
         ·
          show Act.put _ (some 14) _ = _
          simp only [Act.put, sA, sB, sC, i64_w, i32_w]
          rfl
         refine pF 2 3 26 15 ?_
         refine pF 3 4 26 16 ?_
         refine pF 4 5 26 17 ?_
         refine pF 5 6 26 18 ?_
         refine pF 6 7 26 19 ?_
         refine pU 7 8 26 20 ?_
         refine pU 8 9 26 21 ?_
         refine pU 9 10 26 22 ?_
         refine pU 10 11 26 23 ?_
         refine pU 11 12 26 24 ?_
         refine pU 12 13 26 25 ?_
         refine pU 13 14 26 26 ?_
         refine pU 14 15 26 27 ?_
         refine pU 15 16 26 28 ?_
         refine pU 16 17 26 29 ?_
         refine pF 17 18 26 30 ?_
         refine pF 18 19 26 31 ?_
         refine pF 19 20 26 32 ?_
         refine pF 20 21 26 33 ?_
         refine pF2 22 35 impl_isChange.b6 ?_
         refine pT2 21 34 (upTo 23 26) ?_ hHeld
         refine pT2 23 36 (upTo 24 26) ?_ hHeld
         refine pF 24 25 26 37 ?_
         refine pF 25 26 26 38 ?_
         refine done_ (done_of HT_.out (by kernel_rfl)) ?_
         try go_wp2
         go_ret
         exact ⟨by first | rfl | (simp [*, errW_none, errW_some] <;> rfl), by repeat (first | (with_reducible first | exact HB.out | apply bA | apply bN | apply bD | refine bS ?_ GE101.out | refine bS ?_ GE103.out) | exact HB.out)⟩
        ·
         rw [if_neg c33] at H
         have c33b0 : decide (a0_1 ≤ ((rd_T52 l0_2 x8_1).f0)) = false := decide_eq_false c33
         clear c33
         have H' := AM H
         clear H
         have p102 : 0 ≤ (x8_1 : Int) := of_decide_eq_true (by assumption)
         have q102 : x8_1 < (l0_2.length : Int) := of_decide_eq_true (by assumption)
         obtain ⟨ad102, A102_3, c102_3, e102, hx102_0, hx102_1, hx102_2, hx102_3, hl102_3, hi102_3⟩ := at_T52 HR0_2.out x8_1 p102 q102
         cases e102
         replace hx102_0 := pw_cell_below HB.out hx102_0
         replace hx102_1 := pw_cell_below HB.out hx102_1
         replace hx102_2 := pw_cell_below HB.out hx102_2
         replace hx102_3 := pw_cell_below HB.out hx102_3
         have HR102_3 := AM hi102_3
         have HC102_3 := AM hl102_3
         clear hi102_3 hl102_3
         replace p102 := eq_true p102
         replace q102 := eq_true q102
         try go_wp2_with (first | ((with_reducible refine gate_dst (N := 4) rfl ?_); refine box_event (by rfl) (N := 4) (by rfl) (cs := #[.int .i64 0, .int .i64 0, .string (⟨#[]⟩ : ByteArray), .slice none 0 0]) (t := 52) (by first | (go_simp; done) | (go_simp; rfl)) ?_; intro gb103 hg w40 hbox hb; have n0_ := AM (blk_below (g := gb101) (o := .cells #[.int .i64 a0_0, .int .i64 a0_1, .slice (some ad102) l0_2.length c0_2] 41 (0, 0)) (by (with_reducible repeat (first | apply kN | apply kD | apply kA)); exact BK101.out) hb); have n1_ := AM (below_step (by repeat (first | (with_reducible first | exact HB.out | apply bA | apply bN | apply bD | refine bS ?_ GE101.out) | exact HB.out)) hb); have n2_ := AM (hbox); have n3_ := AM ((by rw [hg]; exact (bZ (by repeat (first | (with_reducible first | exact HB.out | apply bA | apply bN | apply bD | refine bS ?_ GE101.out) | exact HB.out))) : w.heap.size ≤ gb103)); have n4_ := n3_; have n5_ := AM ((by rw [hg]; exact Nat.ne_of_lt (blk_lt (g := gb101) (o := .cells #[.int .i64 a0_0, .int .i64 a0_1, .slice (some ad102) l0_2.length c0_2] 41 (0, 0)) (by (with_reducible repeat (first | apply kN | apply kD | apply kA)); exact BK101.out)) : gb101 ≠ gb103)); have n6_ := AM ((by rw [hg]; exact Nat.ne_of_gt (blk_lt (g := gb101) (o := .cells #[.int .i64 a0_0, .int .i64 a0_1, .slice (some ad102) l0_2.length c0_2] 41 (0, 0)) (by (with_reducible repeat (first | apply kN | apply kD | apply kA)); exact BK101.out)) : gb103 ≠ gb101)); clear BK101; clear HB; have BK101 := n0_; have HB := n1_; have BK103 := n2_; have GW103 := n3_; have GE103 := n4_; have NB101_103 := n5_; have NB103_101 := n6_; clear n0_ n1_ n2_ n3_ n4_ n5_ n6_; clear hb hbox hg; have hnb41 := NB103_101.out; have hnc41 := NB101_103.out; have hcz42_0 : w40.cell? ⟨gb103, 0, none⟩ = some (.int .i64 0) := (kC BK103.out 0).trans rfl; have hcz42_1 : w40.cell? ⟨gb103, 1, none⟩ = some (.int .i64 0) := (kC BK103.out 1).trans rfl; have hcz42_2 : w40.cell? ⟨gb103, 2, none⟩ = some (.string (⟨#[]⟩ : ByteArray)) := (kC BK103.out 2).trans rfl; have hcz42_3 : w40.cell? ⟨gb103, 3, none⟩ = some (.slice none 0 0) := (kC BK103.out 3).trans rfl; have hfz42_0 := fZ BK103.out 0; have hfz42_1 := fZ BK103.out 1; have hfz42_2 := fZ BK103.out 2; have hfz42_3 := fZ BK103.out 3))
         have n0_ : Aside0 (((((w40.setCell ⟨gb103, 0, none⟩ (.int .i64 ((rd_T52 l0_2 x8_1).f0))).setCell ⟨gb103, 1, none⟩ (.int .i64 ((rd_T52 l0_2 x8_1).f1))).setCell ⟨gb103, 2, none⟩ (.string ((rd_T52 l0_2 x8_1).f2))).setCell ⟨gb103, 3, none⟩ (.slice A102_3 ((rd_T52 l0_2 x8_1).f3).length c102_3)).heap[gb101]? = some (.cells #[.int .i64 a0_0, .int .i64 a0_1, .slice (some ad102) l0_2.length c0_2] 41 (0, 0))) := ⟨by (with_reducible repeat (first | apply kN | apply kD | apply kA)); refine blk_far ?_ NB101_103.out _; (with_reducible repeat (first | apply kN | apply kD | apply kA)); refine blk_far ?_ NB101_103.out _; (with_reducible repeat (first | apply kN | apply kD | apply kA)); refine blk_far ?_ NB101_103.out _; (with_reducible repeat (first | apply kN | apply kD | apply kA)); refine blk_far ?_ NB101_103.out _; (with_reducible repeat (first | apply kN | apply kD | apply kA)); exact BK101.out⟩
         have n1_ : Aside0 (((((w40.setCell ⟨gb103, 0, none⟩ (.int .i64 ((rd_T52 l0_2 x8_1).f0))).setCell ⟨gb103, 1, none⟩ (.int .i64 ((rd_T52 l0_2 x8_1).f1))).setCell ⟨gb103, 2, none⟩ (.string ((rd_T52 l0_2 x8_1).f2))).setCell ⟨gb103, 3, none⟩ (.slice A102_3 ((rd_T52 l0_2 x8_1).f3).length c102_3)).heap[gb103]? = some (.cells #[.int .i64 ((rd_T52 l0_2 x8_1).f0), .int .i64 ((rd_T52 l0_2 x8_1).f1), .string ((rd_T52 l0_2 x8_1).f2), .slice A102_3 ((rd_T52 l0_2 x8_1).f3).length c102_3] 52 (0, 0))) := ⟨by (with_reducible repeat (first | apply kN | apply kD | apply kA)); refine blk_put (cs := #[.int .i64 ((rd_T52 l0_2 x8_1).f0), .int .i64 ((rd_T52 l0_2 x8_1).f1), .string ((rd_T52 l0_2 x8_1).f2), .slice none 0 0]) ?_ 3 _ rfl; (with_reducible repeat (first | apply kN | apply kD | apply kA)); refine blk_put (cs := #[.int .i64 ((rd_T52 l0_2 x8_1).f0), .int .i64 ((rd_T52 l0_2 x8_1).f1), .string (⟨#[]⟩ : ByteArray), .slice none 0 0]) ?_ 2 _ rfl; (with_reducible repeat (first | apply kN | apply kD | apply kA)); refine blk_put (cs := #[.int .i64 ((rd_T52 l0_2 x8_1).f0), .int .i64 0, .string (⟨#[]⟩ : ByteArray), .slice none 0 0]) ?_ 1 _ rfl; (with_reducible repeat (first | apply kN | apply kD | apply kA)); refine blk_put (cs := #[.int .i64 0, .int .i64 0, .string (⟨#[]⟩ : ByteArray), .slice none 0 0]) ?_ 0 _ rfl; (with_reducible repeat (first | apply kN | apply kD | apply kA)); exact BK103.out⟩
         have n2_ : Aside0 (Below w.heap.size w ((((w40.setCell ⟨gb103, 0, none⟩ (.int .i64 ((rd_T52 l0_2 x8_1).f0))).setCell ⟨gb103, 1, none⟩ (.int .i64 ((rd_T52 l0_2 x8_1).f1))).setCell ⟨gb103, 2, none⟩ (.string ((rd_T52 l0_2 x8_1).f2))).setCell ⟨gb103, 3, none⟩ (.slice A102_3 ((rd_T52 l0_2 x8_1).f3).length c102_3))) := ⟨by repeat (first | (with_reducible first | exact HB.out | apply bA | apply bN | apply bD | refine bS ?_ GE101.out | refine bS ?_ GE103.out) | exact HB.out)⟩
         (try clear BK101)
         (try clear BK103)
         (try clear HB)
         generalize ((((w40.setCell ⟨gb103, 0, none⟩ (.int .i64 ((rd_T52 l0_2 x8_1).f0))).setCell ⟨gb103, 1, none⟩ (.int .i64 ((rd_T52 l0_2 x8_1).f1))).setCell ⟨gb103, 2, none⟩ (.string ((rd_T52 l0_2 x8_1).f2))).setCell ⟨gb103, 3, none⟩ (.slice A102_3 ((rd_T52 l0_2 x8_1).f3).length c102_3)) = w43 at n0_ n1_ n2_ ⊢
         have BK101 := n0_
         have BK103 := n1_
         have HB := n2_
         clear n0_ n1_ n2_
         have n0_ := AM (kD BK101.out)
         have n1_ := AM (kD BK103.out)
         have n2_ := AM (bD HB.out)
         clear BK101
         clear BK103
         clear HB
         have BK101 := n0_
         have BK103 := n1_
         have HB := n2_
         clear n0_ n1_ n2_
         refine start_ (n := 26) (S := fun w' => w'.cell? ⟨gb103, 0, none⟩ = some (.int .i64 ((rd_T52 l0_2 x8_1).f0)) ∧ w'.cell? ⟨gb103, 1, none⟩ = some (.int .i64 ((rd_T52 l0_2 x8_1).f1)) ∧ w'.cell? ⟨gb103, 2, none⟩ = some (.string ((rd_T52 l0_2 x8_1).f2)) ∧ w'.cell? ⟨gb103, 3, none⟩ = some (.slice A102_3 ((rd_T52 l0_2 x8_1).f3).length c102_3) ∧ w'.cell? ⟨gb101, 0, none⟩ = some (.int .i64 a0_0) ∧ w'.cell? ⟨gb101, 1, none⟩ = some (.int .i64 a0_1) ∧ w'.cell? ⟨gb101, 2, none⟩ = some (.slice (some ad102) l0_2.length c0_2)) (ds := []) (upTo 0 26) (by kernel_rfl) rfl rfl ⟨(kC BK103.out 0).trans rfl, (kC BK103.out 1).trans rfl, (kC BK103.out 2).trans rfl, (kC BK103.out 3).trans rfl, (kC BK101.out 0).trans rfl, (kC BK101.out 1).trans rfl, (kC BK101.out 2).trans rfl⟩ (fun hHeld => ?_); refine with_tabW impl_isChange.tab4 impl_isChange.bits4 (fun HT_ HW_ => ?_)
         generalize w43.drew = w44 at BK101 BK103 HB hHeld ⊢
         refine pT2 0 13 (upTo 1 26) ?_ hHeld
         refine one_ (i := 1) (N := some 14) (upTo 2 26) rfl rfl (one_of HT_.out (by kernel_rfl)) (by decide) (fun K hK => ?_)
         refine goes_ Try.func52 (by kernel_rfl) rfl #[.agg #[.int .i64 ((rd_T52 l0_2 x8_1).f0), .int .i64 ((rd_T52 l0_2 x8_1).f1), .string ((rd_T52 l0_2 x8_1).f2), .slice A102_3 ((rd_T52 l0_2 x8_1).f3).length c102_3]] (by rfl) rfl rfl (by (try simp only [mA, mB, mC]); first | done | rfl | (simp only [mD, mE]; rfl)) ?_
         with_reducible refine (impl_isProof.calls k1 ((rd_T52 l0_2 x8_1).f0) ((rd_T52 l0_2 x8_1).f1) ((rd_T52 l0_2 x8_1).f2) _ _ ((rd_T52 l0_2 x8_1).f3) true _ ?side1 ?side2 A7.out).mono ?_
         (case side1 => repeat (first | exact (cB HR102_3.out HB.out) | (with_reducible refine cA ?_ _) | (with_reducible refine cN ?_ _) | (with_reducible refine cD ?_)))
         (case side2 => exact HC102_3.out)
         rintro e w45 ⟨rfl, hb⟩
         refine ⟨_, rfl, ?_⟩
         have n0_ := AM (blk_below (g := gb101) (o := .cells #[.int .i64 a0_0, .int .i64 a0_1, .slice (some ad102) l0_2.length c0_2] 41 (0, 0)) (by (with_reducible repeat (first | apply kN | apply kD | apply kA)); exact BK101.out) hb)
         have n1_ := AM (blk_below (g := gb103) (o := .cells #[.int .i64 ((rd_T52 l0_2 x8_1).f0), .int .i64 ((rd_T52 l0_2 x8_1).f1), .string ((rd_T52 l0_2 x8_1).f2), .slice A102_3 ((rd_T52 l0_2 x8_1).f3).length c102_3] 52 (0, 0)) (by (with_reducible repeat (first | apply kN | apply kD | apply kA)); exact BK103.out) hb)
         have n2_ := AM (below_step (by repeat (first | (with_reducible first | exact HB.out | apply bA | apply bN | apply bD | refine bS ?_ GE101.out | refine bS ?_ GE103.out) | exact HB.out)) hb)
         clear BK101
         clear BK103
         clear HB
         have BK101 := n0_
         have BK103 := n1_
         have HB := n2_
         clear n0_ n1_ n2_
         (try clear hb)
         (try clear hb2)
         (try clear hk)
         (try clear hi)
         refine hK.out _ _ ⟨(kC BK103.out 0).trans rfl, (kC BK103.out 1).trans rfl, (kC BK103.out 2).trans rfl, (kC BK103.out 3).trans rfl, (kC BK101.out 0).trans rfl, (kC BK101.out 1).trans rfl, (kC BK101.out 2).trans rfl⟩ (fun hHeld => ?_)
         clear hK K
         refine norm_ (a' := ?_) ?_ ?_
         rotate_left
         ·
          show Act.put _ (some 14) _ = _
          simp only [Act.put, sA, sB, sC, i64_w, i32_w]
          rfl
         refine pF 2 3 26 15 ?_
         refine pF 3 4 26 16 ?_
         refine pF 4 5 26 17 ?_
         refine pF 5 6 26 18 ?_
         refine pF 6 7 26 19 ?_
         refine pU 7 8 26 20 ?_
         refine pU 8 9 26 21 ?_
         refine pU 9 10 26 22 ?_
         refine pU 10 11 26 23 ?_
         refine pU 11 12 26 24 ?_
         refine pU 12 13 26 25 ?_
         refine pU 13 14 26 26 ?_
         refine pU 14 15 26 27 ?_
         refine pU 15 16 26 28 ?_
         refine pU 16 17 26 29 ?_
         refine pF 17 18 26 30 ?_
         refine pF 18 19 26 31 ?_
         refine pF 19 20 26 32 ?_
         refine pF 20 21 26 33 ?_
         refine pF2 22 35 impl_isChange.b6 ?_
         refine pT2 21 34 (upTo 23 26) ?_ hHeld
         refine pT2 23 36 (upTo 24 26) ?_ hHeld
         refine pF 24 25 26 37 ?_
         refine pF 25 26 26 38 ?_
         refine done_ (done_of HT_.out (by kernel_rfl)) ?_
         try go_wp2
         go_roundg k1
         case measure => have := HK1.out; omega
         case rel => exact ⟨(wrap64 (x8_1 + 1)), (by first | rfl | (simp; done) | (simp [*]; done)), H', ⟨by have := HK1.out; omega⟩, ⟨by (with_reducible repeat (first | apply kN | apply kD | apply kA)); exact BK101.out⟩, ⟨by repeat (first | (with_reducible first | exact HB.out | apply bA | apply bN | apply bD | refine bS ?_ GE101.out | refine bS ?_ GE103.out) | exact HB.out)⟩⟩
      ·
       replace c8 := Bool.eq_false_iff.mpr c8
       subst c8
       have H1 : (some false) = some r := by rw [if_neg (show ¬ (false = true) by decide)] at H; exact H
       clear H
       have H := H1
       clear H1
       obtain rfl := Option.some.inj H
       have p102 : 0 ≤ (x8_1 : Int) := of_decide_eq_true (by assumption)
       have q102 : x8_1 < (l0_2.length : Int) := of_decide_eq_true (by assumption)
       obtain ⟨ad102, A102_3, c102_3, e102, hx102_0, hx102_1, hx102_2, hx102_3, hl102_3, hi102_3⟩ := at_T52 HR0_2.out x8_1 p102 q102
       cases e102
       replace hx102_0 := pw_cell_below HB.out hx102_0
       replace hx102_1 := pw_cell_below HB.out hx102_1
       replace hx102_2 := pw_cell_below HB.out hx102_2
       replace hx102_3 := pw_cell_below HB.out hx102_3
       have HR102_3 := AM hi102_3
       have HC102_3 := AM hl102_3
       clear hi102_3 hl102_3
       replace p102 := eq_true p102
       replace q102 := eq_true q102
       try go_wp2_with (first | ((with_reducible refine gate_dst (N := 4) rfl ?_); refine box_event (by rfl) (N := 4) (by rfl) (cs := #[.int .i64 0, .int .i64 0, .string (⟨#[]⟩ : ByteArray), .slice none 0 0]) (t := 52) (by first | (go_simp; done) | (go_simp; rfl)) ?_; intro gb103 hg w46 hbox hb; have n0_ := AM (blk_below (g := gb101) (o := .cells #[.int .i64 a0_0, .int .i64 a0_1, .slice (some ad102) l0_2.length c0_2] 41 (0, 0)) (by (with_reducible repeat (first | apply kN | apply kD | apply kA)); exact BK101.out) hb); have n1_ := AM (below_step (by repeat (first | (with_reducible first | exact HB.out | apply bA | apply bN | apply bD | refine bS ?_ GE101.out) | exact HB.out)) hb); have n2_ := AM (hbox); have n3_ := AM ((by rw [hg]; exact (bZ (by repeat (first | (with_reducible first | exact HB.out | apply bA | apply bN | apply bD | refine bS ?_ GE101.out) | exact HB.out))) : w.heap.size ≤ gb103)); have n4_ := n3_; have n5_ := AM ((by rw [hg]; exact Nat.ne_of_lt (blk_lt (g := gb101) (o := .cells #[.int .i64 a0_0, .int .i64 a0_1, .slice (some ad102) l0_2.length c0_2] 41 (0, 0)) (by (with_reducible repeat (first | apply kN | apply kD | apply kA)); exact BK101.out)) : gb101 ≠ gb103)); have n6_ := AM ((by rw [hg]; exact Nat.ne_of_gt (blk_lt (g := gb101) (o := .cells #[.int .i64 a0_0, .int .i64 a0_1, .slice (some ad102) l0_2.length c0_2] 41 (0, 0)) (by (with_reducible repeat (first | apply kN | apply kD | apply kA)); exact BK101.out)) : gb103 ≠ gb101)); clear BK101; clear HB; have BK101 := n0_; have HB := n1_; have BK103 := n2_; have GW103 := n3_; have GE103 := n4_; have NB101_103 := n5_; have NB103_101 := n6_; clear n0_ n1_ n2_ n3_ n4_ n5_ n6_; clear hb hbox hg; have hnb47 := NB103_101.out; have hnc47 := NB101_103.out; have hcz48_0 : w46.cell? ⟨gb103, 0, none⟩ = some (.int .i64 0) := (kC BK103.out 0).trans rfl; have hcz48_1 : w46.cell? ⟨gb103, 1, none⟩ = some (.int .i64 0) := (kC BK103.out 1).trans rfl; have hcz48_2 : w46.cell? ⟨gb103, 2, none⟩ = some (.string (⟨#[]⟩ : ByteArray)) := (kC BK103.out 2).trans rfl; have hcz48_3 : w46.cell? ⟨gb103, 3, none⟩ = some (.slice none 0 0) := (kC BK103.out 3).trans rfl; have hfz48_0 := fZ BK103.out 0; have hfz48_1 := fZ BK103.out 1; have hfz48_2 := fZ BK103.out 2; have hfz48_3 := fZ BK103.out 3))
       have n0_ : Aside0 (((((w46.setCell ⟨gb103, 0, none⟩ (.int .i64 ((rd_T52 l0_2 x8_1).f0))).setCell ⟨gb103, 1, none⟩ (.int .i64 ((rd_T52 l0_2 x8_1).f1))).setCell ⟨gb103, 2, none⟩ (.string ((rd_T52 l0_2 x8_1).f2))).setCell ⟨gb103, 3, none⟩ (.slice A102_3 ((rd_T52 l0_2 x8_1).f3).length c102_3)).heap[gb101]? = some (.cells #[.int .i64 a0_0, .int .i64 a0_1, .slice (some ad102) l0_2.length c0_2] 41 (0, 0))) := ⟨by (with_reducible repeat (first | apply kN | apply kD | apply kA)); refine blk_far ?_ NB101_103.out _; (with_reducible repeat (first | apply kN | apply kD | apply kA)); refine blk_far ?_ NB101_103.out _; (with_reducible repeat (first | apply kN | apply kD | apply kA)); refine blk_far ?_ NB101_103.out _; (with_reducible repeat (first | apply kN | apply kD | apply kA)); refine blk_far ?_ NB101_103.out _; (with_reducible repeat (first | apply kN | apply kD | apply kA)); exact BK101.out⟩
       have n1_ : Aside0 (((((w46.setCell ⟨gb103, 0, none⟩ (.int .i64 ((rd_T52 l0_2 x8_1).f0))).setCell ⟨gb103, 1, none⟩ (.int .i64 ((rd_T52 l0_2 x8_1).f1))).setCell ⟨gb103, 2, none⟩ (.string ((rd_T52 l0_2 x8_1).f2))).setCell ⟨gb103, 3, none⟩ (.slice A102_3 ((rd_T52 l0_2 x8_1).f3).length c102_3)).heap[gb103]? = some (.cells #[.int .i64 ((rd_T52 l0_2 x8_1).f0), .int .i64 ((rd_T52 l0_2 x8_1).f1), .string ((rd_T52 l0_2 x8_1).f2), .slice A102_3 ((rd_T52 l0_2 x8_1).f3).length c102_3] 52 (0, 0))) := ⟨by (with_reducible repeat (first | apply kN | apply kD | apply kA)); refine blk_put (cs := #[.int .i64 ((rd_T52 l0_2 x8_1).f0), .int .i64 ((rd_T52 l0_2 x8_1).f1), .string ((rd_T52 l0_2 x8_1).f2), .slice none 0 0]) ?_ 3 _ rfl; (with_reducible repeat (first | apply kN | apply kD | apply kA)); refine blk_put (cs := #[.int .i64 ((rd_T52 l0_2 x8_1).f0), .int .i64 ((rd_T52 l0_2 x8_1).f1), .string (⟨#[]⟩ : ByteArray), .slice none 0 0]) ?_ 2 _ rfl; (with_reducible repeat (first | apply kN | apply kD | apply kA)); refine blk_put (cs := #[.int .i64 ((rd_T52 l0_2 x8_1).f0), .int .i64 0, .string (⟨#[]⟩ : ByteArray), .slice none 0 0]) ?_ 1 _ rfl; (with_reducible repeat (first | apply kN | apply kD | apply kA)); refine blk_put (cs := #[.int .i64 0, .int .i64 0, .string (⟨#[]⟩ : ByteArray), .slice none 0 0]) ?_ 0 _ rfl; (with_reducible repeat (first | apply kN | apply kD | apply kA)); exact BK103.out⟩
       have n2_ : Aside0 (Below w.heap.size w ((((w46.setCell ⟨gb103, 0, none⟩ (.int .i64 ((rd_T52 l0_2 x8_1).f0))).setCell ⟨gb103, 1, none⟩ (.int .i64 ((rd_T52 l0_2 x8_1).f1))).setCell ⟨gb103, 2, none⟩ (.string ((rd_T52 l0_2 x8_1).f2))).setCell ⟨gb103, 3, none⟩ (.slice A102_3 ((rd_T52 l0_2 x8_1).f3).length c102_3))) := ⟨by repeat (first | (with_reducible first | exact HB.out | apply bA | apply bN | apply bD | refine bS ?_ GE101.out | refine bS ?_ GE103.out) | exact HB.out)⟩
       (try clear BK101)
       (try clear BK103)
       (try clear HB)
       generalize ((((w46.setCell ⟨gb103, 0, none⟩ (.int .i64 ((rd_T52 l0_2 x8_1).f0))).setCell ⟨gb103, 1, none⟩ (.int .i64 ((rd_T52 l0_2 x8_1).f1))).setCell ⟨gb103, 2, none⟩ (.string ((rd_T52 l0_2 x8_1).f2))).setCell ⟨gb103, 3, none⟩ (.slice A102_3 ((rd_T52 l0_2 x8_1).f3).length c102_3)) = w49 at n0_ n1_ n2_ ⊢
       have BK101 := n0_
       have BK103 := n1_
       have HB := n2_
       clear n0_ n1_ n2_
       have n0_ := AM (kD BK101.out)
       have n1_ := AM (kD BK103.out)
       have n2_ := AM (bD HB.out)
       clear BK101
       clear BK103
       clear HB
       have BK101 := n0_
       have BK103 := n1_
       have HB := n2_
       clear n0_ n1_ n2_
       refine start_ (n := 26) (S := fun w' => w'.cell? ⟨gb103, 0, none⟩ = some (.int .i64 ((rd_T52 l0_2 x8_1).f0)) ∧ w'.cell? ⟨gb103, 1, none⟩ = some (.int .i64 ((rd_T52 l0_2 x8_1).f1)) ∧ w'.cell? ⟨gb103, 2, none⟩ = some (.string ((rd_T52 l0_2 x8_1).f2)) ∧ w'.cell? ⟨gb103, 3, none⟩ = some (.slice A102_3 ((rd_T52 l0_2 x8_1).f3).length c102_3)) (ds := []) (upTo 0 26) (by kernel_rfl) rfl rfl ⟨(kC BK103.out 0).trans rfl, (kC BK103.out 1).trans rfl, (kC BK103.out 2).trans rfl, (kC BK103.out 3).trans rfl⟩ (fun hHeld => ?_); refine with_tabW impl_isChange.tab4 impl_isChange.bits4 (fun HT_ HW_ => ?_)
       generalize w49.drew = w50 at BK101 BK103 HB hHeld ⊢
       refine pT2 0 13 (upTo 1 26) ?_ hHeld
       refine one_ (i := 1) (N := some 14) (upTo 2 26) rfl rfl (one_of HT_.out (by kernel_rfl)) (by decide) (fun K hK => ?_)
       refine goes_ Try.func52 (by kernel_rfl) rfl #[.agg #[.int .i64 ((rd_T52 l0_2 x8_1).f0), .int .i64 ((rd_T52 l0_2 x8_1).f1), .string ((rd_T52 l0_2 x8_1).f2), .slice A102_3 ((rd_T52 l0_2 x8_1).f3).length c102_3]] (by rfl) rfl rfl (by (try simp only [mA, mB, mC]); first | done | rfl | (simp only [mD, mE]; rfl)) ?_
       with_reducible refine (impl_isProof.calls k1 ((rd_T52 l0_2 x8_1).f0) ((rd_T52 l0_2 x8_1).f1) ((rd_T52 l0_2 x8_1).f2) _ _ ((rd_T52 l0_2 x8_1).f3) false _ ?side1 ?side2 A7.out).mono ?_
       (case side1 => repeat (first | exact (cB HR102_3.out HB.out) | (with_reducible refine cA ?_ _) | (with_reducible refine cN ?_ _) | (with_reducible refine cD ?_)))
       (case side2 => exact HC102_3.out)
       rintro e w51 ⟨rfl, hb⟩
       refine ⟨_, rfl, ?_⟩
       have n0_ := AM (blk_below (g := gb101) (o := .cells #[.int .i64 a0_0, .int .i64 a0_1, .slice (some ad102) l0_2.length c0_2] 41 (0, 0)) (by (with_reducible repeat (first | apply kN | apply kD | apply kA)); exact BK101.out) hb)
       have n1_ := AM (blk_below (g := gb103) (o := .cells #[.int .i64 ((rd_T52 l0_2 x8_1).f0), .int .i64 ((rd_T52 l0_2 x8_1).f1), .string ((rd_T52 l0_2 x8_1).f2), .slice A102_3 ((rd_T52 l0_2 x8_1).f3).length c102_3] 52 (0, 0)) (by (with_reducible repeat (first | apply kN | apply kD | apply kA)); exact BK103.out) hb)
       have n2_ := AM (below_step (by repeat (first | (with_reducible first | exact HB.out | apply bA | apply bN | apply bD | refine bS ?_ GE101.out | refine bS ?_ GE103.out) | exact HB.out)) hb)
       clear BK101
       clear BK103
       clear HB
       have BK101 := n0_
       have BK103 := n1_
       have HB := n2_
       clear n0_ n1_ n2_
       (try clear hb)
       (try clear hb2)
       (try clear hk)
       (try clear hi)
       refine hK.out _ _ ⟨(kC BK103.out 0).trans rfl, (kC BK103.out 1).trans rfl, (kC BK103.out 2).trans rfl, (kC BK103.out 3).trans rfl⟩ (fun hHeld => ?_)
       clear hK K
       refine norm_ (a' := ?_) ?_ ?_
       rotate_left
       ·
        show Act.put _ (some 14) _ = _
        simp only [Act.put, sA, sB, sC, i64_w, i32_w]
        rfl
       refine pF 2 3 26 15 ?_
       refine pF 3 4 26 16 ?_
       refine pU 4 5 26 17 ?_
       refine pU 5 6 26 18 ?_
       refine pU 6 7 26 19 ?_
       refine pU 7 8 26 20 ?_
       refine pU 8 9 26 21 ?_
       refine pU 9 10 26 22 ?_
       refine pU 10 11 26 23 ?_
       refine pU 11 12 26 24 ?_
       refine pU 12 13 26 25 ?_
       refine pU 13 14 26 26 ?_
       refine pU 14 15 26 27 ?_
       refine pU 15 16 26 28 ?_
       refine pU 16 17 26 29 ?_
       refine pU 17 18 26 30 ?_
       refine pF 18 19 26 31 ?_
       refine pF 19 20 26 32 ?_
       refine pU 20 21 26 33 ?_
       refine pU 21 22 26 34 ?_
       refine pU 22 23 26 35 ?_
       refine pU 23 24 26 36 ?_
       refine pU 24 25 26 37 ?_
       refine pF 25 26 26 38 ?_
       refine done_ (done_of HT_.out (by kernel_rfl)) ?_
       try go_wp2
       go_ret
       exact ⟨by first | rfl | (simp [*, errW_none, errW_some] <;> rfl), by repeat (first | (with_reducible first | exact HB.out | apply bA | apply bN | apply bD | refine bS ?_ GE101.out | refine bS ?_ GE103.out) | exact HB.out)⟩
     ·
      rw [if_neg c6] at H
      exact absurd H (by simp)
    ·
     rw [if_neg c5] at H
     exact absurd H (by simp)
   ·
    rw [if_neg c4] at H
    have c4b0 : decide (x8_1 < (l0_2.length : Int)) = false := decide_eq_false c4
    clear c4
    replace H := Option.bind_eq_some_iff.mp H
    obtain ⟨t106, A520, H⟩ := H
    replace H : (if t106 = true then ((impl_isView.f a0_1 1).bind fun t107 => (some t107)) else (some false)) = some r := H
    have A52 := AM A520
    clear A520
    by_cases c53 : t106 = true
    ·
     subst c53
     have H1 : ((impl_isView.f a0_1 1).bind fun t107 => (some t107)) = some r := by rw [if_pos rfl] at H; exact H
     clear H
     have H := H1
     clear H1
     replace H := Option.bind_eq_some_iff.mp H
     obtain ⟨t107, A540, H⟩ := H
     replace H : (some t107) = some r := H
     have A54 := AM A540
     clear A540
     obtain rfl := Option.some.inj H
     have hcz55_0 : wr.cell? ⟨gb101, 0, none⟩ = some (.int .i64 a0_0) := (kC BK101.out 0).trans rfl
     have hcz55_1 : wr.cell? ⟨gb101, 1, none⟩ = some (.int .i64 a0_1) := (kC BK101.out 1).trans rfl
     have hcz55_2 : wr.cell? ⟨gb101, 2, none⟩ = some (.slice A0_2 l0_2.length c0_2) := (kC BK101.out 2).trans rfl
     have hfz55_0 := fZ BK101.out 0
     have hfz55_1 := fZ BK101.out 1
     have hfz55_2 := fZ BK101.out 2
     go_wp2_with (first | ((with_reducible refine gate_callee (f := 32) rfl ?_); refine goesL_ (some 42) rfl rfl Try.func32 (by kernel_rfl) rfl #[.int .i64 a0_0] rfl (by (try simp only [mA, mB, mC]); first | done | rfl | (simp only [mD, mE]; rfl)) ?_; (with_reducible refine (impl_isReplica.calls a0_0 true _ A52.out).mono ?_); rintro e w' ⟨rfl, ⟨nd, rfl⟩⟩; refine ⟨_, rfl, ?_⟩) | (go_at_call 34; (with_reducible refine (impl_isView.calls a0_1 1 t107 _ A54.out).mono ?_); rintro e w' ⟨rfl, ⟨nd, rfl⟩⟩))
     go_ret
     exact ⟨by first | rfl | (simp [*, errW_none, errW_some] <;> rfl), by repeat (first | (with_reducible first | exact HB.out | apply bA | apply bN | apply bD | refine bS ?_ GE101.out) | exact HB.out)⟩
    ·
     replace c53 := Bool.eq_false_iff.mpr c53
     subst c53
     have H1 : (some false) = some r := by rw [if_neg (show ¬ (false = true) by decide)] at H; exact H
     clear H
     have H := H1
     clear H1
     obtain rfl := Option.some.inj H
     have hcz56_0 : wr.cell? ⟨gb101, 0, none⟩ = some (.int .i64 a0_0) := (kC BK101.out 0).trans rfl
     have hcz56_1 : wr.cell? ⟨gb101, 1, none⟩ = some (.int .i64 a0_1) := (kC BK101.out 1).trans rfl
     have hcz56_2 : wr.cell? ⟨gb101, 2, none⟩ = some (.slice A0_2 l0_2.length c0_2) := (kC BK101.out 2).trans rfl
     have hfz56_0 := fZ BK101.out 0
     have hfz56_1 := fZ BK101.out 1
     have hfz56_2 := fZ BK101.out 2
     go_wp2_with (first | ((with_reducible refine gate_callee (f := 32) rfl ?_); refine goesL_ (some 42) rfl rfl Try.func32 (by kernel_rfl) rfl #[.int .i64 a0_0] rfl (by (try simp only [mA, mB, mC]); first | done | rfl | (simp only [mD, mE]; rfl)) ?_; (with_reducible refine (impl_isReplica.calls a0_0 false _ A52.out).mono ?_); rintro e w' ⟨rfl, ⟨nd, rfl⟩⟩; refine ⟨_, rfl, ?_⟩))
     go_ret
     exact ⟨by first | rfl | (simp [*, errW_none, errW_some] <;> rfl), by repeat (first | (with_reducible first | exact HB.out | apply bA | apply bN | apply bD | refine bS ?_ GE101.out) | exact HB.out)⟩

end Go.Proofs.Ytlkpjekalidkdaa.Q
