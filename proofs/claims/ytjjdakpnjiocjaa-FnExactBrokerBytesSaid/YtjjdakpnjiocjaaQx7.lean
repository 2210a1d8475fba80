/- Printed by a program of this session (wip/mp.py over the kit's print.py): functions of the translation as plain Lean functions, and that the machine's calls do what these say. -/
import Derived.Test.YtjjdakpnjiocjaaQx0
import Derived.Test.YtjjdakpnjiocjaaQx4
import Derived.Test.YtjjdakpnjiocjaaQx6
namespace Go.Proofs.Ytjjdakpnjiocjaa.Q
open Go.RowKit Go.Proofs.Ytjjdakpnjiocjaa.HB Go.Proofs.YtjjdakpnjiocjaaW.PrintWords Go.Proofs.YtjjdakpnjiocjaaW.PrintLast Go.Proofs.YtjjdakpnjiocjaaW.PrintMore
attribute [local go_sem] max2_int min2_int max_two min_two max_three min_three max_four min_four   -- for this text's walks alone
set_option linter.unusedVariables false
set_option linter.unusedSimpArgs false

/-! ### impl_isBroker: function 29 -/
abbrev impl_isBroker.b0 : Array Bool := #[true, true, true, true, true, true, true, true, false, true, false, false, false, false, false, false, false, false, false]
abbrev impl_isBroker.b1 : Array Bool := #[true, true, true, true, true, true, true, true, false, true, true, false, false, false, false, false, false, false, false]
abbrev impl_isBroker.b2 : Array Bool := #[true, true, true, true, true, true, true, true, false, true, true, false, false, false, true, false, false, false, false]
abbrev impl_isBroker.b3 : Array Bool := #[true, true, true, true, true, true, true, true, true, true, true, false, false, false, true, false, false, false, false]
abbrev impl_isBroker.b4 : Array Bool := #[true, true, true, true, true, true, true, true, true, true, true, true, false, false, true, false, false, false, false]
abbrev impl_isBroker.b5 : Array Bool := #[true, true, true, true, true, true, true, true, true, true, true, true, true, false, true, false, false, false, false]
abbrev impl_isBroker.b6 : Array Bool := #[true, true, true, true, true, true, true, true, true, false, true, false, false, false, false, false, false, false, false, false, false, false, false, false, false, false, false, false, false, false, false, false]
abbrev impl_isBroker.b7 : Array Bool := #[true, true, true, true, true, true, true, true, true, false, true, true, false, false, false, false, false, false, false, false, false, false, false, false, false, false, false, false, false, false, false, false]
abbrev impl_isBroker.b8 : Array Bool := #[true, true, true, true, true, true, true, true, true, false, true, true, false, false, false, true, false, false, false, false, false, false, false, false, false, false, false, false, false, false, false, false]
abbrev impl_isBroker.b9 : Array Bool := #[true, true, true, true, true, true, true, true, true, true, true, true, false, false, false, true, false, false, false, false, false, false, false, false, false, false, false, false, false, false, false, false]
abbrev impl_isBroker.b10 : Array Bool := #[true, true, true, true, true, true, true, true, true, true, true, true, true, false, false, true, false, false, false, false, false, false, false, false, false, false, false, false, false, false, false, false]
abbrev impl_isBroker.b11 : Array Bool := #[true, true, true, true, true, true, true, true, true, true, true, true, true, true, false, true, false, false, false, false, false, false, false, false, false, false, false, false, false, false, false, false]
mutual
def impl_isBroker.l0 : Nat → List (S44) → Int → Int → List (S44) → List (S36) → Option (Bool)
  | 0, _, _, _, _, _ => none
  | k + 1, x8, x9, x10, x102000, x102001 => if x10 < x9 then (if 0 ≤ x10 then (if x10 < (x8.length : Int) then ((impl_isTopic.f k ((rd_T44 x8 x10).f0) ((rd_T44 x8 x10).f1) ((rd_T44 x8 x10).f2) ((rd_T44 x8 x10).f3)).bind fun t104 => (if t104 = true then (if x10 > 0 then (if 0 ≤ (wrap64 (x10 - 1)) then (if (wrap64 (x10 - 1)) < (x102000.length : Int) then (if ((Op.bytesLess (((rd_T44 x102000 (wrap64 (x10 - 1))).f0).toList) (((rd_T44 x8 x10).f0).toList)) = true) then (impl_isBroker.l0 k x8 x9 (wrap64 (x10 + 1)) x102000 x102001) else (some false)) else (none)) else (none)) else (impl_isBroker.l0 k x8 x9 (wrap64 (x10 + 1)) x102000 x102001)) else (some false))) else (none)) else (none)) else (impl_isBroker.l1 k x102001 (x102001.length : Int) 0 x102000 x102001)
def impl_isBroker.l1 : Nat → List (S36) → Int → Int → List (S44) → List (S36) → Option (Bool)
  | 0, _, _, _, _, _ => none
  | k + 1, x36, x37, x38, x102000, x102001 => if x38 < x37 then (if 0 ≤ x38 then (if x38 < (x36.length : Int) then ((impl_within.f ((rd_T36 x36 x38).f0) 1 9).bind fun t108 => (if t108 = true then (if x38 > 0 then (if 0 ≤ (wrap64 (x38 - 1)) then (if (wrap64 (x38 - 1)) < (x102001.length : Int) then (if ((rd_T36 x102001 (wrap64 (x38 - 1))).f0) ≥ ((rd_T36 x36 x38).f0) then (some false) else ((impl_within.f ((rd_T36 x36 x38).f1) 1 1000000000).bind fun t110 => (if t110 = true then (if (((rd_T36 x36 x38).f2).size : Int) > 900 then (some false) else (impl_isBroker.l1 k x36 x37 (wrap64 (x38 + 1)) x102000 x102001)) else (some false)))) else (none)) else (none)) else ((impl_within.f ((rd_T36 x36 x38).f1) 1 1000000000).bind fun t111 => (if t111 = true then (if (((rd_T36 x36 x38).f2).size : Int) > 900 then (some false) else (impl_isBroker.l1 k x36 x37 (wrap64 (x38 + 1)) x102000 x102001)) else (some false)))) else (some false))) else (none)) else (none)) else (if (x102000.length : Int) ≤ 4 then (some (decide ((x102001.length : Int) ≤ 9))) else (some false))
end
def impl_isBroker.f (k : Nat) (l0_0 : List (S44)) (l0_1 : List (S36)) : Option (Bool) := impl_isBroker.l0 k l0_0 (l0_0.length : Int) 0 l0_0 l0_1
theorem impl_isBroker.mono_l : ∀ k, (∀ y0 y1 y2 y3 y4, LeO (impl_isBroker.l0 k y0 y1 y2 y3 y4) (impl_isBroker.l0 (k + 1) y0 y1 y2 y3 y4)) ∧ (∀ y0 y1 y2 y3 y4, LeO (impl_isBroker.l1 k y0 y1 y2 y3 y4) (impl_isBroker.l1 (k + 1) y0 y1 y2 y3 y4))
  | 0 => ⟨fun _ _ _ _ _ r h => by simp [impl_isBroker.l0] at h, fun _ _ _ _ _ r h => by simp [impl_isBroker.l1] at h⟩
  | k + 1 => by
    obtain ⟨ih0, ih1⟩ := impl_isBroker.mono_l k
    refine ⟨?_, ?_⟩
    · intro y0 y1 y2 y3 y4
      unfold impl_isBroker.l0
      repeat' first
      | (with_reducible exact ih0 _ _ _ _ _)
      | (with_reducible exact ih1 _ _ _ _ _)
      | (with_reducible exact impl_isTopic.mono _ _ _ _ _)
      | (with_reducible exact LeO.refl _)
      | (with_reducible exact LeO.none _)
      | (with_reducible refine LeO.ite ?_ ?_)
      | (with_reducible refine LeO.bind ?_ (fun _ => ?_))
      | exact ih0 _ _ _ _ _
      | exact ih1 _ _ _ _ _
      | exact impl_isTopic.mono _ _ _ _ _
      | exact LeO.none _
      | refine LeO.ite ?_ ?_
      | refine LeO.bind ?_ (fun _ => ?_)
    · intro y0 y1 y2 y3 y4
      unfold impl_isBroker.l1
      repeat' first
      | (with_reducible exact ih0 _ _ _ _ _)
      | (with_reducible exact ih1 _ _ _ _ _)
      | (with_reducible exact impl_isTopic.mono _ _ _ _ _)
      | (with_reducible exact LeO.refl _)
      | (with_reducible exact LeO.none _)
      | (with_reducible refine LeO.ite ?_ ?_)
      | (with_reducible refine LeO.bind ?_ (fun _ => ?_))
      | exact ih0 _ _ _ _ _
      | exact ih1 _ _ _ _ _
      | exact impl_isTopic.mono _ _ _ _ _
      | exact LeO.none _
      | refine LeO.ite ?_ ?_
      | refine LeO.bind ?_ (fun _ => ?_)
theorem impl_isBroker.mono : ∀ a0 a1 k, LeO (impl_isBroker.f k a0 a1) (impl_isBroker.f (k + 1) a0 a1) := by
  intro a0 a1 k
  obtain ⟨ih0, ih1⟩ := impl_isBroker.mono_l k
  unfold impl_isBroker.f
  repeat' first
      | (with_reducible exact ih0 _ _ _ _ _)
      | (with_reducible exact ih1 _ _ _ _ _)
      | (with_reducible exact impl_isTopic.mono _ _ _ _ _)
      | (with_reducible exact LeO.refl _)
      | (with_reducible exact LeO.none _)
      | (with_reducible refine LeO.ite ?_ ?_)
      | (with_reducible refine LeO.bind ?_ (fun _ => ?_))
      | exact ih0 _ _ _ _ _
      | exact ih1 _ _ _ _ _
      | exact impl_isTopic.mono _ _ _ _ _
      | exact LeO.none _
      | refine LeO.ite ?_ ?_
      | refine LeO.bind ?_ (fun _ => ?_)
def impl_isBroker.T4 : Bool × List (List Nat × List Nat) := (true, [([], []), ([0], [0]), ([1], [1]), ([2, 1], [2]), ([3], [3]), ([4, 3], [3, 4]), ([5, 3, 3], [3, 5]), ([6], [6]), ([7, 6], [6, 7]), ([6], [6]), ([9, 6], [6, 9]), ([8, 10, 6], [6, 8, 10]), ([11, 6], [6, 11]), ([12, 6], [6, 12]), ([6], [6]), ([14, 6], [6, 14]), ([13, 15, 6], [6, 13, 15]), ([6, 16, 3], [3, 6, 16]), ([3, 17], [3, 17])])
def impl_isBroker.B4 : List Nat := [0, 1, 3, 7, 15, 31, 63, 127, 255, 127, 639, 2047, 4095, 8191, 127, 16511, 65535, 131071, 262143]
theorem impl_isBroker.tab4 : rtab .any (opsOf Try.f29 4) = impl_isBroker.T4 := by kernel_rfl
theorem impl_isBroker.bits4 : waitsOk impl_isBroker.T4.2 impl_isBroker.B4 = true := by kernel_rfl
def impl_isBroker.T10 : Bool × List (List Nat × List Nat) := (true, [([], []), ([0], [0]), ([1], [1]), ([2], [2]), ([3, 2], [3]), ([4], [4]), ([5, 4], [4, 5]), ([6, 4, 4], [4, 6]), ([7], [7]), ([8, 7], [7, 8]), ([7], [7]), ([10, 7], [7, 10]), ([9, 11, 7], [7, 9, 11]), ([12, 7], [7, 12]), ([13, 7], [7, 13]), ([7], [7]), ([15, 7], [7, 15]), ([14, 16, 7], [7, 14, 16]), ([7, 17, 4], [4, 7, 17]), ([4, 18], [4, 18]), ([19, 7], [19]), ([20], [20]), ([21, 20], [20, 21]), ([22, 20, 20], [20, 22]), ([23, 20], [20, 23]), ([20, 24], [20, 24]), ([25, 23], [25]), ([26], [26]), ([27, 26], [26, 27]), ([28, 26], [26, 28]), ([29, 26], [26, 29]), ([26, 30], [26, 30])])
def impl_isBroker.B10 : List Nat := [0, 1, 3, 7, 15, 31, 63, 127, 255, 511, 255, 1279, 4095, 8191, 16383, 255, 33023, 131071, 262143, 524287, 1048575, 2097151, 4194303, 8388607, 16777215, 33554431, 67108863, 134217727, 268435455, 536870911, 1073741823, 2147483647]
theorem impl_isBroker.tab10 : rtab .any (opsOf Try.f29 10) = impl_isBroker.T10 := by kernel_rfl
theorem impl_isBroker.bits10 : waitsOk impl_isBroker.T10.2 impl_isBroker.B10 = true := by kernel_rfl
set_option maxHeartbeats 60000000 in
set_option maxRecDepth 100000 in
theorem impl_isBroker.calls (k : Nat) (A0_0 : Option Addr) (c0_0 : Nat) (l0_0 : List (S44)) (A0_1 : Option Addr) (c0_1 : Nat) (l0_1 : List (S36)) (r : Bool) (w : World) (hr0_0 : Kd.C k44 w A0_0 l0_0.length l0_0) (hc0_0 : l0_0.length ≤ c0_0) (hr0_1 : Kd.C k36 w A0_1 l0_1.length l0_1) (hc0_1 : l0_1.length ≤ c0_1) (h : impl_isBroker.f k l0_0 l0_1 = some r) :
    Calls Try.prog 29 #[.agg #[.slice A0_0 l0_0.length c0_0, .slice A0_1 l0_1.length c0_1]] w fun e w' => e = .returned (.bool r) ∧ Below w.heap.size w w' := by
 have hu31 := Try.underlying31
 have hu44 := Try.underlying44
 have hu36 := Try.underlying36
 have HR0_0 := AM hr0_0
 have HC0_0 := AM hc0_0
 clear hr0_0 hc0_0
 have HR0_1 := AM hr0_1
 have HC0_1 := AM hc0_1
 clear hr0_1 hc0_1
 have HB := AM (Below.refl w.heap.size w)
 have H : (impl_isBroker.l0 k l0_0 (l0_0.length : Int) 0 l0_0 l0_1) = some r := h
 clear h
 have H' := AM H
 clear H
 go_enter Try.func29, Try.ntmps29
 go_wp2_with (first | ((with_reducible refine gate_dst (N := 1) rfl ?_); (try (refine gate_guard (by rfl) ?_; dsimp only)); refine box_event (by rfl) (N := 1) (by rfl) (cs := #[.slice A0_0 l0_0.length c0_0, .slice A0_1 l0_1.length c0_1]) (t := 31) (by first | (go_simp; done) | (go_simp; rfl)) ?_; intro gb101 hg w2 hbox hb; have n0_ := AM (below_step (by repeat (first | (with_reducible first | exact HB.out | apply bA | apply bN | apply bD) | exact HB.out)) hb); have n1_ := AM (hbox); have n2_ := AM ((by rw [hg]; exact (bZ (by repeat (first | (with_reducible first | exact HB.out | apply bA | apply bN | apply bD) | exact HB.out))) : w.heap.size ≤ gb101)); have n3_ := n2_; clear HB; have HB := n0_; have BK101 := n1_; have GW101 := n2_; have GE101 := n3_; clear n0_ n1_ n2_ n3_; clear hb hbox hg; have hcz3_0 : w2.cell? ⟨gb101, 0, none⟩ = some (.slice A0_0 l0_0.length c0_0) := (kC BK101.out 0).trans rfl; have hcz3_1 : w2.cell? ⟨gb101, 1, none⟩ = some (.slice A0_1 l0_1.length c0_1) := (kC BK101.out 1).trans rfl; have hfz3_0 := fZ BK101.out 0; have hfz3_1 := fZ BK101.out 1))
 go_loopg [10] k (fun kq v10 w' => ∃ (x10_1 : Int), v10 = .int .i64 x10_1 ∧ Aside0 (impl_isBroker.l0 kq l0_0 (l0_0.length : Int) x10_1 l0_0 l0_1 = some r) ∧ Aside0 (kq ≤ k) ∧ Aside0 (w'.heap[gb101]? = some (.cells #[(.slice A0_0 l0_0.length c0_0), (.slice A0_1 l0_1.length c0_1)] 31 (0, 0))) ∧ Aside0 (Below w.heap.size w w'))
 case atStart => exact ⟨(0), (by first | rfl | (simp; done) | (simp [*]; done)), H', ⟨Nat.le_refl _⟩, ⟨by (with_reducible repeat (first | apply kN | apply kD | apply kA)); exact BK101.out⟩, ⟨by repeat (first | (with_reducible first | exact HB.out | apply bA | apply bN | apply bD | refine bS ?_ GE101.out) | exact HB.out)⟩⟩
 case round =>
  clear H'
  (try clear c2); (try clear p2); (try clear hcz3_0); (try clear hcz3_1); (try clear hfz3_0); (try clear hfz3_1)
  obtain ⟨x10_1, rfl, HA, HK1, BK101, HB⟩ := hrel
  cases gk with
  | zero => exact absurd HA.out (by simp [impl_isBroker.l0])
  | succ k1 =>
   have H := HA.out
   clear HA
   simp only [impl_isBroker.l0] at H
   by_cases c4 : x10_1 < (l0_0.length : Int)
   ·
    rw [if_pos c4] at H
    have c4b0 : decide (x10_1 < (l0_0.length : Int)) = true := decide_eq_true c4
    clear c4
    by_cases c5 : 0 ≤ x10_1
    ·
     rw [if_pos c5] at H
     have c5b0 : decide (0 ≤ x10_1) = true := decide_eq_true c5
     clear c5
     by_cases c6 : x10_1 < (l0_0.length : Int)
     ·
      rw [if_pos c6] at H
      have c6b0 : decide (x10_1 < (l0_0.length : Int)) = true := decide_eq_true c6
      clear c6
      replace H := Option.bind_eq_some_iff.mp H
      obtain ⟨t104, A70, H⟩ := H
      replace H : (if t104 = true then (if x10_1 > 0 then (if 0 ≤ (wrap64 (x10_1 - 1)) then (if (wrap64 (x10_1 - 1)) < (l0_0.length : Int) then (if ((Op.bytesLess (((rd_T44 l0_0 (wrap64 (x10_1 - 1))).f0).toList) (((rd_T44 l0_0 x10_1).f0).toList)) = true) then (impl_isBroker.l0 k1 l0_0 (l0_0.length : Int) (wrap64 (x10_1 + 1)) l0_0 l0_1) else (some false)) else (none)) else (none)) else (impl_isBroker.l0 k1 l0_0 (l0_0.length : Int) (wrap64 (x10_1 + 1)) l0_0 l0_1)) else (some false)) = some r := H
      have A7 := AM A70
      clear A70
      by_cases c8 : t104 = true
      ·
       subst c8
       have H1 : (if x10_1 > 0 then (if 0 ≤ (wrap64 (x10_1 - 1)) then (if (wrap64 (x10_1 - 1)) < (l0_0.length : Int) then (if ((Op.bytesLess (((rd_T44 l0_0 (wrap64 (x10_1 - 1))).f0).toList) (((rd_T44 l0_0 x10_1).f0).toList)) = true) then (impl_isBroker.l0 k1 l0_0 (l0_0.length : Int) (wrap64 (x10_1 + 1)) l0_0 l0_1) else (some false)) else (none)) else (none)) else (impl_isBroker.l0 k1 l0_0 (l0_0.length : Int) (wrap64 (x10_1 + 1)) l0_0 l0_1)) = some r := by rw [if_pos rfl] at H; exact H
       clear H
       have H := H1
       clear H1
       by_cases c9 : x10_1 > 0
       ·
        rw [if_pos c9] at H
        have c9b0 : decide (0 < x10_1) = true := decide_eq_true c9
        clear c9
        obtain ⟨ji10, hji10⟩ : ∃ j_ : Int, (wrap64 (x10_1 - 1)) = j_ := ⟨_, rfl⟩
        replace H : (if 0 ≤ (ji10) then (if (ji10) < (l0_0.length : Int) then (if ((Op.bytesLess (((rd_T44 l0_0 (ji10)).f0).toList) (((rd_T44 l0_0 x10_1).f0).toList)) = true) then (impl_isBroker.l0 k1 l0_0 (l0_0.length : Int) (wrap64 (x10_1 + 1)) l0_0 l0_1) else (some false)) else (none)) else (none)) = some r := by first | (rw [hji10] at H; exact H) | (simp only [hji10] at H ⊢; exact H)
        (try rw [hji10] at A7)
        have hji10w : (IntKind.i64.wrap (x10_1 - 1)) = ji10 := (i64_w _).trans hji10
        by_cases c11 : 0 ≤ (ji10)
        ·
         rw [if_pos c11] at H
         have c11b0 : decide (0 ≤ (ji10)) = true := decide_eq_true c11
         clear c11
         by_cases c12 : (ji10) < (l0_0.length : Int)
         ·
          rw [if_pos c12] at H
          have c12b0 : decide ((ji10) < (l0_0.length : Int)) = true := decide_eq_true c12
          clear c12
          by_cases c13 : ((Op.bytesLess (((rd_T44 l0_0 (ji10)).f0).toList) (((rd_T44 l0_0 x10_1).f0).toList)) = true)
          ·
           rw [if_pos c13] at H
           have c13b0 : (Op.bytesLess (((rd_T44 l0_0 (ji10)).f0).toList) (((rd_T44 l0_0 x10_1).f0).toList)) = true := c13
           clear c13
           have H' := AM H
           clear H
           have p102 : 0 ≤ (x10_1 : Int) := of_decide_eq_true (by assumption)
           have q102 : x10_1 < (l0_0.length : Int) := of_decide_eq_true (by assumption)
           obtain ⟨ad102, A102_2, c102_2, A102_3, c102_3, e102, hx102_0, hx102_1, hx102_2, hx102_3, hl102_2, hi102_2, hl102_3, hi102_3⟩ := at_T44 HR0_0.out x10_1 p102 q102
           cases e102
           replace hx102_0 := pw_cell_below HB.out hx102_0
           replace hx102_1 := pw_cell_below HB.out hx102_1
           replace hx102_2 := pw_cell_below HB.out hx102_2
           replace hx102_3 := pw_cell_below HB.out hx102_3
           have HR102_2 := AM hi102_2
           have HC102_2 := AM hl102_2
           clear hi102_2 hl102_2
           have HR102_3 := AM hi102_3
           have HC102_3 := AM hl102_3
           clear hi102_3 hl102_3
           replace p102 := eq_true p102
           replace q102 := eq_true q102
           try go_wp2_with (first | ((with_reducible refine gate_dst (N := 4) rfl ?_); (try (refine gate_guard (by rfl) ?_; dsimp only)); refine box_event (by rfl) (N := 4) (by rfl) (cs := #[.string (⟨#[]⟩ : ByteArray), .int .i64 0, .slice none 0 0, .slice none 0 0]) (t := 44) (by first | (go_simp; done) | (go_simp; rfl)) ?_; intro gb103 hg w14 hbox hb; have n0_ := AM (blk_below (g := gb101) (o := .cells #[.slice (some ad102) l0_0.length c0_0, .slice A0_1 l0_1.length c0_1] 31 (0, 0)) (by (with_reducible repeat (first | apply kN | apply kD | apply kA)); exact BK101.out) hb); have n1_ := AM (below_step (by repeat (first | (with_reducible first | exact HB.out | apply bA | apply bN | apply bD | refine bS ?_ GE101.out) | exact HB.out)) hb); have n2_ := AM (hbox); have n3_ := AM ((by rw [hg]; exact (bZ (by repeat (first | (with_reducible first | exact HB.out | apply bA | apply bN | apply bD | refine bS ?_ GE101.out) | exact HB.out))) : w.heap.size ≤ gb103)); have n4_ := n3_; have n5_ := AM ((by rw [hg]; exact Nat.ne_of_lt (blk_lt (g := gb101) (o := .cells #[.slice (some ad102) l0_0.length c0_0, .slice A0_1 l0_1.length c0_1] 31 (0, 0)) (by (with_reducible repeat (first | apply kN | apply kD | apply kA)); exact BK101.out)) : gb101 ≠ gb103)); have n6_ := AM ((by rw [hg]; exact Nat.ne_of_gt (blk_lt (g := gb101) (o := .cells #[.slice (some ad102) l0_0.length c0_0, .slice A0_1 l0_1.length c0_1] 31 (0, 0)) (by (with_reducible repeat (first | apply kN | apply kD | apply kA)); exact BK101.out)) : gb103 ≠ gb101)); clear BK101; clear HB; have BK101 := n0_; have HB := n1_; have BK103 := n2_; have GW103 := n3_; have GE103 := n4_; have NB101_103 := n5_; have NB103_101 := n6_; clear n0_ n1_ n2_ n3_ n4_ n5_ n6_; clear hb hbox hg; have hnb15 := NB103_101.out; have hnc15 := NB101_103.out; have hcz16_0 : w14.cell? ⟨gb103, 0, none⟩ = some (.string (⟨#[]⟩ : ByteArray)) := (kC BK103.out 0).trans rfl; have hcz16_1 : w14.cell? ⟨gb103, 1, none⟩ = some (.int .i64 0) := (kC BK103.out 1).trans rfl; have hcz16_2 : w14.cell? ⟨gb103, 2, none⟩ = some (.slice none 0 0) := (kC BK103.out 2).trans rfl; have hcz16_3 : w14.cell? ⟨gb103, 3, none⟩ = some (.slice none 0 0) := (kC BK103.out 3).trans rfl; have hfz16_0 := fZ BK103.out 0; have hfz16_1 := fZ BK103.out 1; have hfz16_2 := fZ BK103.out 2; have hfz16_3 := fZ BK103.out 3))
           have n0_ : Aside0 (((((w14.setCell ⟨gb103, 0, none⟩ (.string ((rd_T44 l0_0 x10_1).f0))).setCell ⟨gb103, 1, none⟩ (.int .i64 ((rd_T44 l0_0 x10_1).f1))).setCell ⟨gb103, 2, none⟩ (.slice A102_2 ((rd_T44 l0_0 x10_1).f2).length c102_2)).setCell ⟨gb103, 3, none⟩ (.slice A102_3 ((rd_T44 l0_0 x10_1).f3).length c102_3)).heap[gb101]? = some (.cells #[.slice (some ad102) l0_0.length c0_0, .slice A0_1 l0_1.length c0_1] 31 (0, 0))) := ⟨by (with_reducible repeat (first | apply kN | apply kD | apply kA)); refine blk_far ?_ NB101_103.out _; (with_reducible repeat (first | apply kN | apply kD | apply kA)); refine blk_far ?_ NB101_103.out _; (with_reducible repeat (first | apply kN | apply kD | apply kA)); refine blk_far ?_ NB101_103.out _; (with_reducible repeat (first | apply kN | apply kD | apply kA)); refine blk_far ?_ NB101_103.out _; (with_reducible repeat (first | apply kN | apply kD | apply kA)); exact BK101.out⟩
           have n1_ : Aside0 (((((w14.setCell ⟨gb103, 0, none⟩ (.string ((rd_T44 l0_0 x10_1).f0))).setCell ⟨gb103, 1, none⟩ (.int .i64 ((rd_T44 l0_0 x10_1).f1))).setCell ⟨gb103, 2, none⟩ (.slice A102_2 ((rd_T44 l0_0 x10_1).f2).length c102_2)).setCell ⟨gb103, 3, none⟩ (.slice A102_3 ((rd_T44 l0_0 x10_1).f3).length c102_3)).heap[gb103]? = some (.cells #[.string ((rd_T44 l0_0 x10_1).f0), .int .i64 ((rd_T44 l0_0 x10_1).f1), .slice A102_2 ((rd_T44 l0_0 x10_1).f2).length c102_2, .slice A102_3 ((rd_T44 l0_0 x10_1).f3).length c102_3] 44 (0, 0))) := ⟨by (with_reducible repeat (first | apply kN | apply kD | apply kA)); refine blk_put (cs := #[.string ((rd_T44 l0_0 x10_1).f0), .int .i64 ((rd_T44 l0_0 x10_1).f1), .slice A102_2 ((rd_T44 l0_0 x10_1).f2).length c102_2, .slice none 0 0]) ?_ 3 _ rfl; (with_reducible repeat (first | apply kN | apply kD | apply kA)); refine blk_put (cs := #[.string ((rd_T44 l0_0 x10_1).f0), .int .i64 ((rd_T44 l0_0 x10_1).f1), .slice none 0 0, .slice none 0 0]) ?_ 2 _ rfl; (with_reducible repeat (first | apply kN | apply kD | apply kA)); refine blk_put (cs := #[.string ((rd_T44 l0_0 x10_1).f0), .int .i64 0, .slice none 0 0, .slice none 0 0]) ?_ 1 _ rfl; (with_reducible repeat (first | apply kN | apply kD | apply kA)); refine blk_put (cs := #[.string (⟨#[]⟩ : ByteArray), .int .i64 0, .slice none 0 0, .slice none 0 0]) ?_ 0 _ rfl; (with_reducible repeat (first | apply kN | apply kD | apply kA)); exact BK103.out⟩
           have n2_ : Aside0 (Below w.heap.size w ((((w14.setCell ⟨gb103, 0, none⟩ (.string ((rd_T44 l0_0 x10_1).f0))).setCell ⟨gb103, 1, none⟩ (.int .i64 ((rd_T44 l0_0 x10_1).f1))).setCell ⟨gb103, 2, none⟩ (.slice A102_2 ((rd_T44 l0_0 x10_1).f2).length c102_2)).setCell ⟨gb103, 3, none⟩ (.slice A102_3 ((rd_T44 l0_0 x10_1).f3).length c102_3))) := ⟨by repeat (first | (with_reducible first | exact HB.out | apply bA | apply bN | apply bD | refine bS ?_ GE101.out | refine bS ?_ GE103.out) | exact HB.out)⟩
           (try clear BK101)
           (try clear BK103)
           (try clear HB)
           generalize ((((w14.setCell ⟨gb103, 0, none⟩ (.string ((rd_T44 l0_0 x10_1).f0))).setCell ⟨gb103, 1, none⟩ (.int .i64 ((rd_T44 l0_0 x10_1).f1))).setCell ⟨gb103, 2, none⟩ (.slice A102_2 ((rd_T44 l0_0 x10_1).f2).length c102_2)).setCell ⟨gb103, 3, none⟩ (.slice A102_3 ((rd_T44 l0_0 x10_1).f3).length c102_3)) = w17 at n0_ n1_ n2_ ⊢
           have BK101 := n0_
           have BK103 := n1_
           have HB := n2_
           clear n0_ n1_ n2_
           have n0_ := AM (kD BK101.out)
           have n1_ := AM (kD BK103.out)
           have n2_ := AM (bD HB.out)
           clear BK101
           clear BK103
           clear HB
           have BK101 := n0_
           have BK103 := n1_
           have HB := n2_
           clear n0_ n1_ n2_
           have p105 : 0 ≤ ((ji10) : Int) := of_decide_eq_true (by assumption)
           have q105 : (ji10) < (l0_0.length : Int) := of_decide_eq_true (by assumption)
           obtain ⟨ad105, A105_2, c105_2, A105_3, c105_3, e105, hx105_0, hx105_1, hx105_2, hx105_3, hl105_2, hi105_2, hl105_3, hi105_3⟩ := at_T44 HR0_0.out (ji10) p105 q105
           have hw105_3 := hx105_3
           have hw105_2 := hx105_2
           have hw105_1 := hx105_1
           have hw105_0 := hx105_0
           obtain rfl : ad102 = ad105 := (by injection e105)
           replace hx105_0 := pw_cell_below HB.out hx105_0
           replace hx105_1 := pw_cell_below HB.out hx105_1
           replace hx105_2 := pw_cell_below HB.out hx105_2
           replace hx105_3 := pw_cell_below HB.out hx105_3
           have HR105_2 := AM hi105_2
           have HC105_2 := AM hl105_2
           clear hi105_2 hl105_2
           have HR105_3 := AM hi105_3
           have HC105_3 := AM hl105_3
           clear hi105_3 hl105_3
           replace p105 := eq_true p105
           replace q105 := eq_true q105
           refine start_ (n := 19) (S := fun w' => w'.cell? ⟨gb103, 0, none⟩ = some (.string ((rd_T44 l0_0 x10_1).f0)) ∧ w'.cell? ⟨gb103, 1, none⟩ = some (.int .i64 ((rd_T44 l0_0 x10_1).f1)) ∧ w'.cell? ⟨gb103, 2, none⟩ = some (.slice A102_2 ((rd_T44 l0_0 x10_1).f2).length c102_2) ∧ w'.cell? ⟨gb103, 3, none⟩ = some (.slice A102_3 ((rd_T44 l0_0 x10_1).f3).length c102_3) ∧ w'.cell? ⟨gb101, 0, none⟩ = some (.slice (some ad102) l0_0.length c0_0) ∧ w'.cell? ⟨gb101, 1, none⟩ = some (.slice A0_1 l0_1.length c0_1) ∧ w'.cell? (ad102.add (((ji10)).toNat * 4)) = some (.string ((rd_T44 l0_0 (ji10)).f0)) ∧ w'.cell? ⟨(ad102.add (((ji10)).toNat * 4)).block, (ad102.add (((ji10)).toNat * 4)).off + 1, none⟩ = some (.int .i64 ((rd_T44 l0_0 (ji10)).f1)) ∧ w'.cell? ⟨(ad102.add (((ji10)).toNat * 4)).block, (ad102.add (((ji10)).toNat * 4)).off + 2, none⟩ = some (.slice A105_2 ((rd_T44 l0_0 (ji10)).f2).length c105_2) ∧ w'.cell? ⟨(ad102.add (((ji10)).toNat * 4)).block, (ad102.add (((ji10)).toNat * 4)).off + 3, none⟩ = some (.slice A105_3 ((rd_T44 l0_0 (ji10)).f3).length c105_3)) (ds := []) (upTo 0 19) (by kernel_rfl) rfl rfl ⟨(kC BK103.out 0).trans rfl, (kC BK103.out 1).trans rfl, (kC BK103.out 2).trans rfl, (kC BK103.out 3).trans rfl, (kC BK101.out 0).trans rfl, (kC BK101.out 1).trans rfl, (pw_cell_below HB.out hw105_0), (pw_cell_below HB.out hw105_1), (pw_cell_below HB.out hw105_2), (pw_cell_below HB.out hw105_3)⟩ (fun hHeld => ?_); refine with_tabW impl_isBroker.tab4 impl_isBroker.bits4 (fun HT_ HW_ => ?_)
           generalize w17.drew = w18 at BK101 BK103 HB HR105_2 HR105_3 hx105_0 hx105_1 hx105_2 hx105_3 hHeld ⊢
           refine pT2 0 15 (upTo 1 19) ?_ hHeld
           refine one_ (i := 1) (N := some 16) (upTo 2 19) rfl rfl (one_of HT_.out (by kernel_rfl)) (by decide) (fun K hK => ?_)
           refine goes_ Try.func55 (by kernel_rfl) rfl #[.agg #[.string ((rd_T44 l0_0 x10_1).f0), .int .i64 ((rd_T44 l0_0 x10_1).f1), .slice A102_2 ((rd_T44 l0_0 x10_1).f2).length c102_2, .slice A102_3 ((rd_T44 l0_0 x10_1).f3).length c102_3]] (by rfl) rfl rfl (by (try simp only [mA, mB, mC]); first | done | rfl | (simp only [mD, mE]; rfl)) ?_
           with_reducible refine (impl_isTopic.calls k1 ((rd_T44 l0_0 x10_1).f0) ((rd_T44 l0_0 x10_1).f1) _ _ ((rd_T44 l0_0 x10_1).f2) _ _ ((rd_T44 l0_0 x10_1).f3) true _ ?side1 ?side2 ?side3 ?side4 A7.out).mono ?_
           (case side1 => repeat (first | exact (cB HR102_2.out HB.out) | (with_reducible first | apply cA | apply cN | apply cD)))
           (case side2 => exact HC102_2.out)
           (case side3 => repeat (first | exact (cB HR102_3.out HB.out) | (with_reducible first | apply cA | apply cN | apply cD)))
           (case side4 => exact HC102_3.out)
           rintro e w19 ⟨rfl, hb⟩
           refine ⟨_, rfl, ?_⟩
           have n0_ := AM (blk_below (g := gb101) (o := .cells #[.slice (some ad102) l0_0.length c0_0, .slice A0_1 l0_1.length c0_1] 31 (0, 0)) (by (with_reducible repeat (first | apply kN | apply kD | apply kA)); exact BK101.out) hb)
           have n1_ := AM (blk_below (g := gb103) (o := .cells #[.string ((rd_T44 l0_0 x10_1).f0), .int .i64 ((rd_T44 l0_0 x10_1).f1), .slice A102_2 ((rd_T44 l0_0 x10_1).f2).length c102_2, .slice A102_3 ((rd_T44 l0_0 x10_1).f3).length c102_3] 44 (0, 0)) (by (with_reducible repeat (first | apply kN | apply kD | apply kA)); exact BK103.out) hb)
           have n2_ := AM (below_step (by repeat (first | (with_reducible first | exact HB.out | apply bA | apply bN | apply bD | refine bS ?_ GE101.out | refine bS ?_ GE103.out) | exact HB.out)) hb)
           clear BK101
           clear BK103
           clear HB
           have BK101 := n0_
           have BK103 := n1_
           have HB := n2_
           clear n0_ n1_ n2_
           (try clear hb)
           (try clear hk)
           refine hK.out _ _ ⟨(kC BK103.out 0).trans rfl, (kC BK103.out 1).trans rfl, (kC BK103.out 2).trans rfl, (kC BK103.out 3).trans rfl, (kC BK101.out 0).trans rfl, (kC BK101.out 1).trans rfl, (pw_cell_below HB.out hw105_0), (pw_cell_below HB.out hw105_1), (pw_cell_below HB.out hw105_2), (pw_cell_below HB.out hw105_3)⟩ (fun hHeld => ?_)
           clear hK K
           refine norm_ (a' := ?_) ?_ ?_
           rotate_left
           ·
            show Act.put _ (some 16) _ = _
            simp only [Act.put, sA, sB, sC, i64_w, i32_w]
            rfl
           refine pF 2 3 19 17 ?_
           refine pF 3 4 19 18 ?_
           refine pF 4 5 19 19 ?_
           refine pF 5 6 19 20 ?_
           refine pF 6 7 19 21 ?_
           refine pF 7 8 19 22 ?_
           refine pF2 9 24 impl_isBroker.b0 ?_
           refine pF2 10 25 impl_isBroker.b1 ?_
           refine pF2 14 29 impl_isBroker.b2 ?_
           refine pT2 8 23 impl_isBroker.b3 ?_ hHeld
           refine pF2 11 26 impl_isBroker.b4 ?_
           refine pF2 12 27 impl_isBroker.b5 ?_
           refine pT2 13 28 (upTo 15 19) ?_ hHeld
           refine pT2 15 30 (upTo 16 19) ?_ hHeld
           refine pF 16 17 19 31 ?_
           refine pF 17 18 19 32 ?_
           refine pF 18 19 19 33 ?_
           refine done_ (done_of HT_.out (by kernel_rfl)) ?_
           try go_wp2
           go_roundg k1
           case measure => have := HK1.out; omega
           case rel => exact ⟨(wrap64 (x10_1 + 1)), (by first | rfl | (simp; done) | (simp [*]; done)), H', ⟨by have := HK1.out; omega⟩, ⟨by (with_reducible repeat (first | apply kN | apply kD | apply kA)); exact BK101.out⟩, ⟨by repeat (first | (with_reducible first | exact HB.out | apply bA | apply bN | apply bD | refine bS ?_ GE101.out | refine bS ?_ GE103.out) | exact HB.out)⟩⟩
          ·
           rw [if_neg c13] at H
           have c13b0 : (Op.bytesLess (((rd_T44 l0_0 (ji10)).f0).toList) (((rd_T44 l0_0 x10_1).f0).toList)) = false := by simpa using c13
           clear c13
           obtain rfl := Option.some.inj H
           have p102 : 0 ≤ (x10_1 : Int) := of_decide_eq_true (by assumption)
           have q102 : x10_1 < (l0_0.length : Int) := of_decide_eq_true (by assumption)
           obtain ⟨ad102, A102_2, c102_2, A102_3, c102_3, e102, hx102_0, hx102_1, hx102_2, hx102_3, hl102_2, hi102_2, hl102_3, hi102_3⟩ := at_T44 HR0_0.out x10_1 p102 q102
           cases e102
           replace hx102_0 := pw_cell_below HB.out hx102_0
           replace hx102_1 := pw_cell_below HB.out hx102_1
           replace hx102_2 := pw_cell_below HB.out hx102_2
           replace hx102_3 := pw_cell_below HB.out hx102_3
           have HR102_2 := AM hi102_2
           have HC102_2 := AM hl102_2
           clear hi102_2 hl102_2
           have HR102_3 := AM hi102_3
           have HC102_3 := AM hl102_3
           clear hi102_3 hl102_3
           replace p102 := eq_true p102
           replace q102 := eq_true q102
           try go_wp2_with (first | ((with_reducible refine gate_dst (N := 4) rfl ?_); (try (refine gate_guard (by rfl) ?_; dsimp only)); refine box_event (by rfl) (N := 4) (by rfl) (cs := #[.string (⟨#[]⟩ : ByteArray), .int .i64 0, .slice none 0 0, .slice none 0 0]) (t := 44) (by first | (go_simp; done) | (go_simp; rfl)) ?_; intro gb103 hg w20 hbox hb; have n0_ := AM (blk_below (g := gb101) (o := .cells #[.slice (some ad102) l0_0.length c0_0, .slice A0_1 l0_1.length c0_1] 31 (0, 0)) (by (with_reducible repeat (first | apply kN | apply kD | apply kA)); exact BK101.out) hb); have n1_ := AM (below_step (by repeat (first | (with_reducible first | exact HB.out | apply bA | apply bN | apply bD | refine bS ?_ GE101.out) | exact HB.out)) hb); have n2_ := AM (hbox); have n3_ := AM ((by rw [hg]; exact (bZ (by repeat (first | (with_reducible first | exact HB.out | apply bA | apply bN | apply bD | refine bS ?_ GE101.out) | exact HB.out))) : w.heap.size ≤ gb103)); have n4_ := n3_; have n5_ := AM ((by rw [hg]; exact Nat.ne_of_lt (blk_lt (g := gb101) (o := .cells #[.slice (some ad102) l0_0.length c0_0, .slice A0_1 l0_1.length c0_1] 31 (0, 0)) (by (with_reducible repeat (first | apply kN | apply kD | apply kA)); exact BK101.out)) : gb101 ≠ gb103)); have n6_ := AM ((by rw [hg]; exact Nat.ne_of_gt (blk_lt (g := gb101) (o := .cells #[.slice (some ad102) l0_0.length c0_0, .slice A0_1 l0_1.length c0_1] 31 (0, 0)) (by (with_reducible repeat (first | apply kN | apply kD | apply kA)); exact BK101.out)) : gb103 ≠ gb101)); clear BK101; clear HB; have BK101 := n0_; have HB := n1_; have BK103 := n2_; have GW103 := n3_; have GE103 := n4_; have NB101_103 := n5_; have NB103_101 := n6_; clear n0_ n1_ n2_ n3_ n4_ n5_ n6_; clear hb hbox hg; have hnb21 := NB103_101.out; have hnc21 := NB101_103.out; have hcz22_0 : w20.cell? ⟨gb103, 0, none⟩ = some (.string (⟨#[]⟩ : ByteArray)) := (kC BK103.out 0).trans rfl; have hcz22_1 : w20.cell? ⟨gb103, 1, none⟩ = some (.int .i64 0) := (kC BK103.out 1).trans rfl; have hcz22_2 : w20.cell? ⟨gb103, 2, none⟩ = some (.slice none 0 0) := (kC BK103.out 2).trans rfl; have hcz22_3 : w20.cell? ⟨gb103, 3, none⟩ = some (.slice none 0 0) := (kC BK103.out 3).trans rfl; have hfz22_0 := fZ BK103.out 0; have hfz22_1 := fZ BK103.out 1; have hfz22_2 := fZ BK103.out 2; have hfz22_3 := fZ BK103.out 3))
           have n0_ : Aside0 (((((w20.setCell ⟨gb103, 0, none⟩ (.string ((rd_T44 l0_0 x10_1).f0))).setCell ⟨gb103, 1, none⟩ (.int .i64 ((rd_T44 l0_0 x10_1).f1))).setCell ⟨gb103, 2, none⟩ (.slice A102_2 ((rd_T44 l0_0 x10_1).f2).length c102_2)).setCell ⟨gb103, 3, none⟩ (.slice A102_3 ((rd_T44 l0_0 x10_1).f3).length c102_3)).heap[gb101]? = some (.cells #[.slice (some ad102) l0_0.length c0_0, .slice A0_1 l0_1.length c0_1] 31 (0, 0))) := ⟨by (with_reducible repeat (first | apply kN | apply kD | apply kA)); refine blk_far ?_ NB101_103.out _; (with_reducible repeat (first | apply kN | apply kD | apply kA)); refine blk_far ?_ NB101_103.out _; (with_reducible repeat (first | apply kN | apply kD | apply kA)); refine blk_far ?_ NB101_103.out _; (with_reducible repeat (first | apply kN | apply kD | apply kA)); refine blk_far ?_ NB101_103.out _; (with_reducible repeat (first | apply kN | apply kD | apply kA)); exact BK101.out⟩
           have n1_ : Aside0 (((((w20.setCell ⟨gb103, 0, none⟩ (.string ((rd_T44 l0_0 x10_1).f0))).setCell ⟨gb103, 1, none⟩ (.int .i64 ((rd_T44 l0_0 x10_1).f1))).setCell ⟨gb103, 2, none⟩ (.slice A102_2 ((rd_T44 l0_0 x10_1).f2).length c102_2)).setCell ⟨gb103, 3, none⟩ (.slice A102_3 ((rd_T44 l0_0 x10_1).f3).length c102_3)).heap[gb103]? = some (.cells #[.string ((rd_T44 l0_0 x10_1).f0), .int .i64 ((rd_T44 l0_0 x10_1).f1), .slice A102_2 ((rd_T44 l0_0 x10_1).f2).length c102_2, .slice A102_3 ((rd_T44 l0_0 x10_1).f3).length c102_3] 44 (0, 0))) := ⟨by (with_reducible repeat (first | apply kN | apply kD | apply kA)); refine blk_put (cs := #[.string ((rd_T44 l0_0 x10_1).f0), .int .i64 ((rd_T44 l0_0 x10_1).f1), .slice A102_2 ((rd_T44 l0_0 x10_1).f2).length c102_2, .slice none 0 0]) ?_ 3 _ rfl; (with_reducible repeat (first | apply kN | apply kD | apply kA)); refine blk_put (cs := #[.string ((rd_T44 l0_0 x10_1).f0), .int .i64 ((rd_T44 l0_0 x10_1).f1), .slice none 0 0, .slice none 0 0]) ?_ 2 _ rfl; (with_reducible repeat (first | apply kN | apply kD | apply kA)); refine blk_put (cs := #[.string ((rd_T44 l0_0 x10_1).f0), .int .i64 0, .slice none 0 0, .slice none 0 0]) ?_ 1 _ rfl; (with_reducible repeat (first | apply kN | apply kD | apply kA)); refine blk_put (cs := #[.string (⟨#[]⟩ : ByteArray), .int .i64 0, .slice none 0 0, .slice none 0 0]) ?_ 0 _ rfl; (with_reducible repeat (first | apply kN | apply kD | apply kA)); exact BK103.out⟩
           have n2_ : Aside0 (Below w.heap.size w ((((w20.setCell ⟨gb103, 0, none⟩ (.string ((rd_T44 l0_0 x10_1).f0))).setCell ⟨gb103, 1, none⟩ (.int .i64 ((rd_T44 l0_0 x10_1).f1))).setCell ⟨gb103, 2, none⟩ (.slice A102_2 ((rd_T44 l0_0 x10_1).f2).length c102_2)).setCell ⟨gb103, 3, none⟩ (.slice A102_3 ((rd_T44 l0_0 x10_1).f3).length c102_3))) := ⟨by repeat (first | (with_reducible first | exact HB.out | apply bA | apply bN | apply bD | refine bS ?_ GE101.out | refine bS ?_ GE103.out) | exact HB.out)⟩
           (try clear BK101)
           (try clear BK103)
           (try clear HB)
           generalize ((((w20.setCell ⟨gb103, 0, none⟩ (.string ((rd_T44 l0_0 x10_1).f0))).setCell ⟨gb103, 1, none⟩ (.int .i64 ((rd_T44 l0_0 x10_1).f1))).setCell ⟨gb103, 2, none⟩ (.slice A102_2 ((rd_T44 l0_0 x10_1).f2).length c102_2)).setCell ⟨gb103, 3, none⟩ (.slice A102_3 ((rd_T44 l0_0 x10_1).f3).length c102_3)) = w23 at n0_ n1_ n2_ ⊢
           have BK101 := n0_
           have BK103 := n1_
           have HB := n2_
           clear n0_ n1_ n2_
           have n0_ := AM (kD BK101.out)
           have n1_ := AM (kD BK103.out)
           have n2_ := AM (bD HB.out)
           clear BK101
           clear BK103
           clear HB
           have BK101 := n0_
           have BK103 := n1_
           have HB := n2_
           clear n0_ n1_ n2_
           have p105 : 0 ≤ ((ji10) : Int) := of_decide_eq_true (by assumption)
           have q105 : (ji10) < (l0_0.length : Int) := of_decide_eq_true (by assumption)
           obtain ⟨ad105, A105_2, c105_2, A105_3, c105_3, e105, hx105_0, hx105_1, hx105_2, hx105_3, hl105_2, hi105_2, hl105_3, hi105_3⟩ := at_T44 HR0_0.out (ji10) p105 q105
           have hw105_3 := hx105_3
           have hw105_2 := hx105_2
           have hw105_1 := hx105_1
           have hw105_0 := hx105_0
           obtain rfl : ad102 = ad105 := (by injection e105)
           replace hx105_0 := pw_cell_below HB.out hx105_0
           replace hx105_1 := pw_cell_below HB.out hx105_1
           replace hx105_2 := pw_cell_below HB.out hx105_2
           replace hx105_3 := pw_cell_below HB.out hx105_3
           have HR105_2 := AM hi105_2
           have HC105_2 := AM hl105_2
           clear hi105_2 hl105_2
           have HR105_3 := AM hi105_3
           have HC105_3 := AM hl105_3
           clear hi105_3 hl105_3
           replace p105 := eq_true p105
           replace q105 := eq_true q105
           refine start_ (n := 19) (S := fun w' => w'.cell? ⟨gb103, 0, none⟩ = some (.string ((rd_T44 l0_0 x10_1).f0)) ∧ w'.cell? ⟨gb103, 1, none⟩ = some (.int .i64 ((rd_T44 l0_0 x10_1).f1)) ∧ w'.cell? ⟨gb103, 2, none⟩ = some (.slice A102_2 ((rd_T44 l0_0 x10_1).f2).length c102_2) ∧ w'.cell? ⟨gb103, 3, none⟩ = some (.slice A102_3 ((rd_T44 l0_0 x10_1).f3).length c102_3) ∧ w'.cell? ⟨gb101, 0, none⟩ = some (.slice (some ad102) l0_0.length c0_0) ∧ w'.cell? ⟨gb101, 1, none⟩ = some (.slice A0_1 l0_1.length c0_1) ∧ w'.cell? (ad102.add (((ji10)).toNat * 4)) = some (.string ((rd_T44 l0_0 (ji10)).f0)) ∧ w'.cell? ⟨(ad102.add (((ji10)).toNat * 4)).block, (ad102.add (((ji10)).toNat * 4)).off + 1, none⟩ = some (.int .i64 ((rd_T44 l0_0 (ji10)).f1)) ∧ w'.cell? ⟨(ad102.add (((ji10)).toNat * 4)).block, (ad102.add (((ji10)).toNat * 4)).off + 2, none⟩ = some (.slice A105_2 ((rd_T44 l0_0 (ji10)).f2).length c105_2) ∧ w'.cell? ⟨(ad102.add (((ji10)).toNat * 4)).block, (ad102.add (((ji10)).toNat * 4)).off + 3, none⟩ = some (.slice A105_3 ((rd_T44 l0_0 (ji10)).f3).length c105_3)) (ds := []) (upTo 0 19) (by kernel_rfl) rfl rfl ⟨(kC BK103.out 0).trans rfl, (kC BK103.out 1).trans rfl, (kC BK103.out 2).trans rfl, (kC BK103.out 3).trans rfl, (kC BK101.out 0).trans rfl, (kC BK101.out 1).trans rfl, (pw_cell_below HB.out hw105_0), (pw_cell_below HB.out hw105_1), (pw_cell_below HB.out hw105_2), (pw_cell_below HB.out hw105_3)⟩ (fun hHeld => ?_); refine with_tabW impl_isBroker.tab4 impl_isBroker.bits4 (fun HT_ HW_ => ?_)
           generalize w23.drew = w24 at BK101 BK103 HB HR105_2 HR105_3 hx105_0 hx105_1 hx105_2 hx105_3 hHeld ⊢
           refine pT2 0 15 (upTo 1 19) ?_ hHeld
           refine one_ (i := 1) (N := some 16) (upTo 2 19) rfl rfl (one_of HT_.out (by kernel_rfl)) (by decide) (fun K hK => ?_)
           refine goes_ Try.func55 (by kernel_rfl) rfl #[.agg #[.string ((rd_T44 l0_0 x10_1).f0), .int .i64 ((rd_T44 l0_0 x10_1).f1), .slice A102_2 ((rd_T44 l0_0 x10_1).f2).length c102_2, .slice A102_3 ((rd_T44 l0_0 x10_1).f3).length c102_3]] (by rfl) rfl rfl (by (try simp only [mA, mB, mC]); first | done | rfl | (simp only [mD, mE]; rfl)) ?_
           with_reducible refine (impl_isTopic.calls k1 ((rd_T44 l0_0 x10_1).f0) ((rd_T44 l0_0 x10_1).f1) _ _ ((rd_T44 l0_0 x10_1).f2) _ _ ((rd_T44 l0_0 x10_1).f3) true _ ?side1 ?side2 ?side3 ?side4 A7.out).mono ?_
           (case side1 => repeat (first | exact (cB HR102_2.out HB.out) | (with_reducible first | apply cA | apply cN | apply cD)))
           (case side2 => exact HC102_2.out)
           (case side3 => repeat (first | exact (cB HR102_3.out HB.out) | (with_reducible first | apply cA | apply cN | apply cD)))
           (case side4 => exact HC102_3.out)
           rintro e w25 ⟨rfl, hb⟩
           refine ⟨_, rfl, ?_⟩
           have n0_ := AM (blk_below (g := gb101) (o := .cells #[.slice (some ad102) l0_0.length c0_0, .slice A0_1 l0_1.length c0_1] 31 (0, 0)) (by (with_reducible repeat (first | apply kN | apply kD | apply kA)); exact BK101.out) hb)
           have n1_ := AM (blk_below (g := gb103) (o := .cells #[.string ((rd_T44 l0_0 x10_1).f0), .int .i64 ((rd_T44 l0_0 x10_1).f1), .slice A102_2 ((rd_T44 l0_0 x10_1).f2).length c102_2, .slice A102_3 ((rd_T44 l0_0 x10_1).f3).length c102_3] 44 (0, 0)) (by (with_reducible repeat (first | apply kN | apply kD | apply kA)); exact BK103.out) hb)
           have n2_ := AM (below_step (by repeat (first | (with_reducible first | exact HB.out | apply bA | apply bN | apply bD | refine bS ?_ GE101.out | refine bS ?_ GE103.out) | exact HB.out)) hb)
           clear BK101
           clear BK103
           clear HB
           have BK101 := n0_
           have BK103 := n1_
           have HB := n2_
           clear n0_ n1_ n2_
           (try clear hb)
           (try clear hk)
           refine hK.out _ _ ⟨(kC BK103.out 0).trans rfl, (kC BK103.out 1).trans rfl, (kC BK103.out 2).trans rfl, (kC BK103.out 3).trans rfl, (kC BK101.out 0).trans rfl, (kC BK101.out 1).trans rfl, (pw_cell_below HB.out hw105_0), (pw_cell_below HB.out hw105_1), (pw_cell_below HB.out hw105_2), (pw_cell_below HB.out hw105_3)⟩ (fun hHeld => ?_)
           clear hK K
           refine norm_ (a' := ?_) ?_ ?_
           rotate_left
           ·
            show Act.put _ (some 16) _ = _
            simp only [Act.put, sA, sB, sC, i64_w, i32_w]
            rfl
           refine pF 2 3 19 17 ?_
           refine pF 3 4 19 18 ?_
           refine pF 4 5 19 19 ?_
           refine pF 5 6 19 20 ?_
           refine pF 6 7 19 21 ?_
           refine pF 7 8 19 22 ?_
           refine pF2 9 24 impl_isBroker.b0 ?_
           refine pF2 10 25 impl_isBroker.b1 ?_
           refine pF2 14 29 impl_isBroker.b2 ?_
           refine pT2 8 23 impl_isBroker.b3 ?_ hHeld
           refine pF2 11 26 impl_isBroker.b4 ?_
           refine pF2 12 27 impl_isBroker.b5 ?_
           refine pT2 13 28 (upTo 15 19) ?_ hHeld
           refine pT2 15 30 (upTo 16 19) ?_ hHeld
           refine pF 16 17 19 31 ?_
           refine pF 17 18 19 32 ?_
           refine pF 18 19 19 33 ?_
           refine done_ (done_of HT_.out (by kernel_rfl)) ?_
           try go_wp2
           go_ret
           exact ⟨by first | rfl | (simp [errW_none, errW_some] <;> rfl) | (simp only [← hji10]; first | rfl | (simp [errW_none, errW_some] <;> rfl)) | (simp [*, errW_none, errW_some] <;> rfl), by repeat (first | (with_reducible first | exact HB.out | apply bA | apply bN | apply bD | refine bS ?_ GE101.out | refine bS ?_ GE103.out) | exact HB.out)⟩
         ·
          rw [if_neg c12] at H
          exact absurd H (by simp)
        ·
         rw [if_neg c11] at H
         exact absurd H (by simp)
       ·
        rw [if_neg c9] at H
        have c9b0 : decide (0 < x10_1) = false := decide_eq_false c9
        clear c9
        have H' := AM H
        clear H
        have p102 : 0 ≤ (x10_1 : Int) := of_decide_eq_true (by assumption)
        have q102 : x10_1 < (l0_0.length : Int) := of_decide_eq_true (by assumption)
        obtain ⟨ad102, A102_2, c102_2, A102_3, c102_3, e102, hx102_0, hx102_1, hx102_2, hx102_3, hl102_2, hi102_2, hl102_3, hi102_3⟩ := at_T44 HR0_0.out x10_1 p102 q102
        cases e102
        replace hx102_0 := pw_cell_below HB.out hx102_0
        replace hx102_1 := pw_cell_below HB.out hx102_1
        replace hx102_2 := pw_cell_below HB.out hx102_2
        replace hx102_3 := pw_cell_below HB.out hx102_3
        have HR102_2 := AM hi102_2
        have HC102_2 := AM hl102_2
        clear hi102_2 hl102_2
        have HR102_3 := AM hi102_3
        have HC102_3 := AM hl102_3
        clear hi102_3 hl102_3
        replace p102 := eq_true p102
        replace q102 := eq_true q102
        try go_wp2_with (first | ((with_reducible refine gate_dst (N := 4) rfl ?_); (try (refine gate_guard (by rfl) ?_; dsimp only)); refine box_event (by rfl) (N := 4) (by rfl) (cs := #[.string (⟨#[]⟩ : ByteArray), .int .i64 0, .slice none 0 0, .slice none 0 0]) (t := 44) (by first | (go_simp; done) | (go_simp; rfl)) ?_; intro gb103 hg w26 hbox hb; have n0_ := AM (blk_below (g := gb101) (o := .cells #[.slice (some ad102) l0_0.length c0_0, .slice A0_1 l0_1.length c0_1] 31 (0, 0)) (by (with_reducible repeat (first | apply kN | apply kD | apply kA)); exact BK101.out) hb); have n1_ := AM (below_step (by repeat (first | (with_reducible first | exact HB.out | apply bA | apply bN | apply bD | refine bS ?_ GE101.out) | exact HB.out)) hb); have n2_ := AM (hbox); have n3_ := AM ((by rw [hg]; exact (bZ (by repeat (first | (with_reducible first | exact HB.out | apply bA | apply bN | apply bD | refine bS ?_ GE101.out) | exact HB.out))) : w.heap.size ≤ gb103)); have n4_ := n3_; have n5_ := AM ((by rw [hg]; exact Nat.ne_of_lt (blk_lt (g := gb101) (o := .cells #[.slice (some ad102) l0_0.length c0_0, .slice A0_1 l0_1.length c0_1] 31 (0, 0)) (by (with_reducible repeat (first | apply kN | apply kD | apply kA)); exact BK101.out)) : gb101 ≠ gb103)); have n6_ := AM ((by rw [hg]; exact Nat.ne_of_gt (blk_lt (g := gb101) (o := .cells #[.slice (some ad102) l0_0.length c0_0, .slice A0_1 l0_1.length c0_1] 31 (0, 0)) (by (with_reducible repeat (first | apply kN | apply kD | apply kA)); exact BK101.out)) : gb103 ≠ gb101)); clear BK101; clear HB; have BK101 := n0_; have HB := n1_; have BK103 := n2_; have GW103 := n3_; have GE103 := n4_; have NB101_103 := n5_; have NB103_101 := n6_; clear n0_ n1_ n2_ n3_ n4_ n5_ n6_; clear hb hbox hg; have hnb27 := NB103_101.out; have hnc27 := NB101_103.out; have hcz28_0 : w26.cell? ⟨gb103, 0, none⟩ = some (.string (⟨#[]⟩ : ByteArray)) := (kC BK103.out 0).trans rfl; have hcz28_1 : w26.cell? ⟨gb103, 1, none⟩ = some (.int .i64 0) := (kC BK103.out 1).trans rfl; have hcz28_2 : w26.cell? ⟨gb103, 2, none⟩ = some (.slice none 0 0) := (kC BK103.out 2).trans rfl; have hcz28_3 : w26.cell? ⟨gb103, 3, none⟩ = some (.slice none 0 0) := (kC BK103.out 3).trans rfl; have hfz28_0 := fZ BK103.out 0; have hfz28_1 := fZ BK103.out 1; have hfz28_2 := fZ BK103.out 2; have hfz28_3 := fZ BK103.out 3))
        have n0_ : Aside0 (((((w26.setCell ⟨gb103, 0, none⟩ (.string ((rd_T44 l0_0 x10_1).f0))).setCell ⟨gb103, 1, none⟩ (.int .i64 ((rd_T44 l0_0 x10_1).f1))).setCell ⟨gb103, 2, none⟩ (.slice A102_2 ((rd_T44 l0_0 x10_1).f2).length c102_2)).setCell ⟨gb103, 3, none⟩ (.slice A102_3 ((rd_T44 l0_0 x10_1).f3).length c102_3)).heap[gb101]? = some (.cells #[.slice (some ad102) l0_0.length c0_0, .slice A0_1 l0_1.length c0_1] 31 (0, 0))) := ⟨by (with_reducible repeat (first | apply kN | apply kD | apply kA)); refine blk_far ?_ NB101_103.out _; (with_reducible repeat (first | apply kN | apply kD | apply kA)); refine blk_far ?_ NB101_103.out _; (with_reducible repeat (first | apply kN | apply kD | apply kA)); refine blk_far ?_ NB101_103.out _; (with_reducible repeat (first | apply kN | apply kD | apply kA)); refine blk_far ?_ NB101_103.out _; (with_reducible repeat (first | apply kN | apply kD | apply kA)); exact BK101.out⟩
        have n1_ : Aside0 (((((w26.setCell ⟨gb103, 0, none⟩ (.string ((rd_T44 l0_0 x10_1).f0))).setCell ⟨gb103, 1, none⟩ (.int .i64 ((rd_T44 l0_0 x10_1).f1))).setCell ⟨gb103, 2, none⟩ (.slice A102_2 ((rd_T44 l0_0 x10_1).f2).length c102_2)).setCell ⟨gb103, 3, none⟩ (.slice A102_3 ((rd_T44 l0_0 x10_1).f3).length c102_3)).heap[gb103]? = some (.cells #[.string ((rd_T44 l0_0 x10_1).f0), .int .i64 ((rd_T44 l0_0 x10_1).f1), .slice A102_2 ((rd_T44 l0_0 x10_1).f2).length c102_2, .slice A102_3 ((rd_T44 l0_0 x10_1).f3).length c102_3] 44 (0, 0))) := ⟨by (with_reducible repeat (first | apply kN | apply kD | apply kA)); refine blk_put (cs := #[.string ((rd_T44 l0_0 x10_1).f0), .int .i64 ((rd_T44 l0_0 x10_1).f1), .slice A102_2 ((rd_T44 l0_0 x10_1).f2).length c102_2, .slice none 0 0]) ?_ 3 _ rfl; (with_reducible repeat (first | apply kN | apply kD | apply kA)); refine blk_put (cs := #[.string ((rd_T44 l0_0 x10_1).f0), .int .i64 ((rd_T44 l0_0 x10_1).f1), .slice none 0 0, .slice none 0 0]) ?_ 2 _ rfl; (with_reducible repeat (first | apply kN | apply kD | apply kA)); refine blk_put (cs := #[.string ((rd_T44 l0_0 x10_1).f0), .int .i64 0, .slice none 0 0, .slice none 0 0]) ?_ 1 _ rfl; (with_reducible repeat (first | apply kN | apply kD | apply kA)); refine blk_put (cs := #[.string (⟨#[]⟩ : ByteArray), .int .i64 0, .slice none 0 0, .slice none 0 0]) ?_ 0 _ rfl; (with_reducible repeat (first | apply kN | apply kD | apply kA)); exact BK103.out⟩
        have n2_ : Aside0 (Below w.heap.size w ((((w26.setCell ⟨gb103, 0, none⟩ (.string ((rd_T44 l0_0 x10_1).f0))).setCell ⟨gb103, 1, none⟩ (.int .i64 ((rd_T44 l0_0 x10_1).f1))).setCell ⟨gb103, 2, none⟩ (.slice A102_2 ((rd_T44 l0_0 x10_1).f2).length c102_2)).setCell ⟨gb103, 3, none⟩ (.slice A102_3 ((rd_T44 l0_0 x10_1).f3).length c102_3))) := ⟨by repeat (first | (with_reducible first | exact HB.out | apply bA | apply bN | apply bD | refine bS ?_ GE101.out | refine bS ?_ GE103.out) | exact HB.out)⟩
        (try clear BK101)
        (try clear BK103)
        (try clear HB)
        generalize ((((w26.setCell ⟨gb103, 0, none⟩ (.string ((rd_T44 l0_0 x10_1).f0))).setCell ⟨gb103, 1, none⟩ (.int .i64 ((rd_T44 l0_0 x10_1).f1))).setCell ⟨gb103, 2, none⟩ (.slice A102_2 ((rd_T44 l0_0 x10_1).f2).length c102_2)).setCell ⟨gb103, 3, none⟩ (.slice A102_3 ((rd_T44 l0_0 x10_1).f3).length c102_3)) = w29 at n0_ n1_ n2_ ⊢
        have BK101 := n0_
        have BK103 := n1_
        have HB := n2_
        clear n0_ n1_ n2_
        have n0_ := AM (kD BK101.out)
        have n1_ := AM (kD BK103.out)
        have n2_ := AM (bD HB.out)
        clear BK101
        clear BK103
        clear HB
        have BK101 := n0_
        have BK103 := n1_
        have HB := n2_
        clear n0_ n1_ n2_
        refine start_ (n := 19) (S := fun w' => w'.cell? ⟨gb103, 0, none⟩ = some (.string ((rd_T44 l0_0 x10_1).f0)) ∧ w'.cell? ⟨gb103, 1, none⟩ = some (.int .i64 ((rd_T44 l0_0 x10_1).f1)) ∧ w'.cell? ⟨gb103, 2, none⟩ = some (.slice A102_2 ((rd_T44 l0_0 x10_1).f2).length c102_2) ∧ w'.cell? ⟨gb103, 3, none⟩ = some (.slice A102_3 ((rd_T44 l0_0 x10_1).f3).length c102_3)) (ds := []) (upTo 0 19) (by kernel_rfl) rfl rfl ⟨(kC BK103.out 0).trans rfl, (kC BK103.out 1).trans rfl, (kC BK103.out 2).trans rfl, (kC BK103.out 3).trans rfl⟩ (fun hHeld => ?_); refine with_tabW impl_isBroker.tab4 impl_isBroker.bits4 (fun HT_ HW_ => ?_)
        generalize w29.drew = w30 at BK101 BK103 HB hHeld ⊢
        refine pT2 0 15 (upTo 1 19) ?_ hHeld
        refine one_ (i := 1) (N := some 16) (upTo 2 19) rfl rfl (one_of HT_.out (by kernel_rfl)) (by decide) (fun K hK => ?_)
        refine goes_ Try.func55 (by kernel_rfl) rfl #[.agg #[.string ((rd_T44 l0_0 x10_1).f0), .int .i64 ((rd_T44 l0_0 x10_1).f1), .slice A102_2 ((rd_T44 l0_0 x10_1).f2).length c102_2, .slice A102_3 ((rd_T44 l0_0 x10_1).f3).length c102_3]] (by rfl) rfl rfl (by (try simp only [mA, mB, mC]); first | done | rfl | (simp only [mD, mE]; rfl)) ?_
        with_reducible refine (impl_isTopic.calls k1 ((rd_T44 l0_0 x10_1).f0) ((rd_T44 l0_0 x10_1).f1) _ _ ((rd_T44 l0_0 x10_1).f2) _ _ ((rd_T44 l0_0 x10_1).f3) true _ ?side1 ?side2 ?side3 ?side4 A7.out).mono ?_
        (case side1 => repeat (first | exact (cB HR102_2.out HB.out) | (with_reducible first | apply cA | apply cN | apply cD)))
        (case side2 => exact HC102_2.out)
        (case side3 => repeat (first | exact (cB HR102_3.out HB.out) | (with_reducible first | apply cA | apply cN | apply cD)))
        (case side4 => exact HC102_3.out)
        rintro e w31 ⟨rfl, hb⟩
        refine ⟨_, rfl, ?_⟩
        have n0_ := AM (blk_below (g := gb101) (o := .cells #[.slice (some ad102) l0_0.length c0_0, .slice A0_1 l0_1.length c0_1] 31 (0, 0)) (by (with_reducible repeat (first | apply kN | apply kD | apply kA)); exact BK101.out) hb)
        have n1_ := AM (blk_below (g := gb103) (o := .cells #[.string ((rd_T44 l0_0 x10_1).f0), .int .i64 ((rd_T44 l0_0 x10_1).f1), .slice A102_2 ((rd_T44 l0_0 x10_1).f2).length c102_2, .slice A102_3 ((rd_T44 l0_0 x10_1).f3).length c102_3] 44 (0, 0)) (by (with_reducible repeat (first | apply kN | apply kD | apply kA)); exact BK103.out) hb)
        have n2_ := AM (below_step (by repeat (first | (with_reducible first | exact HB.out | apply bA | apply bN | apply bD | refine bS ?_ GE101.out | refine bS ?_ GE103.out) | exact HB.out)) hb)
        clear BK101
        clear BK103
        clear HB
        have BK101 := n0_
        have BK103 := n1_
        have HB := n2_
        clear n0_ n1_ n2_
        (try clear hb)
        (try clear hk)
        refine hK.out _ _ ⟨(kC BK103.out 0).trans rfl, (kC BK103.out 1).trans rfl, (kC BK103.out 2).trans rfl, (kC BK103.out 3).trans rfl⟩ (fun hHeld => ?_)
        clear hK K
        refine norm_ (a' := ?_) ?_ ?_
        rotate_left
        ·
         show Act.put _ (some 16) _ = _
         simp only [Act.put, sA, sB, sC, i64_w, i32_w]
         rfl
        refine pF 2 3 19 17 ?_
        refine pF 3 4 19 18 ?_
        refine pF 4 5 19 19 ?_
        refine pF 5 6 19 20 ?_
        refine pF 6 7 19 21 ?_
        refine pU 7 8 19 22 ?_
        refine pU 8 9 19 23 ?_
        refine pU 9 10 19 24 ?_
        refine pU 10 11 19 25 ?_
        refine pU 11 12 19 26 ?_
        refine pU 12 13 19 27 ?_
        refine pU 13 14 19 28 ?_
        refine pU 14 15 19 29 ?_
        refine pU 15 16 19 30 ?_
        refine pU 16 17 19 31 ?_
        refine pF 17 18 19 32 ?_
        refine pF 18 19 19 33 ?_
        refine done_ (done_of HT_.out (by kernel_rfl)) ?_
        try go_wp2
        go_roundg k1
        case measure => have := HK1.out; omega
        case rel => exact ⟨(wrap64 (x10_1 + 1)), (by first | rfl | (simp; done) | (simp [*]; done)), H', ⟨by have := HK1.out; omega⟩, ⟨by (with_reducible repeat (first | apply kN | apply kD | apply kA)); exact BK101.out⟩, ⟨by repeat (first | (with_reducible first | exact HB.out | apply bA | apply bN | apply bD | refine bS ?_ GE101.out | refine bS ?_ GE103.out) | exact HB.out)⟩⟩
      ·
       replace c8 := Bool.eq_false_iff.mpr c8
       subst c8
       have H1 : (some false) = some r := by rw [if_neg (show ¬ (false = true) by decide)] at H; exact H
       clear H
       have H := H1
       clear H1
       obtain rfl := Option.some.inj H
       have p102 : 0 ≤ (x10_1 : Int) := of_decide_eq_true (by assumption)
       have q102 : x10_1 < (l0_0.length : Int) := of_decide_eq_true (by assumption)
       obtain ⟨ad102, A102_2, c102_2, A102_3, c102_3, e102, hx102_0, hx102_1, hx102_2, hx102_3, hl102_2, hi102_2, hl102_3, hi102_3⟩ := at_T44 HR0_0.out x10_1 p102 q102
       cases e102
       replace hx102_0 := pw_cell_below HB.out hx102_0
       replace hx102_1 := pw_cell_below HB.out hx102_1
       replace hx102_2 := pw_cell_below HB.out hx102_2
       replace hx102_3 := pw_cell_below HB.out hx102_3
       have HR102_2 := AM hi102_2
       have HC102_2 := AM hl102_2
       clear hi102_2 hl102_2
       have HR102_3 := AM hi102_3
       have HC102_3 := AM hl102_3
       clear hi102_3 hl102_3
       replace p102 := eq_true p102
       replace q102 := eq_true q102
       try go_wp2_with (first | ((with_reducible refine gate_dst (N := 4) rfl ?_); (try (refine gate_guard (by rfl) ?_; dsimp only)); refine box_event (by rfl) (N := 4) (by rfl) (cs := #[.string (⟨#[]⟩ : ByteArray), .int .i64 0, .slice none 0 0, .slice none 0 0]) (t := 44) (by first | (go_simp; done) | (go_simp; rfl)) ?_; intro gb103 hg w32 hbox hb; have n0_ := AM (blk_below (g := gb101) (o := .cells #[.slice (some ad102) l0_0.length c0_0, .slice A0_1 l0_1.length c0_1] 31 (0, 0)) (by (with_reducible repeat (first | apply kN | apply kD | apply kA)); exact BK101.out) hb); have n1_ := AM (below_step (by repeat (first | (with_reducible first | exact HB.out | apply bA | apply bN | apply bD | refine bS ?_ GE101.out) | exact HB.out)) hb); have n2_ := AM (hbox); have n3_ := AM ((by rw [hg]; exact (bZ (by repeat (first | (with_reducible first | exact HB.out | apply bA | apply bN | apply bD | refine bS ?_ GE101.out) | exact HB.out))) : w.heap.size ≤ gb103)); have n4_ := n3_; have n5_ := AM ((by rw [hg]; exact Nat.ne_of_lt (blk_lt (g := gb101) (o := .cells #[.slice (some ad102) l0_0.length c0_0, .slice A0_1 l0_1.length c0_1] 31 (0, 0)) (by (with_reducible repeat (first | apply kN | apply kD | apply kA)); exact BK101.out)) : gb101 ≠ gb103)); have n6_ := AM ((by rw [hg]; exact Nat.ne_of_gt (blk_lt (g := gb101) (o := .cells #[.slice (some ad102) l0_0.length c0_0, .slice A0_1 l0_1.length c0_1] 31 (0, 0)) (by (with_reducible repeat (first | apply kN | apply kD | apply kA)); exact BK101.out)) : gb103 ≠ gb101)); clear BK101; clear HB; have BK101 := n0_; have HB := n1_; have BK103 := n2_; have GW103 := n3_; have GE103 := n4_; have NB101_103 := n5_; have NB103_101 := n6_; clear n0_ n1_ n2_ n3_ n4_ n5_ n6_; clear hb hbox hg; have hnb33 := NB103_101.out; have hnc33 := NB101_103.out; have hcz34_0 : w32.cell? ⟨gb103, 0, none⟩ = some (.string (⟨#[]⟩ : ByteArray)) := (kC BK103.out 0).trans rfl; have hcz34_1 : w32.cell? ⟨gb103, 1, none⟩ = some (.int .i64 0) := (kC BK103.out 1).trans rfl; have hcz34_2 : w32.cell? ⟨gb103, 2, none⟩ = some (.slice none 0 0) := (kC BK103.out 2).trans rfl; have hcz34_3 : w32.cell? ⟨gb103, 3, none⟩ = some (.slice none 0 0) := (kC BK103.out 3).trans rfl; have hfz34_0 := fZ BK103.out 0; have hfz34_1 := fZ BK103.out 1; have hfz34_2 := fZ BK103.out 2; have hfz34_3 := fZ BK103.out 3))
       have n0_ : Aside0 (((((w32.setCell ⟨gb103, 0, none⟩ (.string ((rd_T44 l0_0 x10_1).f0))).setCell ⟨gb103, 1, none⟩ (.int .i64 ((rd_T44 l0_0 x10_1).f1))).setCell ⟨gb103, 2, none⟩ (.slice A102_2 ((rd_T44 l0_0 x10_1).f2).length c102_2)).setCell ⟨gb103, 3, none⟩ (.slice A102_3 ((rd_T44 l0_0 x10_1).f3).length c102_3)).heap[gb101]? = some (.cells #[.slice (some ad102) l0_0.length c0_0, .slice A0_1 l0_1.length c0_1] 31 (0, 0))) := ⟨by (with_reducible repeat (first | apply kN | apply kD | apply kA)); refine blk_far ?_ NB101_103.out _; (with_reducible repeat (first | apply kN | apply kD | apply kA)); refine blk_far ?_ NB101_103.out _; (with_reducible repeat (first | apply kN | apply kD | apply kA)); refine blk_far ?_ NB101_103.out _; (with_reducible repeat (first | apply kN | apply kD | apply kA)); refine blk_far ?_ NB101_103.out _; (with_reducible repeat (first | apply kN | apply kD | apply kA)); exact BK101.out⟩
       have n1_ : Aside0 (((((w32.setCell ⟨gb103, 0, none⟩ (.string ((rd_T44 l0_0 x10_1).f0))).setCell ⟨gb103, 1, none⟩ (.int .i64 ((rd_T44 l0_0 x10_1).f1))).setCell ⟨gb103, 2, none⟩ (.slice A102_2 ((rd_T44 l0_0 x10_1).f2).length c102_2)).setCell ⟨gb103, 3, none⟩ (.slice A102_3 ((rd_T44 l0_0 x10_1).f3).length c102_3)).heap[gb103]? = some (.cells #[.string ((rd_T44 l0_0 x10_1).f0), .int .i64 ((rd_T44 l0_0 x10_1).f1), .slice A102_2 ((rd_T44 l0_0 x10_1).f2).length c102_2, .slice A102_3 ((rd_T44 l0_0 x10_1).f3).length c102_3] 44 (0, 0))) := ⟨by (with_reducible repeat (first | apply kN | apply kD | apply kA)); refine blk_put (cs := #[.string ((rd_T44 l0_0 x10_1).f0), .int .i64 ((rd_T44 l0_0 x10_1).f1), .slice A102_2 ((rd_T44 l0_0 x10_1).f2).length c102_2, .slice none 0 0]) ?_ 3 _ rfl; (with_reducible repeat (first | apply kN | apply kD | apply kA)); refine blk_put (cs := #[.string ((rd_T44 l0_0 x10_1).f0), .int .i64 ((rd_T44 l0_0 x10_1).f1), .slice none 0 0, .slice none 0 0]) ?_ 2 _ rfl; (with_reducible repeat (first | apply kN | apply kD | apply kA)); refine blk_put (cs := #[.string ((rd_T44 l0_0 x10_1).f0), .int .i64 0, .slice none 0 0, .slice none 0 0]) ?_ 1 _ rfl; (with_reducible repeat (first | apply kN | apply kD | apply kA)); refine blk_put (cs := #[.string (⟨#[]⟩ : ByteArray), .int .i64 0, .slice none 0 0, .slice none 0 0]) ?_ 0 _ rfl; (with_reducible repeat (first | apply kN | apply kD | apply kA)); exact BK103.out⟩
       have n2_ : Aside0 (Below w.heap.size w ((((w32.setCell ⟨gb103, 0, none⟩ (.string ((rd_T44 l0_0 x10_1).f0))).setCell ⟨gb103, 1, none⟩ (.int .i64 ((rd_T44 l0_0 x10_1).f1))).setCell ⟨gb103, 2, none⟩ (.slice A102_2 ((rd_T44 l0_0 x10_1).f2).length c102_2)).setCell ⟨gb103, 3, none⟩ (.slice A102_3 ((rd_T44 l0_0 x10_1).f3).length c102_3))) := ⟨by repeat (first | (with_reducible first | exact HB.out | apply bA | apply bN | apply bD | refine bS ?_ GE101.out | refine bS ?_ GE103.out) | exact HB.out)⟩
       (try clear BK101)
       (try clear BK103)
       (try clear HB)
       generalize ((((w32.setCell ⟨gb103, 0, none⟩ (.string ((rd_T44 l0_0 x10_1).f0))).setCell ⟨gb103, 1, none⟩ (.int .i64 ((rd_T44 l0_0 x10_1).f1))).setCell ⟨gb103, 2, none⟩ (.slice A102_2 ((rd_T44 l0_0 x10_1).f2).length c102_2)).setCell ⟨gb103, 3, none⟩ (.slice A102_3 ((rd_T44 l0_0 x10_1).f3).length c102_3)) = w35 at n0_ n1_ n2_ ⊢
       have BK101 := n0_
       have BK103 := n1_
       have HB := n2_
       clear n0_ n1_ n2_
       have n0_ := AM (kD BK101.out)
       have n1_ := AM (kD BK103.out)
       have n2_ := AM (bD HB.out)
       clear BK101
       clear BK103
       clear HB
       have BK101 := n0_
       have BK103 := n1_
       have HB := n2_
       clear n0_ n1_ n2_
       refine start_ (n := 19) (S := fun w' => w'.cell? ⟨gb103, 0, none⟩ = some (.string ((rd_T44 l0_0 x10_1).f0)) ∧ w'.cell? ⟨gb103, 1, none⟩ = some (.int .i64 ((rd_T44 l0_0 x10_1).f1)) ∧ w'.cell? ⟨gb103, 2, none⟩ = some (.slice A102_2 ((rd_T44 l0_0 x10_1).f2).length c102_2) ∧ w'.cell? ⟨gb103, 3, none⟩ = some (.slice A102_3 ((rd_T44 l0_0 x10_1).f3).length c102_3)) (ds := []) (upTo 0 19) (by kernel_rfl) rfl rfl ⟨(kC BK103.out 0).trans rfl, (kC BK103.out 1).trans rfl, (kC BK103.out 2).trans rfl, (kC BK103.out 3).trans rfl⟩ (fun hHeld => ?_); refine with_tabW impl_isBroker.tab4 impl_isBroker.bits4 (fun HT_ HW_ => ?_)
       generalize w35.drew = w36 at BK101 BK103 HB hHeld ⊢
       refine pT2 0 15 (upTo 1 19) ?_ hHeld
       refine one_ (i := 1) (N := some 16) (upTo 2 19) rfl rfl (one_of HT_.out (by kernel_rfl)) (by decide) (fun K hK => ?_)
       refine goes_ Try.func55 (by kernel_rfl) rfl #[.agg #[.string ((rd_T44 l0_0 x10_1).f0), .int .i64 ((rd_T44 l0_0 x10_1).f1), .slice A102_2 ((rd_T44 l0_0 x10_1).f2).length c102_2, .slice A102_3 ((rd_T44 l0_0 x10_1).f3).length c102_3]] (by rfl) rfl rfl (by (try simp only [mA, mB, mC]); first | done | rfl | (simp only [mD, mE]; rfl)) ?_
       with_reducible refine (impl_isTopic.calls k1 ((rd_T44 l0_0 x10_1).f0) ((rd_T44 l0_0 x10_1).f1) _ _ ((rd_T44 l0_0 x10_1).f2) _ _ ((rd_T44 l0_0 x10_1).f3) false _ ?side1 ?side2 ?side3 ?side4 A7.out).mono ?_
       (case side1 => repeat (first | exact (cB HR102_2.out HB.out) | (with_reducible first | apply cA | apply cN | apply cD)))
       (case side2 => exact HC102_2.out)
       (case side3 => repeat (first | exact (cB HR102_3.out HB.out) | (with_reducible first | apply cA | apply cN | apply cD)))
       (case side4 => exact HC102_3.out)
       rintro e w37 ⟨rfl, hb⟩
       refine ⟨_, rfl, ?_⟩
       have n0_ := AM (blk_below (g := gb101) (o := .cells #[.slice (some ad102) l0_0.length c0_0, .slice A0_1 l0_1.length c0_1] 31 (0, 0)) (by (with_reducible repeat (first | apply kN | apply kD | apply kA)); exact BK101.out) hb)
       have n1_ := AM (blk_below (g := gb103) (o := .cells #[.string ((rd_T44 l0_0 x10_1).f0), .int .i64 ((rd_T44 l0_0 x10_1).f1), .slice A102_2 ((rd_T44 l0_0 x10_1).f2).length c102_2, .slice A102_3 ((rd_T44 l0_0 x10_1).f3).length c102_3] 44 (0, 0)) (by (with_reducible repeat (first | apply kN | apply kD | apply kA)); exact BK103.out) hb)
       have n2_ := AM (below_step (by repeat (first | (with_reducible first | exact HB.out | apply bA | apply bN | apply bD | refine bS ?_ GE101.out | refine bS ?_ GE103.out) | exact HB.out)) hb)
       clear BK101
       clear BK103
       clear HB
       have BK101 := n0_
       have BK103 := n1_
       have HB := n2_
       clear n0_ n1_ n2_
       (try clear hb)
       (try clear hk)
       refine hK.out _ _ ⟨(kC BK103.out 0).trans rfl, (kC BK103.out 1).trans rfl, (kC BK103.out 2).trans rfl, (kC BK103.out 3).trans rfl⟩ (fun hHeld => ?_)
       clear hK K
       refine norm_ (a' := ?_) ?_ ?_
       rotate_left
       ·
        show Act.put _ (some 16) _ = _
        simp only [Act.put, sA, sB, sC, i64_w, i32_w]
        rfl
       refine pF 2 3 19 17 ?_
       refine pF 3 4 19 18 ?_
       refine pU 4 5 19 19 ?_
       refine pU 5 6 19 20 ?_
       refine pU 6 7 19 21 ?_
       refine pU 7 8 19 22 ?_
       refine pU 8 9 19 23 ?_
       refine pU 9 10 19 24 ?_
       refine pU 10 11 19 25 ?_
       refine pU 11 12 19 26 ?_
       refine pU 12 13 19 27 ?_
       refine pU 13 14 19 28 ?_
       refine pU 14 15 19 29 ?_
       refine pU 15 16 19 30 ?_
       refine pU 16 17 19 31 ?_
       refine pU 17 18 19 32 ?_
       refine pF 18 19 19 33 ?_
       refine done_ (done_of HT_.out (by kernel_rfl)) ?_
       try go_wp2
       go_ret
       exact ⟨by first | rfl | (simp [*, errW_none, errW_some] <;> rfl), by repeat (first | (with_reducible first | exact HB.out | apply bA | apply bN | apply bD | refine bS ?_ GE101.out | refine bS ?_ GE103.out) | exact HB.out)⟩
     ·
      rw [if_neg c6] at H
      exact absurd H (by simp)
    ·
     rw [if_neg c5] at H
     exact absurd H (by simp)
   ·
    rw [if_neg c4] at H
    have c4b0 : decide (x10_1 < (l0_0.length : Int)) = false := decide_eq_false c4
    clear c4
    have H' := AM H
    clear H
    have hcz38_0 : wr.cell? ⟨gb101, 0, none⟩ = some (.slice A0_0 l0_0.length c0_0) := (kC BK101.out 0).trans rfl
    have hcz38_1 : wr.cell? ⟨gb101, 1, none⟩ = some (.slice A0_1 l0_1.length c0_1) := (kC BK101.out 1).trans rfl
    have hfz38_0 := fZ BK101.out 0
    have hfz38_1 := fZ BK101.out 1
    go_wp2
    go_loopg [38] k1 (fun kq v38 w' => ∃ (x38_2 : Int), v38 = .int .i64 x38_2 ∧ Aside0 (impl_isBroker.l1 kq l0_1 (l0_1.length : Int) x38_2 l0_0 l0_1 = some r) ∧ Aside0 (kq ≤ k1) ∧ Aside0 (w'.heap[gb101]? = some (.cells #[(.slice A0_0 l0_0.length c0_0), (.slice A0_1 l0_1.length c0_1)] 31 (0, 0))) ∧ Aside0 (Below w.heap.size w w'))
    case atStart => exact ⟨(0), (by first | rfl | (simp; done) | (simp [*]; done)), H', ⟨Nat.le_refl _⟩, ⟨by (with_reducible repeat (first | apply kN | apply kD | apply kA)); exact BK101.out⟩, ⟨by repeat (first | (with_reducible first | exact HB.out | apply bA | apply bN | apply bD | refine bS ?_ GE101.out) | exact HB.out)⟩⟩
    case round =>
     clear H'
     (try clear c1); (try clear p1); (try clear q1); (try clear hx1); (try clear c2); (try clear p2); (try clear c3); (try clear c4); (try clear c4b0); (try clear c5); (try clear c6); (try clear p6); (try clear c8); (try clear c9); (try clear c9b0); (try clear c10); (try clear p10); (try clear q10); (try clear hx10); (try clear c11); (try clear c12); (try clear c21); (try clear c27); (try clear c33); (try clear hcz22_0); (try clear hcz22_1); (try clear hcz22_2); (try clear hcz22_3); (try clear hcz28_0); (try clear hcz28_1); (try clear hcz28_2); (try clear hcz28_3); (try clear hcz34_0); (try clear hcz34_1); (try clear hcz34_2); (try clear hcz34_3); (try clear hcz38_0); (try clear hcz38_1); (try clear hfz22_0); (try clear hfz22_1); (try clear hfz22_2); (try clear hfz22_3); (try clear hfz28_0); (try clear hfz28_1); (try clear hfz28_2); (try clear hfz28_3); (try clear hfz34_0); (try clear hfz34_1); (try clear hfz34_2); (try clear hfz34_3); (try clear hfz38_0); (try clear hfz38_1); (try clear hx102_0); (try clear hx102_1); (try clear hx102_2); (try clear hx102_3); (try clear hx105_0); (try clear hx105_1); (try clear hx105_2); (try clear hx105_3); (try clear p102); (try clear p105); (try clear q102); (try clear q105)
     obtain ⟨x38_2, rfl, HA, HK2, BK101, HB⟩ := hrel
     cases gk with
     | zero => exact absurd HA.out (by simp [impl_isBroker.l1])
     | succ k2 =>
      have H := HA.out
      clear HA
      simp only [impl_isBroker.l1] at H
      by_cases c39 : x38_2 < (l0_1.length : Int)
      ·
       rw [if_pos c39] at H
       have c39b0 : decide (x38_2 < (l0_1.length : Int)) = true := decide_eq_true c39
       clear c39
       by_cases c40 : 0 ≤ x38_2
       ·
        rw [if_pos c40] at H
        have c40b0 : decide (0 ≤ x38_2) = true := decide_eq_true c40
        clear c40
        by_cases c41 : x38_2 < (l0_1.length : Int)
        ·
         rw [if_pos c41] at H
         have c41b0 : decide (x38_2 < (l0_1.length : Int)) = true := decide_eq_true c41
         clear c41
         replace H := Option.bind_eq_some_iff.mp H
         obtain ⟨t108, A420, H⟩ := H
         replace H : (if t108 = true then (if x38_2 > 0 then (if 0 ≤ (wrap64 (x38_2 - 1)) then (if (wrap64 (x38_2 - 1)) < (l0_1.length : Int) then (if ((rd_T36 l0_1 (wrap64 (x38_2 - 1))).f0) ≥ ((rd_T36 l0_1 x38_2).f0) then (some false) else ((impl_within.f ((rd_T36 l0_1 x38_2).f1) 1 1000000000).bind fun t110 => (if t110 = true then (if (((rd_T36 l0_1 x38_2).f2).size : Int) > 900 then (some false) else (impl_isBroker.l1 k2 l0_1 (l0_1.length : Int) (wrap64 (x38_2 + 1)) l0_0 l0_1)) else (some false)))) else (none)) else (none)) else ((impl_within.f ((rd_T36 l0_1 x38_2).f1) 1 1000000000).bind fun t111 => (if t111 = true then (if (((rd_T36 l0_1 x38_2).f2).size : Int) > 900 then (some false) else (impl_isBroker.l1 k2 l0_1 (l0_1.length : Int) (wrap64 (x38_2 + 1)) l0_0 l0_1)) else (some false)))) else (some false)) = some r := H
         have A42 := AM A420
         clear A420
         by_cases c43 : t108 = true
         ·
          subst c43
          have H1 : (if x38_2 > 0 then (if 0 ≤ (wrap64 (x38_2 - 1)) then (if (wrap64 (x38_2 - 1)) < (l0_1.length : Int) then (if ((rd_T36 l0_1 (wrap64 (x38_2 - 1))).f0) ≥ ((rd_T36 l0_1 x38_2).f0) then (some false) else ((impl_within.f ((rd_T36 l0_1 x38_2).f1) 1 1000000000).bind fun t110 => (if t110 = true then (if (((rd_T36 l0_1 x38_2).f2).size : Int) > 900 then (some false) else (impl_isBroker.l1 k2 l0_1 (l0_1.length : Int) (wrap64 (x38_2 + 1)) l0_0 l0_1)) else (some false)))) else (none)) else (none)) else ((impl_within.f ((rd_T36 l0_1 x38_2).f1) 1 1000000000).bind fun t111 => (if t111 = true then (if (((rd_T36 l0_1 x38_2).f2).size : Int) > 900 then (some false) else (impl_isBroker.l1 k2 l0_1 (l0_1.length : Int) (wrap64 (x38_2 + 1)) l0_0 l0_1)) else (some false)))) = some r := by rw [if_pos rfl] at H; exact H
          clear H
          have H := H1
          clear H1
          by_cases c44 : x38_2 > 0
          ·
           rw [if_pos c44] at H
           have c44b0 : decide (0 < x38_2) = true := decide_eq_true c44
           clear c44
           obtain ⟨ji45, hji45⟩ : ∃ j_ : Int, (wrap64 (x38_2 - 1)) = j_ := ⟨_, rfl⟩
           replace H : (if 0 ≤ (ji45) then (if (ji45) < (l0_1.length : Int) then (if ((rd_T36 l0_1 (ji45)).f0) ≥ ((rd_T36 l0_1 x38_2).f0) then (some false) else ((impl_within.f ((rd_T36 l0_1 x38_2).f1) 1 1000000000).bind fun t110 => (if t110 = true then (if (((rd_T36 l0_1 x38_2).f2).size : Int) > 900 then (some false) else (impl_isBroker.l1 k2 l0_1 (l0_1.length : Int) (wrap64 (x38_2 + 1)) l0_0 l0_1)) else (some false)))) else (none)) else (none)) = some r := by first | (rw [hji45] at H; exact H) | (simp only [hji45] at H ⊢; exact H)
           (try rw [hji45] at A42)
           have hji45w : (IntKind.i64.wrap (x38_2 - 1)) = ji45 := (i64_w _).trans hji45
           by_cases c46 : 0 ≤ (ji45)
           ·
            rw [if_pos c46] at H
            have c46b0 : decide (0 ≤ (ji45)) = true := decide_eq_true c46
            clear c46
            by_cases c47 : (ji45) < (l0_1.length : Int)
            ·
             rw [if_pos c47] at H
             have c47b0 : decide ((ji45) < (l0_1.length : Int)) = true := decide_eq_true c47
             clear c47
             by_cases c48 : ((rd_T36 l0_1 (ji45)).f0) ≥ ((rd_T36 l0_1 x38_2).f0)
             ·
              rw [if_pos c48] at H
              have c48b0 : decide (((rd_T36 l0_1 x38_2).f0) ≤ ((rd_T36 l0_1 (ji45)).f0)) = true := decide_eq_true c48
              clear c48
              obtain rfl := Option.some.inj H
              have p106 : 0 ≤ (x38_2 : Int) := of_decide_eq_true (by assumption)
              have q106 : x38_2 < (l0_1.length : Int) := of_decide_eq_true (by assumption)
              obtain ⟨ad106, e106, hx106_0, hx106_1, hx106_2⟩ := at_T36 HR0_1.out x38_2 p106 q106
              cases e106
              replace hx106_0 := pw_cell_below HB.out hx106_0
              replace hx106_1 := pw_cell_below HB.out hx106_1
              replace hx106_2 := pw_cell_below HB.out hx106_2
              replace p106 := eq_true p106
              replace q106 := eq_true q106
              try go_wp2_with (first | ((with_reducible refine gate_dst (N := 6) rfl ?_); (try (refine gate_guard (by rfl) ?_; dsimp only)); refine box_event (by rfl) (N := 6) (by rfl) (cs := #[.int .i64 0, .int .i64 0, .string (⟨#[]⟩ : ByteArray)]) (t := 36) (by first | (go_simp; done) | (go_simp; rfl)) ?_; intro gb107 hg w49 hbox hb; have n0_ := AM (blk_below (g := gb101) (o := .cells #[.slice A0_0 l0_0.length c0_0, .slice (some ad106) l0_1.length c0_1] 31 (0, 0)) (by (with_reducible repeat (first | apply kN | apply kD | apply kA)); exact BK101.out) hb); have n1_ := AM (below_step (by repeat (first | (with_reducible first | exact HB.out | apply bA | apply bN | apply bD | refine bS ?_ GE101.out) | exact HB.out)) hb); have n2_ := AM (hbox); have n3_ := AM ((by rw [hg]; exact (bZ (by repeat (first | (with_reducible first | exact HB.out | apply bA | apply bN | apply bD | refine bS ?_ GE101.out) | exact HB.out))) : w.heap.size ≤ gb107)); have n4_ := n3_; have n5_ := AM ((by rw [hg]; exact Nat.ne_of_lt (blk_lt (g := gb101) (o := .cells #[.slice A0_0 l0_0.length c0_0, .slice (some ad106) l0_1.length c0_1] 31 (0, 0)) (by (with_reducible repeat (first | apply kN | apply kD | apply kA)); exact BK101.out)) : gb101 ≠ gb107)); have n6_ := AM ((by rw [hg]; exact Nat.ne_of_gt (blk_lt (g := gb101) (o := .cells #[.slice A0_0 l0_0.length c0_0, .slice (some ad106) l0_1.length c0_1] 31 (0, 0)) (by (with_reducible repeat (first | apply kN | apply kD | apply kA)); exact BK101.out)) : gb107 ≠ gb101)); clear BK101; clear HB; have BK101 := n0_; have HB := n1_; have BK107 := n2_; have GW107 := n3_; have GE107 := n4_; have NB101_107 := n5_; have NB107_101 := n6_; clear n0_ n1_ n2_ n3_ n4_ n5_ n6_; clear hb hbox hg; have hnb50 := NB107_101.out; have hnc50 := NB101_107.out; have hcz51_0 : w49.cell? ⟨gb107, 0, none⟩ = some (.int .i64 0) := (kC BK107.out 0).trans rfl; have hcz51_1 : w49.cell? ⟨gb107, 1, none⟩ = some (.int .i64 0) := (kC BK107.out 1).trans rfl; have hcz51_2 : w49.cell? ⟨gb107, 2, none⟩ = some (.string (⟨#[]⟩ : ByteArray)) := (kC BK107.out 2).trans rfl; have hfz51_0 := fZ BK107.out 0; have hfz51_1 := fZ BK107.out 1; have hfz51_2 := fZ BK107.out 2))
              have n0_ : Aside0 ((((w49.setCell ⟨gb107, 0, none⟩ (.int .i64 ((rd_T36 l0_1 x38_2).f0))).setCell ⟨gb107, 1, none⟩ (.int .i64 ((rd_T36 l0_1 x38_2).f1))).setCell ⟨gb107, 2, none⟩ (.string ((rd_T36 l0_1 x38_2).f2))).heap[gb101]? = some (.cells #[.slice A0_0 l0_0.length c0_0, .slice (some ad106) l0_1.length c0_1] 31 (0, 0))) := ⟨by (with_reducible repeat (first | apply kN | apply kD | apply kA)); refine blk_far ?_ NB101_107.out _; (with_reducible repeat (first | apply kN | apply kD | apply kA)); refine blk_far ?_ NB101_107.out _; (with_reducible repeat (first | apply kN | apply kD | apply kA)); refine blk_far ?_ NB101_107.out _; (with_reducible repeat (first | apply kN | apply kD | apply kA)); exact BK101.out⟩
              have n1_ : Aside0 ((((w49.setCell ⟨gb107, 0, none⟩ (.int .i64 ((rd_T36 l0_1 x38_2).f0))).setCell ⟨gb107, 1, none⟩ (.int .i64 ((rd_T36 l0_1 x38_2).f1))).setCell ⟨gb107, 2, none⟩ (.string ((rd_T36 l0_1 x38_2).f2))).heap[gb107]? = some (.cells #[.int .i64 ((rd_T36 l0_1 x38_2).f0), .int .i64 ((rd_T36 l0_1 x38_2).f1), .string ((rd_T36 l0_1 x38_2).f2)] 36 (0, 0))) := ⟨by (with_reducible repeat (first | apply kN | apply kD | apply kA)); refine blk_put (cs := #[.int .i64 ((rd_T36 l0_1 x38_2).f0), .int .i64 ((rd_T36 l0_1 x38_2).f1), .string (⟨#[]⟩ : ByteArray)]) ?_ 2 _ rfl; (with_reducible repeat (first | apply kN | apply kD | apply kA)); refine blk_put (cs := #[.int .i64 ((rd_T36 l0_1 x38_2).f0), .int .i64 0, .string (⟨#[]⟩ : ByteArray)]) ?_ 1 _ rfl; (with_reducible repeat (first | apply kN | apply kD | apply kA)); refine blk_put (cs := #[.int .i64 0, .int .i64 0, .string (⟨#[]⟩ : ByteArray)]) ?_ 0 _ rfl; (with_reducible repeat (first | apply kN | apply kD | apply kA)); exact BK107.out⟩
              have n2_ : Aside0 (Below w.heap.size w (((w49.setCell ⟨gb107, 0, none⟩ (.int .i64 ((rd_T36 l0_1 x38_2).f0))).setCell ⟨gb107, 1, none⟩ (.int .i64 ((rd_T36 l0_1 x38_2).f1))).setCell ⟨gb107, 2, none⟩ (.string ((rd_T36 l0_1 x38_2).f2)))) := ⟨by repeat (first | (with_reducible first | exact HB.out | apply bA | apply bN | apply bD | refine bS ?_ GE101.out | refine bS ?_ GE107.out) | exact HB.out)⟩
              (try clear BK101)
              (try clear BK107)
              (try clear HB)
              generalize (((w49.setCell ⟨gb107, 0, none⟩ (.int .i64 ((rd_T36 l0_1 x38_2).f0))).setCell ⟨gb107, 1, none⟩ (.int .i64 ((rd_T36 l0_1 x38_2).f1))).setCell ⟨gb107, 2, none⟩ (.string ((rd_T36 l0_1 x38_2).f2))) = w52 at n0_ n1_ n2_ ⊢
              have BK101 := n0_
              have BK107 := n1_
              have HB := n2_
              clear n0_ n1_ n2_
              have n0_ := AM (kD BK101.out)
              have n1_ := AM (kD BK107.out)
              have n2_ := AM (bD HB.out)
              clear BK101
              clear BK107
              clear HB
              have BK101 := n0_
              have BK107 := n1_
              have HB := n2_
              clear n0_ n1_ n2_
              have p109 : 0 ≤ ((ji45) : Int) := of_decide_eq_true (by assumption)
              have q109 : (ji45) < (l0_1.length : Int) := of_decide_eq_true (by assumption)
              obtain ⟨ad109, e109, hx109_0, hx109_1, hx109_2⟩ := at_T36 HR0_1.out (ji45) p109 q109
              have hw109_2 := hx109_2
              have hw109_1 := hx109_1
              have hw109_0 := hx109_0
              obtain rfl : ad106 = ad109 := (by injection e109)
              replace hx109_0 := pw_cell_below HB.out hx109_0
              replace hx109_1 := pw_cell_below HB.out hx109_1
              replace hx109_2 := pw_cell_below HB.out hx109_2
              replace p109 := eq_true p109
              replace q109 := eq_true q109
              refine start_ (n := 32) (S := fun w' => w'.cell? ⟨gb107, 0, none⟩ = some (.int .i64 ((rd_T36 l0_1 x38_2).f0)) ∧ w'.cell? ⟨gb107, 1, none⟩ = some (.int .i64 ((rd_T36 l0_1 x38_2).f1)) ∧ w'.cell? ⟨gb107, 2, none⟩ = some (.string ((rd_T36 l0_1 x38_2).f2)) ∧ w'.cell? ⟨gb101, 0, none⟩ = some (.slice A0_0 l0_0.length c0_0) ∧ w'.cell? ⟨gb101, 1, none⟩ = some (.slice (some ad106) l0_1.length c0_1) ∧ w'.cell? (ad106.add (((ji45)).toNat * 3)) = some (.int .i64 ((rd_T36 l0_1 (ji45)).f0)) ∧ w'.cell? ⟨(ad106.add (((ji45)).toNat * 3)).block, (ad106.add (((ji45)).toNat * 3)).off + 1, none⟩ = some (.int .i64 ((rd_T36 l0_1 (ji45)).f1)) ∧ w'.cell? ⟨(ad106.add (((ji45)).toNat * 3)).block, (ad106.add (((ji45)).toNat * 3)).off + 2, none⟩ = some (.string ((rd_T36 l0_1 (ji45)).f2))) (ds := []) (upTo 0 32) (by kernel_rfl) rfl rfl ⟨(kC BK107.out 0).trans rfl, (kC BK107.out 1).trans rfl, (kC BK107.out 2).trans rfl, (kC BK101.out 0).trans rfl, (kC BK101.out 1).trans rfl, (pw_cell_below HB.out hw109_0), (pw_cell_below HB.out hw109_1), (pw_cell_below HB.out hw109_2)⟩ (fun hHeld => ?_); refine with_tabW impl_isBroker.tab10 impl_isBroker.bits10 (fun HT_ HW_ => ?_)
              generalize w52.drew = w53 at BK101 BK107 HB hx109_0 hx109_1 hx109_2 hHeld ⊢
              refine pF 0 1 32 43 ?_
              refine pT2 1 44 (upTo 2 32) ?_ hHeld
              refine one_ (i := 2) (N := some 45) (upTo 3 32) rfl rfl (one_of HT_.out (by kernel_rfl)) (by decide) (fun K hK => ?_)
              refine goes_ Try.func56 (by kernel_rfl) rfl #[.int .i64 ((rd_T36 l0_1 x38_2).f0), .int .i64 1, .int .i64 9] (by rfl) rfl rfl (by (try simp only [mA, mB, mC]); first | done | rfl | (simp only [mD, mE]; rfl)) ?_
              with_reducible refine (impl_within.calls ((rd_T36 l0_1 x38_2).f0) 1 9 true _ A42.out).mono ?_
              rintro e w' ⟨rfl, ⟨nd, rfl⟩⟩
              refine ⟨_, rfl, ?_⟩
              refine hK.out _ _ ⟨(kC BK107.out 0).trans rfl, (kC BK107.out 1).trans rfl, (kC BK107.out 2).trans rfl, (kC BK101.out 0).trans rfl, (kC BK101.out 1).trans rfl, (pw_cell_below HB.out hw109_0), (pw_cell_below HB.out hw109_1), (pw_cell_below HB.out hw109_2)⟩ (fun hHeld => ?_)
              clear hK K
              refine norm_ (a' := ?_) ?_ ?_
              rotate_left
              ·
               show Act.put _ (some 45) _ = _
               simp only [Act.put, sA, sB, sC, i64_w, i32_w]
               rfl
              refine pF 3 4 32 46 ?_
              refine pF 4 5 32 47 ?_
              refine pF 5 6 32 48 ?_
              refine pF 6 7 32 49 ?_
              refine pF 7 8 32 50 ?_
              refine pF 8 9 32 51 ?_
              refine pF2 10 53 impl_isBroker.b6 ?_
              refine pF2 11 54 impl_isBroker.b7 ?_
              refine pF2 15 58 impl_isBroker.b8 ?_
              refine pT2 9 52 impl_isBroker.b9 ?_ hHeld
              refine pF2 12 55 impl_isBroker.b10 ?_
              refine pF2 13 56 impl_isBroker.b11 ?_
              refine pT2 14 57 (upTo 16 32) ?_ hHeld
              refine pT2 16 59 (upTo 17 32) ?_ hHeld
              refine pF 17 18 32 60 ?_
              refine pF 18 19 32 61 ?_
              refine pF 19 20 32 62 ?_
              refine pF 20 21 32 63 ?_
              refine pU 21 22 32 64 ?_
              refine pU 22 23 32 65 ?_
              refine pU 23 24 32 66 ?_
              refine pU 24 25 32 67 ?_
              refine pF 25 26 32 68 ?_
              refine pF 26 27 32 69 ?_
              refine pU 27 28 32 70 ?_
              refine pU 28 29 32 71 ?_
              refine pU 29 30 32 72 ?_
              refine pU 30 31 32 73 ?_
              refine pF 31 32 32 74 ?_
              refine done_ (done_of HT_.out (by kernel_rfl)) ?_
              try go_wp2
              go_ret
              exact ⟨by first | rfl | (simp [errW_none, errW_some] <;> rfl) | (simp only [← hji45]; first | rfl | (simp [errW_none, errW_some] <;> rfl)) | (simp [*, errW_none, errW_some] <;> rfl), by repeat (first | (with_reducible first | exact HB.out | apply bA | apply bN | apply bD | refine bS ?_ GE101.out | refine bS ?_ GE107.out) | exact HB.out)⟩
             ·
              rw [if_neg c48] at H
              have c48b0 : decide (((rd_T36 l0_1 x38_2).f0) ≤ ((rd_T36 l0_1 (ji45)).f0)) = false := decide_eq_false c48
              clear c48
              replace H := Option.bind_eq_some_iff.mp H
              obtain ⟨t110, A540, H⟩ := H
              replace H : (if t110 = true then (if (((rd_T36 l0_1 x38_2).f2).size : Int) > 900 then (some false) else (impl_isBroker.l1 k2 l0_1 (l0_1.length : Int) (wrap64 (x38_2 + 1)) l0_0 l0_1)) else (some false)) = some r := H
              have A54 := AM A540
              clear A540
              by_cases c55 : t110 = true
              ·
               subst c55
               have H1 : (if (((rd_T36 l0_1 x38_2).f2).size : Int) > 900 then (some false) else (impl_isBroker.l1 k2 l0_1 (l0_1.length : Int) (wrap64 (x38_2 + 1)) l0_0 l0_1)) = some r := by rw [if_pos rfl] at H; exact H
               clear H
               have H := H1
               clear H1
               by_cases c56 : (((rd_T36 l0_1 x38_2).f2).size : Int) > 900
               ·
                rw [if_pos c56] at H
                have c56b0 : decide (900 < (((rd_T36 l0_1 x38_2).f2).size : Int)) = true := decide_eq_true c56
                have c56b1 : decide (900 < ((rd_T36 l0_1 x38_2).f2).size) = true := decide_eq_true (by omega)
                clear c56
                obtain rfl := Option.some.inj H
                have p106 : 0 ≤ (x38_2 : Int) := of_decide_eq_true (by assumption)
                have q106 : x38_2 < (l0_1.length : Int) := of_decide_eq_true (by assumption)
                obtain ⟨ad106, e106, hx106_0, hx106_1, hx106_2⟩ := at_T36 HR0_1.out x38_2 p106 q106
                cases e106
                replace hx106_0 := pw_cell_below HB.out hx106_0
                replace hx106_1 := pw_cell_below HB.out hx106_1
                replace hx106_2 := pw_cell_below HB.out hx106_2
                replace p106 := eq_true p106
                replace q106 := eq_true q106
                try go_wp2_with (first | ((with_reducible refine gate_dst (N := 6) rfl ?_); (try (refine gate_guard (by rfl) ?_; dsimp only)); refine box_event (by rfl) (N := 6) (by rfl) (cs := #[.int .i64 0, .int .i64 0, .string (⟨#[]⟩ : ByteArray)]) (t := 36) (by first | (go_simp; done) | (go_simp; rfl)) ?_; intro gb107 hg w57 hbox hb; have n0_ := AM (blk_below (g := gb101) (o := .cells #[.slice A0_0 l0_0.length c0_0, .slice (some ad106) l0_1.length c0_1] 31 (0, 0)) (by (with_reducible repeat (first | apply kN | apply kD | apply kA)); exact BK101.out) hb); have n1_ := AM (below_step (by repeat (first | (with_reducible first | exact HB.out | apply bA | apply bN | apply bD | refine bS ?_ GE101.out) | exact HB.out)) hb); have n2_ := AM (hbox); have n3_ := AM ((by rw [hg]; exact (bZ (by repeat (first | (with_reducible first | exact HB.out | apply bA | apply bN | apply bD | refine bS ?_ GE101.out) | exact HB.out))) : w.heap.size ≤ gb107)); have n4_ := n3_; have n5_ := AM ((by rw [hg]; exact Nat.ne_of_lt (blk_lt (g := gb101) (o := .cells #[.slice A0_0 l0_0.length c0_0, .slice (some ad106) l0_1.length c0_1] 31 (0, 0)) (by (with_reducible repeat (first | apply kN | apply kD | apply kA)); exact BK101.out)) : gb101 ≠ gb107)); have n6_ := AM ((by rw [hg]; exact Nat.ne_of_gt (blk_lt (g := gb101) (o := .cells #[.slice A0_0 l0_0.length c0_0, .slice (some ad106) l0_1.length c0_1] 31 (0, 0)) (by (with_reducible repeat (first | apply kN | apply kD | apply kA)); exact BK101.out)) : gb107 ≠ gb101)); clear BK101; clear HB; have BK101 := n0_; have HB := n1_; have BK107 := n2_; have GW107 := n3_; have GE107 := n4_; have NB101_107 := n5_; have NB107_101 := n6_; clear n0_ n1_ n2_ n3_ n4_ n5_ n6_; clear hb hbox hg; have hnb58 := NB107_101.out; have hnc58 := NB101_107.out; have hcz59_0 : w57.cell? ⟨gb107, 0, none⟩ = some (.int .i64 0) := (kC BK107.out 0).trans rfl; have hcz59_1 : w57.cell? ⟨gb107, 1, none⟩ = some (.int .i64 0) := (kC BK107.out 1).trans rfl; have hcz59_2 : w57.cell? ⟨gb107, 2, none⟩ = some (.string (⟨#[]⟩ : ByteArray)) := (kC BK107.out 2).trans rfl; have hfz59_0 := fZ BK107.out 0; have hfz59_1 := fZ BK107.out 1; have hfz59_2 := fZ BK107.out 2))
                have n0_ : Aside0 ((((w57.setCell ⟨gb107, 0, none⟩ (.int .i64 ((rd_T36 l0_1 x38_2).f0))).setCell ⟨gb107, 1, none⟩ (.int .i64 ((rd_T36 l0_1 x38_2).f1))).setCell ⟨gb107, 2, none⟩ (.string ((rd_T36 l0_1 x38_2).f2))).heap[gb101]? = some (.cells #[.slice A0_0 l0_0.length c0_0, .slice (some ad106) l0_1.length c0_1] 31 (0, 0))) := ⟨by (with_reducible repeat (first | apply kN | apply kD | apply kA)); refine blk_far ?_ NB101_107.out _; (with_reducible repeat (first | apply kN | apply kD | apply kA)); refine blk_far ?_ NB101_107.out _; (with_reducible repeat (first | apply kN | apply kD | apply kA)); refine blk_far ?_ NB101_107.out _; (with_reducible repeat (first | apply kN | apply kD | apply kA)); exact BK101.out⟩
                have n1_ : Aside0 ((((w57.setCell ⟨gb107, 0, none⟩ (.int .i64 ((rd_T36 l0_1 x38_2).f0))).setCell ⟨gb107, 1, none⟩ (.int .i64 ((rd_T36 l0_1 x38_2).f1))).setCell ⟨gb107, 2, none⟩ (.string ((rd_T36 l0_1 x38_2).f2))).heap[gb107]? = some (.cells #[.int .i64 ((rd_T36 l0_1 x38_2).f0), .int .i64 ((rd_T36 l0_1 x38_2).f1), .string ((rd_T36 l0_1 x38_2).f2)] 36 (0, 0))) := ⟨by (with_reducible repeat (first | apply kN | apply kD | apply kA)); refine blk_put (cs := #[.int .i64 ((rd_T36 l0_1 x38_2).f0), .int .i64 ((rd_T36 l0_1 x38_2).f1), .string (⟨#[]⟩ : ByteArray)]) ?_ 2 _ rfl; (with_reducible repeat (first | apply kN | apply kD | apply kA)); refine blk_put (cs := #[.int .i64 ((rd_T36 l0_1 x38_2).f0), .int .i64 0, .string (⟨#[]⟩ : ByteArray)]) ?_ 1 _ rfl; (with_reducible repeat (first | apply kN | apply kD | apply kA)); refine blk_put (cs := #[.int .i64 0, .int .i64 0, .string (⟨#[]⟩ : ByteArray)]) ?_ 0 _ rfl; (with_reducible repeat (first | apply kN | apply kD | apply kA)); exact BK107.out⟩
                have n2_ : Aside0 (Below w.heap.size w (((w57.setCell ⟨gb107, 0, none⟩ (.int .i64 ((rd_T36 l0_1 x38_2).f0))).setCell ⟨gb107, 1, none⟩ (.int .i64 ((rd_T36 l0_1 x38_2).f1))).setCell ⟨gb107, 2, none⟩ (.string ((rd_T36 l0_1 x38_2).f2)))) := ⟨by repeat (first | (with_reducible first | exact HB.out | apply bA | apply bN | apply bD | refine bS ?_ GE101.out | refine bS ?_ GE107.out) | exact HB.out)⟩
                (try clear BK101)
                (try clear BK107)
                (try clear HB)
                generalize (((w57.setCell ⟨gb107, 0, none⟩ (.int .i64 ((rd_T36 l0_1 x38_2).f0))).setCell ⟨gb107, 1, none⟩ (.int .i64 ((rd_T36 l0_1 x38_2).f1))).setCell ⟨gb107, 2, none⟩ (.string ((rd_T36 l0_1 x38_2).f2))) = w60 at n0_ n1_ n2_ ⊢
                have BK101 := n0_
                have BK107 := n1_
                have HB := n2_
                clear n0_ n1_ n2_
                have n0_ := AM (kD BK101.out)
                have n1_ := AM (kD BK107.out)
                have n2_ := AM (bD HB.out)
                clear BK101
                clear BK107
                clear HB
                have BK101 := n0_
                have BK107 := n1_
                have HB := n2_
                clear n0_ n1_ n2_
                have p109 : 0 ≤ ((ji45) : Int) := of_decide_eq_true (by assumption)
                have q109 : (ji45) < (l0_1.length : Int) := of_decide_eq_true (by assumption)
                obtain ⟨ad109, e109, hx109_0, hx109_1, hx109_2⟩ := at_T36 HR0_1.out (ji45) p109 q109
                have hw109_2 := hx109_2
                have hw109_1 := hx109_1
                have hw109_0 := hx109_0
                obtain rfl : ad106 = ad109 := (by injection e109)
                replace hx109_0 := pw_cell_below HB.out hx109_0
                replace hx109_1 := pw_cell_below HB.out hx109_1
                replace hx109_2 := pw_cell_below HB.out hx109_2
                replace p109 := eq_true p109
                replace q109 := eq_true q109
                refine start_ (n := 32) (S := fun w' => w'.cell? ⟨gb107, 0, none⟩ = some (.int .i64 ((rd_T36 l0_1 x38_2).f0)) ∧ w'.cell? ⟨gb107, 1, none⟩ = some (.int .i64 ((rd_T36 l0_1 x38_2).f1)) ∧ w'.cell? ⟨gb107, 2, none⟩ = some (.string ((rd_T36 l0_1 x38_2).f2)) ∧ w'.cell? ⟨gb101, 0, none⟩ = some (.slice A0_0 l0_0.length c0_0) ∧ w'.cell? ⟨gb101, 1, none⟩ = some (.slice (some ad106) l0_1.length c0_1) ∧ w'.cell? (ad106.add (((ji45)).toNat * 3)) = some (.int .i64 ((rd_T36 l0_1 (ji45)).f0)) ∧ w'.cell? ⟨(ad106.add (((ji45)).toNat * 3)).block, (ad106.add (((ji45)).toNat * 3)).off + 1, none⟩ = some (.int .i64 ((rd_T36 l0_1 (ji45)).f1)) ∧ w'.cell? ⟨(ad106.add (((ji45)).toNat * 3)).block, (ad106.add (((ji45)).toNat * 3)).off + 2, none⟩ = some (.string ((rd_T36 l0_1 (ji45)).f2))) (ds := []) (upTo 0 32) (by kernel_rfl) rfl rfl ⟨(kC BK107.out 0).trans rfl, (kC BK107.out 1).trans rfl, (kC BK107.out 2).trans rfl, (kC BK101.out 0).trans rfl, (kC BK101.out 1).trans rfl, (pw_cell_below HB.out hw109_0), (pw_cell_below HB.out hw109_1), (pw_cell_below HB.out hw109_2)⟩ (fun hHeld => ?_); refine with_tabW impl_isBroker.tab10 impl_isBroker.bits10 (fun HT_ HW_ => ?_)
                generalize w60.drew = w61 at BK101 BK107 HB hx109_0 hx109_1 hx109_2 hHeld ⊢
                refine pF 0 1 32 43 ?_
                refine pT2 1 44 (upTo 2 32) ?_ hHeld
                refine one_ (i := 2) (N := some 45) (upTo 3 32) rfl rfl (one_of HT_.out (by kernel_rfl)) (by decide) (fun K hK => ?_)
                refine goes_ Try.func56 (by kernel_rfl) rfl #[.int .i64 ((rd_T36 l0_1 x38_2).f0), .int .i64 1, .int .i64 9] (by rfl) rfl rfl (by (try simp only [mA, mB, mC]); first | done | rfl | (simp only [mD, mE]; rfl)) ?_
                with_reducible refine (impl_within.calls ((rd_T36 l0_1 x38_2).f0) 1 9 true _ A42.out).mono ?_
                rintro e w' ⟨rfl, ⟨nd, rfl⟩⟩
                refine ⟨_, rfl, ?_⟩
                refine hK.out _ _ ⟨(kC BK107.out 0).trans rfl, (kC BK107.out 1).trans rfl, (kC BK107.out 2).trans rfl, (kC BK101.out 0).trans rfl, (kC BK101.out 1).trans rfl, (pw_cell_below HB.out hw109_0), (pw_cell_below HB.out hw109_1), (pw_cell_below HB.out hw109_2)⟩ (fun hHeld => ?_)
                clear hK K
                refine norm_ (a' := ?_) ?_ ?_
                rotate_left
                ·
                 show Act.put _ (some 45) _ = _
                 simp only [Act.put, sA, sB, sC, i64_w, i32_w]
                 rfl
                refine pF 3 4 32 46 ?_
                refine pF 4 5 32 47 ?_
                refine pF 5 6 32 48 ?_
                refine pF 6 7 32 49 ?_
                refine pF 7 8 32 50 ?_
                refine pF 8 9 32 51 ?_
                refine pF2 10 53 impl_isBroker.b6 ?_
                refine pF2 11 54 impl_isBroker.b7 ?_
                refine pF2 15 58 impl_isBroker.b8 ?_
                refine pT2 9 52 impl_isBroker.b9 ?_ hHeld
                refine pF2 12 55 impl_isBroker.b10 ?_
                refine pF2 13 56 impl_isBroker.b11 ?_
                refine pT2 14 57 (upTo 16 32) ?_ hHeld
                refine pT2 16 59 (upTo 17 32) ?_ hHeld
                refine pF 17 18 32 60 ?_
                refine pF 18 19 32 61 ?_
                refine pF 19 20 32 62 ?_
                refine pF 20 21 32 63 ?_
                refine pF 21 22 32 64 ?_
                refine pT2 22 65 (upTo 23 32) ?_ hHeld
                refine one_ (i := 23) (N := some 66) (upTo 24 32) rfl rfl (one_of HT_.out (by kernel_rfl)) (by decide) (fun K hK => ?_)
                refine goes_ Try.func56 (by kernel_rfl) rfl #[.int .i64 ((rd_T36 l0_1 x38_2).f1), .int .i64 1, .int .i64 1000000000] (by rfl) rfl rfl (by (try simp only [mA, mB, mC]); first | done | rfl | (simp only [mD, mE]; rfl)) ?_
                with_reducible refine (impl_within.calls ((rd_T36 l0_1 x38_2).f1) 1 1000000000 true _ A54.out).mono ?_
                rintro e w' ⟨rfl, ⟨nd, rfl⟩⟩
                refine ⟨_, rfl, ?_⟩
                refine hK.out _ _ ⟨(kC BK107.out 0).trans rfl, (kC BK107.out 1).trans rfl, (kC BK107.out 2).trans rfl, (kC BK101.out 0).trans rfl, (kC BK101.out 1).trans rfl, (pw_cell_below HB.out hw109_0), (pw_cell_below HB.out hw109_1), (pw_cell_below HB.out hw109_2)⟩ (fun hHeld => ?_)
                clear hK K
                refine norm_ (a' := ?_) ?_ ?_
                rotate_left
                ·
                 show Act.put _ (some 66) _ = _
                 simp only [Act.put, sA, sB, sC, i64_w, i32_w]
                 rfl
                refine pF 24 25 32 67 ?_
                refine pF 25 26 32 68 ?_
                refine pF 26 27 32 69 ?_
                refine pF 27 28 32 70 ?_
                refine pT2 28 71 (upTo 29 32) ?_ hHeld
                refine pF 29 30 32 72 ?_
                refine pF 30 31 32 73 ?_
                refine pF 31 32 32 74 ?_
                refine done_ (done_of HT_.out (by kernel_rfl)) ?_
                try go_wp2
                go_ret
                exact ⟨by first | rfl | (simp [errW_none, errW_some] <;> rfl) | (simp only [← hji45]; first | rfl | (simp [errW_none, errW_some] <;> rfl)) | (simp [*, errW_none, errW_some] <;> rfl), by repeat (first | (with_reducible first | exact HB.out | apply bA | apply bN | apply bD | refine bS ?_ GE101.out | refine bS ?_ GE107.out) | exact HB.out)⟩
               ·
                rw [if_neg c56] at H
                have c56b0 : decide (900 < (((rd_T36 l0_1 x38_2).f2).size : Int)) = false := decide_eq_false c56
                have c56b1 : decide (900 < ((rd_T36 l0_1 x38_2).f2).size) = false := decide_eq_false (by omega)
                clear c56
                have H' := AM H
                clear H
                have p106 : 0 ≤ (x38_2 : Int) := of_decide_eq_true (by assumption)
                have q106 : x38_2 < (l0_1.length : Int) := of_decide_eq_true (by assumption)
                obtain ⟨ad106, e106, hx106_0, hx106_1, hx106_2⟩ := at_T36 HR0_1.out x38_2 p106 q106
                cases e106
                replace hx106_0 := pw_cell_below HB.out hx106_0
                replace hx106_1 := pw_cell_below HB.out hx106_1
                replace hx106_2 := pw_cell_below HB.out hx106_2
                replace p106 := eq_true p106
                replace q106 := eq_true q106
                try go_wp2_with (first | ((with_reducible refine gate_dst (N := 6) rfl ?_); (try (refine gate_guard (by rfl) ?_; dsimp only)); refine box_event (by rfl) (N := 6) (by rfl) (cs := #[.int .i64 0, .int .i64 0, .string (⟨#[]⟩ : ByteArray)]) (t := 36) (by first | (go_simp; done) | (go_simp; rfl)) ?_; intro gb107 hg w62 hbox hb; have n0_ := AM (blk_below (g := gb101) (o := .cells #[.slice A0_0 l0_0.length c0_0, .slice (some ad106) l0_1.length c0_1] 31 (0, 0)) (by (with_reducible repeat (first | apply kN | apply kD | apply kA)); exact BK101.out) hb); have n1_ := AM (below_step (by repeat (first | (with_reducible first | exact HB.out | apply bA | apply bN | apply bD | refine bS ?_ GE101.out) | exact HB.out)) hb); have n2_ := AM (hbox); have n3_ := AM ((by rw [hg]; exact (bZ (by repeat (first | (with_reducible first | exact HB.out | apply bA | apply bN | apply bD | refine bS ?_ GE101.out) | exact HB.out))) : w.heap.size ≤ gb107)); have n4_ := n3_; have n5_ := AM ((by rw [hg]; exact Nat.ne_of_lt (blk_lt (g := gb101) (o := .cells #[.slice A0_0 l0_0.length c0_0, .slice (some ad106) l0_1.length c0_1] 31 (0, 0)) (by (with_reducible repeat (first | apply kN | apply kD | apply kA)); exact BK101.out)) : gb101 ≠ gb107)); have n6_ := AM ((by rw [hg]; exact Nat.ne_of_gt (blk_lt (g := gb101) (o := .cells #[.slice A0_0 l0_0.length c0_0, .slice (some ad106) l0_1.length c0_1] 31 (0, 0)) (by (with_reducible repeat (first | apply kN | apply kD | apply kA)); exact BK101.out)) : gb107 ≠ gb101)); clear BK101; clear HB; have BK101 := n0_; have HB := n1_; have BK107 := n2_; have GW107 := n3_; have GE107 := n4_; have NB101_107 := n5_; have NB107_101 := n6_; clear n0_ n1_ n2_ n3_ n4_ n5_ n6_; clear hb hbox hg; have hnb63 := NB107_101.out; have hnc63 := NB101_107.out; have hcz64_0 : w62.cell? ⟨gb107, 0, none⟩ = some (.int .i64 0) := (kC BK107.out 0).trans rfl; have hcz64_1 : w62.cell? ⟨gb107, 1, none⟩ = some (.int .i64 0) := (kC BK107.out 1).trans rfl; have hcz64_2 : w62.cell? ⟨gb107, 2, none⟩ = some (.string (⟨#[]⟩ : ByteArray)) := (kC BK107.out 2).trans rfl; have hfz64_0 := fZ BK107.out 0; have hfz64_1 := fZ BK107.out 1; have hfz64_2 := fZ BK107.out 2))
                have n0_ : Aside0 ((((w62.setCell ⟨gb107, 0, none⟩ (.int .i64 ((rd_T36 l0_1 x38_2).f0))).setCell ⟨gb107, 1, none⟩ (.int .i64 ((rd_T36 l0_1 x38_2).f1))).setCell ⟨gb107, 2, none⟩ (.string ((rd_T36 l0_1 x38_2).f2))).heap[gb101]? = some (.cells #[.slice A0_0 l0_0.length c0_0, .slice (some ad106) l0_1.length c0_1] 31 (0, 0))) := ⟨by (with_reducible repeat (first | apply kN | apply kD | apply kA)); refine blk_far ?_ NB101_107.out _; (with_reducible repeat (first | apply kN | apply kD | apply kA)); refine blk_far ?_ NB101_107.out _; (with_reducible repeat (first | apply kN | apply kD | apply kA)); refine blk_far ?_ NB101_107.out _; (with_reducible repeat (first | apply kN | apply kD | apply kA)); exact BK101.out⟩
                have n1_ : Aside0 ((((w62.setCell ⟨gb107, 0, none⟩ (.int .i64 ((rd_T36 l0_1 x38_2).f0))).setCell ⟨gb107, 1, none⟩ (.int .i64 ((rd_T36 l0_1 x38_2).f1))).setCell ⟨gb107, 2, none⟩ (.string ((rd_T36 l0_1 x38_2).f2))).heap[gb107]? = some (.cells #[.int .i64 ((rd_T36 l0_1 x38_2).f0), .int .i64 ((rd_T36 l0_1 x38_2).f1), .string ((rd_T36 l0_1 x38_2).f2)] 36 (0, 0))) := ⟨by (with_reducible repeat (first | apply kN | apply kD | apply kA)); refine blk_put (cs := #[.int .i64 ((rd_T36 l0_1 x38_2).f0), .int .i64 ((rd_T36 l0_1 x38_2).f1), .string (⟨#[]⟩ : ByteArray)]) ?_ 2 _ rfl; (with_reducible repeat (first | apply kN | apply kD | apply kA)); refine blk_put (cs := #[.int .i64 ((rd_T36 l0_1 x38_2).f0), .int .i64 0, .string (⟨#[]⟩ : ByteArray)]) ?_ 1 _ rfl; (with_reducible repeat (first | apply kN | apply kD | apply kA)); refine blk_put (cs := #[.int .i64 0, .int .i64 0, .string (⟨#[]⟩ : ByteArray)]) ?_ 0 _ rfl; (with_reducible repeat (first | apply kN | apply kD | apply kA)); exact BK107.out⟩
                have n2_ : Aside0 (Below w.heap.size w (((w62.setCell ⟨gb107, 0, none⟩ (.int .i64 ((rd_T36 l0_1 x38_2).f0))).setCell ⟨gb107, 1, none⟩ (.int .i64 ((rd_T36 l0_1 x38_2).f1))).setCell ⟨gb107, 2, none⟩ (.string ((rd_T36 l0_1 x38_2).f2)))) := ⟨by repeat (first | (with_reducible first | exact HB.out | apply bA | apply bN | apply bD | refine bS ?_ GE101.out | refine bS ?_ GE107.out) | exact HB.out)⟩
                (try clear BK101)
                (try clear BK107)
                (try clear HB)
                generalize (((w62.setCell ⟨gb107, 0, none⟩ (.int .i64 ((rd_T36 l0_1 x38_2).f0))).setCell ⟨gb107, 1, none⟩ (.int .i64 ((rd_T36 l0_1 x38_2).f1))).setCell ⟨gb107, 2, none⟩ (.string ((rd_T36 l0_1 x38_2).f2))) = w65 at n0_ n1_ n2_ ⊢
                have BK101 := n0_
                have BK107 := n1_
                have HB := n2_
                clear n0_ n1_ n2_
                have n0_ := AM (kD BK101.out)
                have n1_ := AM (kD BK107.out)
                have n2_ := AM (bD HB.out)
                clear BK101
                clear BK107
                clear HB
                have BK101 := n0_
                have BK107 := n1_
                have HB := n2_
                clear n0_ n1_ n2_
                have p109 : 0 ≤ ((ji45) : Int) := of_decide_eq_true (by assumption)
                have q109 : (ji45) < (l0_1.length : Int) := of_decide_eq_true (by assumption)
                obtain ⟨ad109, e109, hx109_0, hx109_1, hx109_2⟩ := at_T36 HR0_1.out (ji45) p109 q109
                have hw109_2 := hx109_2
                have hw109_1 := hx109_1
                have hw109_0 := hx109_0
                obtain rfl : ad106 = ad109 := (by injection e109)
                replace hx109_0 := pw_cell_below HB.out hx109_0
                replace hx109_1 := pw_cell_below HB.out hx109_1
                replace hx109_2 := pw_cell_below HB.out hx109_2
                replace p109 := eq_true p109
                replace q109 := eq_true q109
                refine start_ (n := 32) (S := fun w' => w'.cell? ⟨gb107, 0, none⟩ = some (.int .i64 ((rd_T36 l0_1 x38_2).f0)) ∧ w'.cell? ⟨gb107, 1, none⟩ = some (.int .i64 ((rd_T36 l0_1 x38_2).f1)) ∧ w'.cell? ⟨gb107, 2, none⟩ = some (.string ((rd_T36 l0_1 x38_2).f2)) ∧ w'.cell? ⟨gb101, 0, none⟩ = some (.slice A0_0 l0_0.length c0_0) ∧ w'.cell? ⟨gb101, 1, none⟩ = some (.slice (some ad106) l0_1.length c0_1) ∧ w'.cell? (ad106.add (((ji45)).toNat * 3)) = some (.int .i64 ((rd_T36 l0_1 (ji45)).f0)) ∧ w'.cell? ⟨(ad106.add (((ji45)).toNat * 3)).block, (ad106.add (((ji45)).toNat * 3)).off + 1, none⟩ = some (.int .i64 ((rd_T36 l0_1 (ji45)).f1)) ∧ w'.cell? ⟨(ad106.add (((ji45)).toNat * 3)).block, (ad106.add (((ji45)).toNat * 3)).off + 2, none⟩ = some (.string ((rd_T36 l0_1 (ji45)).f2))) (ds := []) (upTo 0 32) (by kernel_rfl) rfl rfl ⟨(kC BK107.out 0).trans rfl, (kC BK107.out 1).trans rfl, (kC BK107.out 2).trans rfl, (kC BK101.out 0).trans rfl, (kC BK101.out 1).trans rfl, (pw_cell_below HB.out hw109_0), (pw_cell_below HB.out hw109_1), (pw_cell_below HB.out hw109_2)⟩ (fun hHeld => ?_); refine with_tabW impl_isBroker.tab10 impl_isBroker.bits10 (fun HT_ HW_ => ?_)
                generalize w65.drew = w66 at BK101 BK107 HB hx109_0 hx109_1 hx109_2 hHeld ⊢
                refine pF 0 1 32 43 ?_
                refine pT2 1 44 (upTo 2 32) ?_ hHeld
                refine one_ (i := 2) (N := some 45) (upTo 3 32) rfl rfl (one_of HT_.out (by kernel_rfl)) (by decide) (fun K hK => ?_)
                refine goes_ Try.func56 (by kernel_rfl) rfl #[.int .i64 ((rd_T36 l0_1 x38_2).f0), .int .i64 1, .int .i64 9] (by rfl) rfl rfl (by (try simp only [mA, mB, mC]); first | done | rfl | (simp only [mD, mE]; rfl)) ?_
                with_reducible refine (impl_within.calls ((rd_T36 l0_1 x38_2).f0) 1 9 true _ A42.out).mono ?_
                rintro e w' ⟨rfl, ⟨nd, rfl⟩⟩
                refine ⟨_, rfl, ?_⟩
                refine hK.out _ _ ⟨(kC BK107.out 0).trans rfl, (kC BK107.out 1).trans rfl, (kC BK107.out 2).trans rfl, (kC BK101.out 0).trans rfl, (kC BK101.out 1).trans rfl, (pw_cell_below HB.out hw109_0), (pw_cell_below HB.out hw109_1), (pw_cell_below HB.out hw109_2)⟩ (fun hHeld => ?_)
                clear hK K
                refine norm_ (a' := ?_) ?_ ?_
                rotate_left
                ·
                 show Act.put _ (some 45) _ = _
                 simp only [Act.put, sA, sB, sC, i64_w, i32_w]
                 rfl
                refine pF 3 4 32 46 ?_
                refine pF 4 5 32 47 ?_
                refine pF 5 6 32 48 ?_
                refine pF 6 7 32 49 ?_
                refine pF 7 8 32 50 ?_
                refine pF 8 9 32 51 ?_
                refine pF2 10 53 impl_isBroker.b6 ?_
                refine pF2 11 54 impl_isBroker.b7 ?_
                refine pF2 15 58 impl_isBroker.b8 ?_
                refine pT2 9 52 impl_isBroker.b9 ?_ hHeld
                refine pF2 12 55 impl_isBroker.b10 ?_
                refine pF2 13 56 impl_isBroker.b11 ?_
                refine pT2 14 57 (upTo 16 32) ?_ hHeld
                refine pT2 16 59 (upTo 17 32) ?_ hHeld
                refine pF 17 18 32 60 ?_
                refine pF 18 19 32 61 ?_
                refine pF 19 20 32 62 ?_
                refine pF 20 21 32 63 ?_
                refine pF 21 22 32 64 ?_
                refine pT2 22 65 (upTo 23 32) ?_ hHeld
                refine one_ (i := 23) (N := some 66) (upTo 24 32) rfl rfl (one_of HT_.out (by kernel_rfl)) (by decide) (fun K hK => ?_)
                refine goes_ Try.func56 (by kernel_rfl) rfl #[.int .i64 ((rd_T36 l0_1 x38_2).f1), .int .i64 1, .int .i64 1000000000] (by rfl) rfl rfl (by (try simp only [mA, mB, mC]); first | done | rfl | (simp only [mD, mE]; rfl)) ?_
                with_reducible refine (impl_within.calls ((rd_T36 l0_1 x38_2).f1) 1 1000000000 true _ A54.out).mono ?_
                rintro e w' ⟨rfl, ⟨nd, rfl⟩⟩
                refine ⟨_, rfl, ?_⟩
                refine hK.out _ _ ⟨(kC BK107.out 0).trans rfl, (kC BK107.out 1).trans rfl, (kC BK107.out 2).trans rfl, (kC BK101.out 0).trans rfl, (kC BK101.out 1).trans rfl, (pw_cell_below HB.out hw109_0), (pw_cell_below HB.out hw109_1), (pw_cell_below HB.out hw109_2)⟩ (fun hHeld => ?_)
                clear hK K
                refine norm_ (a' := ?_) ?_ ?_
                rotate_left
                ·
                 show Act.put _ (some 66) _ = _
                 simp only [Act.put, sA, sB, sC, i64_w, i32_w]
                 rfl
                refine pF 24 25 32 67 ?_
                refine pF 25 26 32 68 ?_
                refine pF 26 27 32 69 ?_
                refine pF 27 28 32 70 ?_
                refine pT2 28 71 (upTo 29 32) ?_ hHeld
                refine pF 29 30 32 72 ?_
                refine pF 30 31 32 73 ?_
                refine pF 31 32 32 74 ?_
                refine done_ (done_of HT_.out (by kernel_rfl)) ?_
                try go_wp2
                go_roundg k2
                case measure => have := HK1.out; have := HK2.out; omega
                case rel => exact ⟨(wrap64 (x38_2 + 1)), (by first | rfl | (simp; done) | (simp [*]; done)), H', ⟨by have := HK1.out; have := HK2.out; omega⟩, ⟨by (with_reducible repeat (first | apply kN | apply kD | apply kA)); exact BK101.out⟩, ⟨by repeat (first | (with_reducible first | exact HB.out | apply bA | apply bN | apply bD | refine bS ?_ GE101.out | refine bS ?_ GE107.out) | exact HB.out)⟩⟩
              ·
               replace c55 := Bool.eq_false_iff.mpr c55
               subst c55
               have H1 : (some false) = some r := by rw [if_neg (show ¬ (false = true) by decide)] at H; exact H
               clear H
               have H := H1
               clear H1
               obtain rfl := Option.some.inj H
               have p106 : 0 ≤ (x38_2 : Int) := of_decide_eq_true (by assumption)
               have q106 : x38_2 < (l0_1.length : Int) := of_decide_eq_true (by assumption)
               obtain ⟨ad106, e106, hx106_0, hx106_1, hx106_2⟩ := at_T36 HR0_1.out x38_2 p106 q106
               cases e106
               replace hx106_0 := pw_cell_below HB.out hx106_0
               replace hx106_1 := pw_cell_below HB.out hx106_1
               replace hx106_2 := pw_cell_below HB.out hx106_2
               replace p106 := eq_true p106
               replace q106 := eq_true q106
               try go_wp2_with (first | ((with_reducible refine gate_dst (N := 6) rfl ?_); (try (refine gate_guard (by rfl) ?_; dsimp only)); refine box_event (by rfl) (N := 6) (by rfl) (cs := #[.int .i64 0, .int .i64 0, .string (⟨#[]⟩ : ByteArray)]) (t := 36) (by first | (go_simp; done) | (go_simp; rfl)) ?_; intro gb107 hg w67 hbox hb; have n0_ := AM (blk_below (g := gb101) (o := .cells #[.slice A0_0 l0_0.length c0_0, .slice (some ad106) l0_1.length c0_1] 31 (0, 0)) (by (with_reducible repeat (first | apply kN | apply kD | apply kA)); exact BK101.out) hb); have n1_ := AM (below_step (by repeat (first | (with_reducible first | exact HB.out | apply bA | apply bN | apply bD | refine bS ?_ GE101.out) | exact HB.out)) hb); have n2_ := AM (hbox); have n3_ := AM ((by rw [hg]; exact (bZ (by repeat (first | (with_reducible first | exact HB.out | apply bA | apply bN | apply bD | refine bS ?_ GE101.out) | exact HB.out))) : w.heap.size ≤ gb107)); have n4_ := n3_; have n5_ := AM ((by rw [hg]; exact Nat.ne_of_lt (blk_lt (g := gb101) (o := .cells #[.slice A0_0 l0_0.length c0_0, .slice (some ad106) l0_1.length c0_1] 31 (0, 0)) (by (with_reducible repeat (first | apply kN | apply kD | apply kA)); exact BK101.out)) : gb101 ≠ gb107)); have n6_ := AM ((by rw [hg]; exact Nat.ne_of_gt (blk_lt (g := gb101) (o := .cells #[.slice A0_0 l0_0.length c0_0, .slice (some ad106) l0_1.length c0_1] 31 (0, 0)) (by (with_reducible repeat (first | apply kN | apply kD | apply kA)); exact BK101.out)) : gb107 ≠ gb101)); clear BK101; clear HB; have BK101 := n0_; have HB := n1_; have BK107 := n2_; have GW107 := n3_; have GE107 := n4_; have NB101_107 := n5_; have NB107_101 := n6_; clear n0_ n1_ n2_ n3_ n4_ n5_ n6_; clear hb hbox hg; have hnb68 := NB107_101.out; have hnc68 := NB101_107.out; have hcz69_0 : w67.cell? ⟨gb107, 0, none⟩ = some (.int .i64 0) := (kC BK107.out 0).trans rfl; have hcz69_1 : w67.cell? ⟨gb107, 1, none⟩ = some (.int .i64 0) := (kC BK107.out 1).trans rfl; have hcz69_2 : w67.cell? ⟨gb107, 2, none⟩ = some (.string (⟨#[]⟩ : ByteArray)) := (kC BK107.out 2).trans rfl; have hfz69_0 := fZ BK107.out 0; have hfz69_1 := fZ BK107.out 1; have hfz69_2 := fZ BK107.out 2))
               have n0_ : Aside0 ((((w67.setCell ⟨gb107, 0, none⟩ (.int .i64 ((rd_T36 l0_1 x38_2).f0))).setCell ⟨gb107, 1, none⟩ (.int .i64 ((rd_T36 l0_1 x38_2).f1))).setCell ⟨gb107, 2, none⟩ (.string ((rd_T36 l0_1 x38_2).f2))).heap[gb101]? = some (.cells #[.slice A0_0 l0_0.length c0_0, .slice (some ad106) l0_1.length c0_1] 31 (0, 0))) := ⟨by (with_reducible repeat (first | apply kN | apply kD | apply kA)); refine blk_far ?_ NB101_107.out _; (with_reducible repeat (first | apply kN | apply kD | apply kA)); refine blk_far ?_ NB101_107.out _; (with_reducible repeat (first | apply kN | apply kD | apply kA)); refine blk_far ?_ NB101_107.out _; (with_reducible repeat (first | apply kN | apply kD | apply kA)); exact BK101.out⟩
               have n1_ : Aside0 ((((w67.setCell ⟨gb107, 0, none⟩ (.int .i64 ((rd_T36 l0_1 x38_2).f0))).setCell ⟨gb107, 1, none⟩ (.int .i64 ((rd_T36 l0_1 x38_2).f1))).setCell ⟨gb107, 2, none⟩ (.string ((rd_T36 l0_1 x38_2).f2))).heap[gb107]? = some (.cells #[.int .i64 ((rd_T36 l0_1 x38_2).f0), .int .i64 ((rd_T36 l0_1 x38_2).f1), .string ((rd_T36 l0_1 x38_2).f2)] 36 (0, 0))) := ⟨by (with_reducible repeat (first | apply kN | apply kD | apply kA)); refine blk_put (cs := #[.int .i64 ((rd_T36 l0_1 x38_2).f0), .int .i64 ((rd_T36 l0_1 x38_2).f1), .string (⟨#[]⟩ : ByteArray)]) ?_ 2 _ rfl; (with_reducible repeat (first | apply kN | apply kD | apply kA)); refine blk_put (cs := #[.int .i64 ((rd_T36 l0_1 x38_2).f0), .int .i64 0, .string (⟨#[]⟩ : ByteArray)]) ?_ 1 _ rfl; (with_reducible repeat (first | apply kN | apply kD | apply kA)); refine blk_put (cs := #[.int .i64 0, .int .i64 0, .string (⟨#[]⟩ : ByteArray)]) ?_ 0 _ rfl; (with_reducible repeat (first | apply kN | apply kD | apply kA)); exact BK107.out⟩
               have n2_ : Aside0 (Below w.heap.size w (((w67.setCell ⟨gb107, 0, none⟩ (.int .i64 ((rd_T36 l0_1 x38_2).f0))).setCell ⟨gb107, 1, none⟩ (.int .i64 ((rd_T36 l0_1 x38_2).f1))).setCell ⟨gb107, 2, none⟩ (.string ((rd_T36 l0_1 x38_2).f2)))) := ⟨by repeat (first | (with_reducible first | exact HB.out | apply bA | apply bN | apply bD | refine bS ?_ GE101.out | refine bS ?_ GE107.out) | exact HB.out)⟩
               (try clear BK101)
               (try clear BK107)
               (try clear HB)
               generalize (((w67.setCell ⟨gb107, 0, none⟩ (.int .i64 ((rd_T36 l0_1 x38_2).f0))).setCell ⟨gb107, 1, none⟩ (.int .i64 ((rd_T36 l0_1 x38_2).f1))).setCell ⟨gb107, 2, none⟩ (.string ((rd_T36 l0_1 x38_2).f2))) = w70 at n0_ n1_ n2_ ⊢
               have BK101 := n0_
               have BK107 := n1_
               have HB := n2_
               clear n0_ n1_ n2_
               have n0_ := AM (kD BK101.out)
               have n1_ := AM (kD BK107.out)
               have n2_ := AM (bD HB.out)
               clear BK101
               clear BK107
               clear HB
               have BK101 := n0_
               have BK107 := n1_
               have HB := n2_
               clear n0_ n1_ n2_
               have p109 : 0 ≤ ((ji45) : Int) := of_decide_eq_true (by assumption)
               have q109 : (ji45) < (l0_1.length : Int) := of_decide_eq_true (by assumption)
               obtain ⟨ad109, e109, hx109_0, hx109_1, hx109_2⟩ := at_T36 HR0_1.out (ji45) p109 q109
               have hw109_2 := hx109_2
               have hw109_1 := hx109_1
               have hw109_0 := hx109_0
               obtain rfl : ad106 = ad109 := (by injection e109)
               replace hx109_0 := pw_cell_below HB.out hx109_0
               replace hx109_1 := pw_cell_below HB.out hx109_1
               replace hx109_2 := pw_cell_below HB.out hx109_2
               replace p109 := eq_true p109
               replace q109 := eq_true q109
               refine start_ (n := 32) (S := fun w' => w'.cell? ⟨gb107, 0, none⟩ = some (.int .i64 ((rd_T36 l0_1 x38_2).f0)) ∧ w'.cell? ⟨gb107, 1, none⟩ = some (.int .i64 ((rd_T36 l0_1 x38_2).f1)) ∧ w'.cell? ⟨gb107, 2, none⟩ = some (.string ((rd_T36 l0_1 x38_2).f2)) ∧ w'.cell? ⟨gb101, 0, none⟩ = some (.slice A0_0 l0_0.length c0_0) ∧ w'.cell? ⟨gb101, 1, none⟩ = some (.slice (some ad106) l0_1.length c0_1) ∧ w'.cell? (ad106.add (((ji45)).toNat * 3)) = some (.int .i64 ((rd_T36 l0_1 (ji45)).f0)) ∧ w'.cell? ⟨(ad106.add (((ji45)).toNat * 3)).block, (ad106.add (((ji45)).toNat * 3)).off + 1, none⟩ = some (.int .i64 ((rd_T36 l0_1 (ji45)).f1)) ∧ w'.cell? ⟨(ad106.add (((ji45)).toNat * 3)).block, (ad106.add (((ji45)).toNat * 3)).off + 2, none⟩ = some (.string ((rd_T36 l0_1 (ji45)).f2))) (ds := []) (upTo 0 32) (by kernel_rfl) rfl rfl ⟨(kC BK107.out 0).trans rfl, (kC BK107.out 1).trans rfl, (kC BK107.out 2).trans rfl, (kC BK101.out 0).trans rfl, (kC BK101.out 1).trans rfl, (pw_cell_below HB.out hw109_0), (pw_cell_below HB.out hw109_1), (pw_cell_below HB.out hw109_2)⟩ (fun hHeld => ?_); refine with_tabW impl_isBroker.tab10 impl_isBroker.bits10 (fun HT_ HW_ => ?_)
               generalize w70.drew = w71 at BK101 BK107 HB hx109_0 hx109_1 hx109_2 hHeld ⊢
               refine pF 0 1 32 43 ?_
               refine pT2 1 44 (upTo 2 32) ?_ hHeld
               refine one_ (i := 2) (N := some 45) (upTo 3 32) rfl rfl (one_of HT_.out (by kernel_rfl)) (by decide) (fun K hK => ?_)
               refine goes_ Try.func56 (by kernel_rfl) rfl #[.int .i64 ((rd_T36 l0_1 x38_2).f0), .int .i64 1, .int .i64 9] (by rfl) rfl rfl (by (try simp only [mA, mB, mC]); first | done | rfl | (simp only [mD, mE]; rfl)) ?_
               with_reducible refine (impl_within.calls ((rd_T36 l0_1 x38_2).f0) 1 9 true _ A42.out).mono ?_
               rintro e w' ⟨rfl, ⟨nd, rfl⟩⟩
               refine ⟨_, rfl, ?_⟩
               refine hK.out _ _ ⟨(kC BK107.out 0).trans rfl, (kC BK107.out 1).trans rfl, (kC BK107.out 2).trans rfl, (kC BK101.out 0).trans rfl, (kC BK101.out 1).trans rfl, (pw_cell_below HB.out hw109_0), (pw_cell_below HB.out hw109_1), (pw_cell_below HB.out hw109_2)⟩ (fun hHeld => ?_)
               clear hK K
               refine norm_ (a' := ?_) ?_ ?_
               rotate_left
               ·
                show Act.put _ (some 45) _ = _
                simp only [Act.put, sA, sB, sC, i64_w, i32_w]
                rfl
               refine pF 3 4 32 46 ?_
               refine pF 4 5 32 47 ?_
               refine pF 5 6 32 48 ?_
               refine pF 6 7 32 49 ?_
               refine pF 7 8 32 50 ?_
               refine pF 8 9 32 51 ?_
               refine pF2 10 53 impl_isBroker.b6 ?_
               refine pF2 11 54 impl_isBroker.b7 ?_
               refine pF2 15 58 impl_isBroker.b8 ?_
               refine pT2 9 52 impl_isBroker.b9 ?_ hHeld
               refine pF2 12 55 impl_isBroker.b10 ?_
               refine pF2 13 56 impl_isBroker.b11 ?_
               refine pT2 14 57 (upTo 16 32) ?_ hHeld
               refine pT2 16 59 (upTo 17 32) ?_ hHeld
               refine pF 17 18 32 60 ?_
               refine pF 18 19 32 61 ?_
               refine pF 19 20 32 62 ?_
               refine pF 20 21 32 63 ?_
               refine pF 21 22 32 64 ?_
               refine pT2 22 65 (upTo 23 32) ?_ hHeld
               refine one_ (i := 23) (N := some 66) (upTo 24 32) rfl rfl (one_of HT_.out (by kernel_rfl)) (by decide) (fun K hK => ?_)
               refine goes_ Try.func56 (by kernel_rfl) rfl #[.int .i64 ((rd_T36 l0_1 x38_2).f1), .int .i64 1, .int .i64 1000000000] (by rfl) rfl rfl (by (try simp only [mA, mB, mC]); first | done | rfl | (simp only [mD, mE]; rfl)) ?_
               with_reducible refine (impl_within.calls ((rd_T36 l0_1 x38_2).f1) 1 1000000000 false _ A54.out).mono ?_
               rintro e w' ⟨rfl, ⟨nd, rfl⟩⟩
               refine ⟨_, rfl, ?_⟩
               refine hK.out _ _ ⟨(kC BK107.out 0).trans rfl, (kC BK107.out 1).trans rfl, (kC BK107.out 2).trans rfl, (kC BK101.out 0).trans rfl, (kC BK101.out 1).trans rfl, (pw_cell_below HB.out hw109_0), (pw_cell_below HB.out hw109_1), (pw_cell_below HB.out hw109_2)⟩ (fun hHeld => ?_)
               clear hK K
               refine norm_ (a' := ?_) ?_ ?_
               rotate_left
               ·
                show Act.put _ (some 66) _ = _
                simp only [Act.put, sA, sB, sC, i64_w, i32_w]
                rfl
               refine pF 24 25 32 67 ?_
               refine pF 25 26 32 68 ?_
               refine pF 26 27 32 69 ?_
               refine pU 27 28 32 70 ?_
               refine pU 28 29 32 71 ?_
               refine pU 29 30 32 72 ?_
               refine pU 30 31 32 73 ?_
               refine pF 31 32 32 74 ?_
               refine done_ (done_of HT_.out (by kernel_rfl)) ?_
               try go_wp2
               go_ret
               exact ⟨by first | rfl | (simp [errW_none, errW_some] <;> rfl) | (simp only [← hji45]; first | rfl | (simp [errW_none, errW_some] <;> rfl)) | (simp [*, errW_none, errW_some] <;> rfl), by repeat (first | (with_reducible first | exact HB.out | apply bA | apply bN | apply bD | refine bS ?_ GE101.out | refine bS ?_ GE107.out) | exact HB.out)⟩
            ·
             rw [if_neg c47] at H
             exact absurd H (by simp)
           ·
            rw [if_neg c46] at H
            exact absurd H (by simp)
          ·
           rw [if_neg c44] at H
           have c44b0 : decide (0 < x38_2) = false := decide_eq_false c44
           clear c44
           replace H := Option.bind_eq_some_iff.mp H
           obtain ⟨t111, A720, H⟩ := H
           replace H : (if t111 = true then (if (((rd_T36 l0_1 x38_2).f2).size : Int) > 900 then (some false) else (impl_isBroker.l1 k2 l0_1 (l0_1.length : Int) (wrap64 (x38_2 + 1)) l0_0 l0_1)) else (some false)) = some r := H
           have A72 := AM A720
           clear A720
           by_cases c73 : t111 = true
           ·
            subst c73
            have H1 : (if (((rd_T36 l0_1 x38_2).f2).size : Int) > 900 then (some false) else (impl_isBroker.l1 k2 l0_1 (l0_1.length : Int) (wrap64 (x38_2 + 1)) l0_0 l0_1)) = some r := by rw [if_pos rfl] at H; exact H
            clear H
            have H := H1
            clear H1
            by_cases c74 : (((rd_T36 l0_1 x38_2).f2).size : Int) > 900
            ·
             rw [if_pos c74] at H
             have c74b0 : decide (900 < (((rd_T36 l0_1 x38_2).f2).size : Int)) = true := decide_eq_true c74
             have c74b1 : decide (900 < ((rd_T36 l0_1 x38_2).f2).size) = true := decide_eq_true (by omega)
             clear c74
             obtain rfl := Option.some.inj H
             have p106 : 0 ≤ (x38_2 : Int) := of_decide_eq_true (by assumption)
             have q106 : x38_2 < (l0_1.length : Int) := of_decide_eq_true (by assumption)
             obtain ⟨ad106, e106, hx106_0, hx106_1, hx106_2⟩ := at_T36 HR0_1.out x38_2 p106 q106
             cases e106
             replace hx106_0 := pw_cell_below HB.out hx106_0
             replace hx106_1 := pw_cell_below HB.out hx106_1
             replace hx106_2 := pw_cell_below HB.out hx106_2
             replace p106 := eq_true p106
             replace q106 := eq_true q106
             try go_wp2_with (first | ((with_reducible refine gate_dst (N := 6) rfl ?_); (try (refine gate_guard (by rfl) ?_; dsimp only)); refine box_event (by rfl) (N := 6) (by rfl) (cs := #[.int .i64 0, .int .i64 0, .string (⟨#[]⟩ : ByteArray)]) (t := 36) (by first | (go_simp; done) | (go_simp; rfl)) ?_; intro gb107 hg w75 hbox hb; have n0_ := AM (blk_below (g := gb101) (o := .cells #[.slice A0_0 l0_0.length c0_0, .slice (some ad106) l0_1.length c0_1] 31 (0, 0)) (by (with_reducible repeat (first | apply kN | apply kD | apply kA)); exact BK101.out) hb); have n1_ := AM (below_step (by repeat (first | (with_reducible first | exact HB.out | apply bA | apply bN | apply bD | refine bS ?_ GE101.out) | exact HB.out)) hb); have n2_ := AM (hbox); have n3_ := AM ((by rw [hg]; exact (bZ (by repeat (first | (with_reducible first | exact HB.out | apply bA | apply bN | apply bD | refine bS ?_ GE101.out) | exact HB.out))) : w.heap.size ≤ gb107)); have n4_ := n3_; have n5_ := AM ((by rw [hg]; exact Nat.ne_of_lt (blk_lt (g := gb101) (o := .cells #[.slice A0_0 l0_0.length c0_0, .slice (some ad106) l0_1.length c0_1] 31 (0, 0)) (by (with_reducible repeat (first | apply kN | apply kD | apply kA)); exact BK101.out)) : gb101 ≠ gb107)); have n6_ := AM ((by rw [hg]; exact Nat.ne_of_gt (blk_lt (g := gb101) (o := .cells #[.slice A0_0 l0_0.length c0_0, .slice (some ad106) l0_1.length c0_1] 31 (0, 0)) (by (with_reducible repeat (first | apply kN | apply kD | apply kA)); exact BK101.out)) : gb107 ≠ gb101)); clear BK101; clear HB; have BK101 := n0_; have HB := n1_; have BK107 := n2_; have GW107 := n3_; have GE107 := n4_; have NB101_107 := n5_; have NB107_101 := n6_; clear n0_ n1_ n2_ n3_ n4_ n5_ n6_; clear hb hbox hg; have hnb76 := NB107_101.out; have hnc76 := NB101_107.out; have hcz77_0 : w75.cell? ⟨gb107, 0, none⟩ = some (.int .i64 0) := (kC BK107.out 0).trans rfl; have hcz77_1 : w75.cell? ⟨gb107, 1, none⟩ = some (.int .i64 0) := (kC BK107.out 1).trans rfl; have hcz77_2 : w75.cell? ⟨gb107, 2, none⟩ = some (.string (⟨#[]⟩ : ByteArray)) := (kC BK107.out 2).trans rfl; have hfz77_0 := fZ BK107.out 0; have hfz77_1 := fZ BK107.out 1; have hfz77_2 := fZ BK107.out 2))
             have n0_ : Aside0 ((((w75.setCell ⟨gb107, 0, none⟩ (.int .i64 ((rd_T36 l0_1 x38_2).f0))).setCell ⟨gb107, 1, none⟩ (.int .i64 ((rd_T36 l0_1 x38_2).f1))).setCell ⟨gb107, 2, none⟩ (.string ((rd_T36 l0_1 x38_2).f2))).heap[gb101]? = some (.cells #[.slice A0_0 l0_0.length c0_0, .slice (some ad106) l0_1.length c0_1] 31 (0, 0))) := ⟨by (with_reducible repeat (first | apply kN | apply kD | apply kA)); refine blk_far ?_ NB101_107.out _; (with_reducible repeat (first | apply kN | apply kD | apply kA)); refine blk_far ?_ NB101_107.out _; (with_reducible repeat (first | apply kN | apply kD | apply kA)); refine blk_far ?_ NB101_107.out _; (with_reducible repeat (first | apply kN | apply kD | apply kA)); exact BK101.out⟩
             have n1_ : Aside0 ((((w75.setCell ⟨gb107, 0, none⟩ (.int .i64 ((rd_T36 l0_1 x38_2).f0))).setCell ⟨gb107, 1, none⟩ (.int .i64 ((rd_T36 l0_1 x38_2).f1))).setCell ⟨gb107, 2, none⟩ (.string ((rd_T36 l0_1 x38_2).f2))).heap[gb107]? = some (.cells #[.int .i64 ((rd_T36 l0_1 x38_2).f0), .int .i64 ((rd_T36 l0_1 x38_2).f1), .string ((rd_T36 l0_1 x38_2).f2)] 36 (0, 0))) := ⟨by (with_reducible repeat (first | apply kN | apply kD | apply kA)); refine blk_put (cs := #[.int .i64 ((rd_T36 l0_1 x38_2).f0), .int .i64 ((rd_T36 l0_1 x38_2).f1), .string (⟨#[]⟩ : ByteArray)]) ?_ 2 _ rfl; (with_reducible repeat (first | apply kN | apply kD | apply kA)); refine blk_put (cs := #[.int .i64 ((rd_T36 l0_1 x38_2).f0), .int .i64 0, .string (⟨#[]⟩ : ByteArray)]) ?_ 1 _ rfl; (with_reducible repeat (first | apply kN | apply kD | apply kA)); refine blk_put (cs := #[.int .i64 0, .int .i64 0, .string (⟨#[]⟩ : ByteArray)]) ?_ 0 _ rfl; (with_reducible repeat (first | apply kN | apply kD | apply kA)); exact BK107.out⟩
             have n2_ : Aside0 (Below w.heap.size w (((w75.setCell ⟨gb107, 0, none⟩ (.int .i64 ((rd_T36 l0_1 x38_2).f0))).setCell ⟨gb107, 1, none⟩ (.int .i64 ((rd_T36 l0_1 x38_2).f1))).setCell ⟨gb107, 2, none⟩ (.string ((rd_T36 l0_1 x38_2).f2)))) := ⟨by repeat (first | (with_reducible first | exact HB.out | apply bA | apply bN | apply bD | refine bS ?_ GE101.out | refine bS ?_ GE107.out) | exact HB.out)⟩
             (try clear BK101)
             (try clear BK107)
             (try clear HB)
             generalize (((w75.setCell ⟨gb107, 0, none⟩ (.int .i64 ((rd_T36 l0_1 x38_2).f0))).setCell ⟨gb107, 1, none⟩ (.int .i64 ((rd_T36 l0_1 x38_2).f1))).setCell ⟨gb107, 2, none⟩ (.string ((rd_T36 l0_1 x38_2).f2))) = w78 at n0_ n1_ n2_ ⊢
             have BK101 := n0_
             have BK107 := n1_
             have HB := n2_
             clear n0_ n1_ n2_
             have n0_ := AM (kD BK101.out)
             have n1_ := AM (kD BK107.out)
             have n2_ := AM (bD HB.out)
             clear BK101
             clear BK107
             clear HB
             have BK101 := n0_
             have BK107 := n1_
             have HB := n2_
             clear n0_ n1_ n2_
             refine start_ (n := 32) (S := fun w' => w'.cell? ⟨gb107, 0, none⟩ = some (.int .i64 ((rd_T36 l0_1 x38_2).f0)) ∧ w'.cell? ⟨gb107, 1, none⟩ = some (.int .i64 ((rd_T36 l0_1 x38_2).f1)) ∧ w'.cell? ⟨gb107, 2, none⟩ = some (.string ((rd_T36 l0_1 x38_2).f2))) (ds := []) (upTo 0 32) (by kernel_rfl) rfl rfl ⟨(kC BK107.out 0).trans rfl, (kC BK107.out 1).trans rfl, (kC BK107.out 2).trans rfl⟩ (fun hHeld => ?_); refine with_tabW impl_isBroker.tab10 impl_isBroker.bits10 (fun HT_ HW_ => ?_)
             generalize w78.drew = w79 at BK101 BK107 HB hHeld ⊢
             refine pF 0 1 32 43 ?_
             refine pT2 1 44 (upTo 2 32) ?_ hHeld
             refine one_ (i := 2) (N := some 45) (upTo 3 32) rfl rfl (one_of HT_.out (by kernel_rfl)) (by decide) (fun K hK => ?_)
             refine goes_ Try.func56 (by kernel_rfl) rfl #[.int .i64 ((rd_T36 l0_1 x38_2).f0), .int .i64 1, .int .i64 9] (by rfl) rfl rfl (by (try simp only [mA, mB, mC]); first | done | rfl | (simp only [mD, mE]; rfl)) ?_
             with_reducible refine (impl_within.calls ((rd_T36 l0_1 x38_2).f0) 1 9 true _ A42.out).mono ?_
             rintro e w' ⟨rfl, ⟨nd, rfl⟩⟩
             refine ⟨_, rfl, ?_⟩
             refine hK.out _ _ ⟨(kC BK107.out 0).trans rfl, (kC BK107.out 1).trans rfl, (kC BK107.out 2).trans rfl⟩ (fun hHeld => ?_)
             clear hK K
             refine norm_ (a' := ?_) ?_ ?_
             rotate_left
             ·
              show Act.put _ (some 45) _ = _
              simp only [Act.put, sA, sB, sC, i64_w, i32_w]
              rfl
             refine pF 3 4 32 46 ?_
             refine pF 4 5 32 47 ?_
             refine pF 5 6 32 48 ?_
             refine pF 6 7 32 49 ?_
             refine pF 7 8 32 50 ?_
             refine pU 8 9 32 51 ?_
             refine pU 9 10 32 52 ?_
             refine pU 10 11 32 53 ?_
             refine pU 11 12 32 54 ?_
             refine pU 12 13 32 55 ?_
             refine pU 13 14 32 56 ?_
             refine pU 14 15 32 57 ?_
             refine pU 15 16 32 58 ?_
             refine pU 16 17 32 59 ?_
             refine pU 17 18 32 60 ?_
             refine pF 18 19 32 61 ?_
             refine pF 19 20 32 62 ?_
             refine pF 20 21 32 63 ?_
             refine pF 21 22 32 64 ?_
             refine pT2 22 65 (upTo 23 32) ?_ hHeld
             refine one_ (i := 23) (N := some 66) (upTo 24 32) rfl rfl (one_of HT_.out (by kernel_rfl)) (by decide) (fun K hK => ?_)
             refine goes_ Try.func56 (by kernel_rfl) rfl #[.int .i64 ((rd_T36 l0_1 x38_2).f1), .int .i64 1, .int .i64 1000000000] (by rfl) rfl rfl (by (try simp only [mA, mB, mC]); first | done | rfl | (simp only [mD, mE]; rfl)) ?_
             with_reducible refine (impl_within.calls ((rd_T36 l0_1 x38_2).f1) 1 1000000000 true _ A72.out).mono ?_
             rintro e w' ⟨rfl, ⟨nd, rfl⟩⟩
             refine ⟨_, rfl, ?_⟩
             refine hK.out _ _ ⟨(kC BK107.out 0).trans rfl, (kC BK107.out 1).trans rfl, (kC BK107.out 2).trans rfl⟩ (fun hHeld => ?_)
             clear hK K
             refine norm_ (a' := ?_) ?_ ?_
             rotate_left
             ·
              show Act.put _ (some 66) _ = _
              simp only [Act.put, sA, sB, sC, i64_w, i32_w]
              rfl
             refine pF 24 25 32 67 ?_
             refine pF 25 26 32 68 ?_
             refine pF 26 27 32 69 ?_
             refine pF 27 28 32 70 ?_
             refine pT2 28 71 (upTo 29 32) ?_ hHeld
             refine pF 29 30 32 72 ?_
             refine pF 30 31 32 73 ?_
             refine pF 31 32 32 74 ?_
             refine done_ (done_of HT_.out (by kernel_rfl)) ?_
             try go_wp2
             go_ret
             exact ⟨by first | rfl | (simp [*, errW_none, errW_some] <;> rfl), by repeat (first | (with_reducible first | exact HB.out | apply bA | apply bN | apply bD | refine bS ?_ GE101.out | refine bS ?_ GE107.out) | exact HB.out)⟩
            ·
             rw [if_neg c74] at H
             have c74b0 : decide (900 < (((rd_T36 l0_1 x38_2).f2).size : Int)) = false := decide_eq_false c74
             have c74b1 : decide (900 < ((rd_T36 l0_1 x38_2).f2).size) = false := decide_eq_false (by omega)
             clear c74
             have H' := AM H
             clear H
             have p106 : 0 ≤ (x38_2 : Int) := of_decide_eq_true (by assumption)
             have q106 : x38_2 < (l0_1.length : Int) := of_decide_eq_true (by assumption)
             obtain ⟨ad106, e106, hx106_0, hx106_1, hx106_2⟩ := at_T36 HR0_1.out x38_2 p106 q106
             cases e106
             replace hx106_0 := pw_cell_below HB.out hx106_0
             replace hx106_1 := pw_cell_below HB.out hx106_1
             replace hx106_2 := pw_cell_below HB.out hx106_2
             replace p106 := eq_true p106
             replace q106 := eq_true q106
             try go_wp2_with (first | ((with_reducible refine gate_dst (N := 6) rfl ?_); (try (refine gate_guard (by rfl) ?_; dsimp only)); refine box_event (by rfl) (N := 6) (by rfl) (cs := #[.int .i64 0, .int .i64 0, .string (⟨#[]⟩ : ByteArray)]) (t := 36) (by first | (go_simp; done) | (go_simp; rfl)) ?_; intro gb107 hg w80 hbox hb; have n0_ := AM (blk_below (g := gb101) (o := .cells #[.slice A0_0 l0_0.length c0_0, .slice (some ad106) l0_1.length c0_1] 31 (0, 0)) (by (with_reducible repeat (first | apply kN | apply kD | apply kA)); exact BK101.out) hb); have n1_ := AM (below_step (by repeat (first | (with_reducible first | exact HB.out | apply bA | apply bN | apply bD | refine bS ?_ GE101.out) | exact HB.out)) hb); have n2_ := AM (hbox); have n3_ := AM ((by rw [hg]; exact (bZ (by repeat (first | (with_reducible first | exact HB.out | apply bA | apply bN | apply bD | refine bS ?_ GE101.out) | exact HB.out))) : w.heap.size ≤ gb107)); have n4_ := n3_; have n5_ := AM ((by rw [hg]; exact Nat.ne_of_lt (blk_lt (g := gb101) (o := .cells #[.slice A0_0 l0_0.length c0_0, .slice (some ad106) l0_1.length c0_1] 31 (0, 0)) (by (with_reducible repeat (first | apply kN | apply kD | apply kA)); exact BK101.out)) : gb101 ≠ gb107)); have n6_ := AM ((by rw [hg]; exact Nat.ne_of_gt (blk_lt (g := gb101) (o := .cells #[.slice A0_0 l0_0.length c0_0, .slice (some ad106) l0_1.length c0_1] 31 (0, 0)) (by (with_reducible repeat (first | apply kN | apply kD | apply kA)); exact BK101.out)) : gb107 ≠ gb101)); clear BK101; clear HB; have BK101 := n0_; have HB := n1_; have BK107 := n2_; have GW107 := n3_; have GE107 := n4_; have NB101_107 := n5_; have NB107_101 := n6_; clear n0_ n1_ n2_ n3_ n4_ n5_ n6_; clear hb hbox hg; have hnb81 := NB107_101.out; have hnc81 := NB101_107.out; have hcz82_0 : w80.cell? ⟨gb107, 0, none⟩ = some (.int .i64 0) := (kC BK107.out 0).trans rfl; have hcz82_1 : w80.cell? ⟨gb107, 1, none⟩ = some (.int .i64 0) := (kC BK107.out 1).trans rfl; have hcz82_2 : w80.cell? ⟨gb107, 2, none⟩ = some (.string (⟨#[]⟩ : ByteArray)) := (kC BK107.out 2).trans rfl; have hfz82_0 := fZ BK107.out 0; have hfz82_1 := fZ BK107.out 1; have hfz82_2 := fZ BK107.out 2))
             have n0_ : Aside0 ((((w80.setCell ⟨gb107, 0, none⟩ (.int .i64 ((rd_T36 l0_1 x38_2).f0))).setCell ⟨gb107, 1, none⟩ (.int .i64 ((rd_T36 l0_1 x38_2).f1))).setCell ⟨gb107, 2, none⟩ (.string ((rd_T36 l0_1 x38_2).f2))).heap[gb101]? = some (.cells #[.slice A0_0 l0_0.length c0_0, .slice (some ad106) l0_1.length c0_1] 31 (0, 0))) := ⟨by (with_reducible repeat (first | apply kN | apply kD | apply kA)); refine blk_far ?_ NB101_107.out _; (with_reducible repeat (first | apply kN | apply kD | apply kA)); refine blk_far ?_ NB101_107.out _; (with_reducible repeat (first | apply kN | apply kD | apply kA)); refine blk_far ?_ NB101_107.out _; (with_reducible repeat (first | apply kN | apply kD | apply kA)); exact BK101.out⟩
             have n1_ : Aside0 ((((w80.setCell ⟨gb107, 0, none⟩ (.int .i64 ((rd_T36 l0_1 x38_2).f0))).setCell ⟨gb107, 1, none⟩ (.int .i64 ((rd_T36 l0_1 x38_2).f1))).setCell ⟨gb107, 2, none⟩ (.string ((rd_T36 l0_1 x38_2).f2))).heap[gb107]? = some (.cells #[.int .i64 ((rd_T36 l0_1 x38_2).f0), .int .i64 ((rd_T36 l0_1 x38_2).f1), .string ((rd_T36 l0_1 x38_2).f2)] 36 (0, 0))) := ⟨by (with_reducible repeat (first | apply kN | apply kD | apply kA)); refine blk_put (cs := #[.int .i64 ((rd_T36 l0_1 x38_2).f0), .int .i64 ((rd_T36 l0_1 x38_2).f1), .string (⟨#[]⟩ : ByteArray)]) ?_ 2 _ rfl; (with_reducible repeat (first | apply kN | apply kD | apply kA)); refine blk_put (cs := #[.int .i64 ((rd_T36 l0_1 x38_2).f0), .int .i64 0, .string (⟨#[]⟩ : ByteArray)]) ?_ 1 _ rfl; (with_reducible repeat (first | apply kN | apply kD | apply kA)); refine blk_put (cs := #[.int .i64 0, .int .i64 0, .string (⟨#[]⟩ : ByteArray)]) ?_ 0 _ rfl; (with_reducible repeat (first | apply kN | apply kD | apply kA)); exact BK107.out⟩
             have n2_ : Aside0 (Below w.heap.size w (((w80.setCell ⟨gb107, 0, none⟩ (.int .i64 ((rd_T36 l0_1 x38_2).f0))).setCell ⟨gb107, 1, none⟩ (.int .i64 ((rd_T36 l0_1 x38_2).f1))).setCell ⟨gb107, 2, none⟩ (.string ((rd_T36 l0_1 x38_2).f2)))) := ⟨by repeat (first | (with_reducible first | exact HB.out | apply bA | apply bN | apply bD | refine bS ?_ GE101.out | refine bS ?_ GE107.out) | exact HB.out)⟩
             (try clear BK101)
             (try clear BK107)
             (try clear HB)
             generalize (((w80.setCell ⟨gb107, 0, none⟩ (.int .i64 ((rd_T36 l0_1 x38_2).f0))).setCell ⟨gb107, 1, none⟩ (.int .i64 ((rd_T36 l0_1 x38_2).f1))).setCell ⟨gb107, 2, none⟩ (.string ((rd_T36 l0_1 x38_2).f2))) = w83 at n0_ n1_ n2_ ⊢
             have BK101 := n0_
             have BK107 := n1_
             have HB := n2_
             clear n0_ n1_ n2_
             have n0_ := AM (kD BK101.out)
             have n1_ := AM (kD BK107.out)
             have n2_ := AM (bD HB.out)
             clear BK101
             clear BK107
             clear HB
             have BK101 := n0_
             have BK107 := n1_
             have HB := n2_
             clear n0_ n1_ n2_
             refine start_ (n := 32) (S := fun w' => w'.cell? ⟨gb107, 0, none⟩ = some (.int .i64 ((rd_T36 l0_1 x38_2).f0)) ∧ w'.cell? ⟨gb107, 1, none⟩ = some (.int .i64 ((rd_T36 l0_1 x38_2).f1)) ∧ w'.cell? ⟨gb107, 2, none⟩ = some (.string ((rd_T36 l0_1 x38_2).f2))) (ds := []) (upTo 0 32) (by kernel_rfl) rfl rfl ⟨(kC BK107.out 0).trans rfl, (kC BK107.out 1).trans rfl, (kC BK107.out 2).trans rfl⟩ (fun hHeld => ?_); refine with_tabW impl_isBroker.tab10 impl_isBroker.bits10 (fun HT_ HW_ => ?_)
             generalize w83.drew = w84 at BK101 BK107 HB hHeld ⊢
             refine pF 0 1 32 43 ?_
             refine pT2 1 44 (upTo 2 32) ?_ hHeld
             refine one_ (i := 2) (N := some 45) (upTo 3 32) rfl rfl (one_of HT_.out (by kernel_rfl)) (by decide) (fun K hK => ?_)
             refine goes_ Try.func56 (by kernel_rfl) rfl #[.int .i64 ((rd_T36 l0_1 x38_2).f0), .int .i64 1, .int .i64 9] (by rfl) rfl rfl (by (try simp only [mA, mB, mC]); first | done | rfl | (simp only [mD, mE]; rfl)) ?_
             with_reducible refine (impl_within.calls ((rd_T36 l0_1 x38_2).f0) 1 9 true _ A42.out).mono ?_
             rintro e w' ⟨rfl, ⟨nd, rfl⟩⟩
             refine ⟨_, rfl, ?_⟩
             refine hK.out _ _ ⟨(kC BK107.out 0).trans rfl, (kC BK107.out 1).trans rfl, (kC BK107.out 2).trans rfl⟩ (fun hHeld => ?_)
             clear hK K
             refine norm_ (a' := ?_) ?_ ?_
             rotate_left
             ·
              show Act.put _ (some 45) _ = _
              simp only [Act.put, sA, sB, sC, i64_w, i32_w]
              rfl
             refine pF 3 4 32 46 ?_
             refine pF 4 5 32 47 ?_
             refine pF 5 6 32 48 ?_
             refine pF 6 7 32 49 ?_
             refine pF 7 8 32 50 ?_
             refine pU 8 9 32 51 ?_
             refine pU 9 10 32 52 ?_
             refine pU 10 11 32 53 ?_
             refine pU 11 12 32 54 ?_
             refine pU 12 13 32 55 ?_
             refine pU 13 14 32 56 ?_
             refine pU 14 15 32 57 ?_
             refine pU 15 16 32 58 ?_
             refine pU 16 17 32 59 ?_
             refine pU 17 18 32 60 ?_
             refine pF 18 19 32 61 ?_
             refine pF 19 20 32 62 ?_
             refine pF 20 21 32 63 ?_
             refine pF 21 22 32 64 ?_
             refine pT2 22 65 (upTo 23 32) ?_ hHeld
             refine one_ (i := 23) (N := some 66) (upTo 24 32) rfl rfl (one_of HT_.out (by kernel_rfl)) (by decide) (fun K hK => ?_)
             refine goes_ Try.func56 (by kernel_rfl) rfl #[.int .i64 ((rd_T36 l0_1 x38_2).f1), .int .i64 1, .int .i64 1000000000] (by rfl) rfl rfl (by (try simp only [mA, mB, mC]); first | done | rfl | (simp only [mD, mE]; rfl)) ?_
             with_reducible refine (impl_within.calls ((rd_T36 l0_1 x38_2).f1) 1 1000000000 true _ A72.out).mono ?_
             rintro e w' ⟨rfl, ⟨nd, rfl⟩⟩
             refine ⟨_, rfl, ?_⟩
             refine hK.out _ _ ⟨(kC BK107.out 0).trans rfl, (kC BK107.out 1).trans rfl, (kC BK107.out 2).trans rfl⟩ (fun hHeld => ?_)
             clear hK K
             refine norm_ (a' := ?_) ?_ ?_
             rotate_left
             ·
              show Act.put _ (some 66) _ = _
              simp only [Act.put, sA, sB, sC, i64_w, i32_w]
              rfl
             refine pF 24 25 32 67 ?_
             refine pF 25 26 32 68 ?_
             refine pF 26 27 32 69 ?_
             refine pF 27 28 32 70 ?_
             refine pT2 28 71 (upTo 29 32) ?_ hHeld
             refine pF 29 30 32 72 ?_
             refine pF 30 31 32 73 ?_
             refine pF 31 32 32 74 ?_
             refine done_ (done_of HT_.out (by kernel_rfl)) ?_
             try go_wp2
             go_roundg k2
             case measure => have := HK1.out; have := HK2.out; omega
             case rel => exact ⟨(wrap64 (x38_2 + 1)), (by first | rfl | (simp; done) | (simp [*]; done)), H', ⟨by have := HK1.out; have := HK2.out; omega⟩, ⟨by (with_reducible repeat (first | apply kN | apply kD | apply kA)); exact BK101.out⟩, ⟨by repeat (first | (with_reducible first | exact HB.out | apply bA | apply bN | apply bD | refine bS ?_ GE101.out | refine bS ?_ GE107.out) | exact HB.out)⟩⟩
           ·
            replace c73 := Bool.eq_false_iff.mpr c73
            subst c73
            have H1 : (some false) = some r := by rw [if_neg (show ¬ (false = true) by decide)] at H; exact H
            clear H
            have H := H1
            clear H1
            obtain rfl := Option.some.inj H
            have p106 : 0 ≤ (x38_2 : Int) := of_decide_eq_true (by assumption)
            have q106 : x38_2 < (l0_1.length : Int) := of_decide_eq_true (by assumption)
            obtain ⟨ad106, e106, hx106_0, hx106_1, hx106_2⟩ := at_T36 HR0_1.out x38_2 p106 q106
            cases e106
            replace hx106_0 := pw_cell_below HB.out hx106_0
            replace hx106_1 := pw_cell_below HB.out hx106_1
            replace hx106_2 := pw_cell_below HB.out hx106_2
            replace p106 := eq_true p106
            replace q106 := eq_true q106
            try go_wp2_with (first | ((with_reducible refine gate_dst (N := 6) rfl ?_); (try (refine gate_guard (by rfl) ?_; dsimp only)); refine box_event (by rfl) (N := 6) (by rfl) (cs := #[.int .i64 0, .int .i64 0, .string (⟨#[]⟩ : ByteArray)]) (t := 36) (by first | (go_simp; done) | (go_simp; rfl)) ?_; intro gb107 hg w85 hbox hb; have n0_ := AM (blk_below (g := gb101) (o := .cells #[.slice A0_0 l0_0.length c0_0, .slice (some ad106) l0_1.length c0_1] 31 (0, 0)) (by (with_reducible repeat (first | apply kN | apply kD | apply kA)); exact BK101.out) hb); have n1_ := AM (below_step (by repeat (first | (with_reducible first | exact HB.out | apply bA | apply bN | apply bD | refine bS ?_ GE101.out) | exact HB.out)) hb); have n2_ := AM (hbox); have n3_ := AM ((by rw [hg]; exact (bZ (by repeat (first | (with_reducible first | exact HB.out | apply bA | apply bN | apply bD | refine bS ?_ GE101.out) | exact HB.out))) : w.heap.size ≤ gb107)); have n4_ := n3_; have n5_ := AM ((by rw [hg]; exact Nat.ne_of_lt (blk_lt (g := gb101) (o := .cells #[.slice A0_0 l0_0.length c0_0, .slice (some ad106) l0_1.length c0_1] 31 (0, 0)) (by (with_reducible repeat (first | apply kN | apply kD | apply kA)); exact BK101.out)) : gb101 ≠ gb107)); have n6_ := AM ((by rw [hg]; exact Nat.ne_of_gt (blk_lt (g := gb101) (o := .cells #[.slice A0_0 l0_0.length c0_0, .slice (some ad106) l0_1.length c0_1] 31 (0, 0)) (by (with_reducible repeat (first | apply kN | apply kD | apply kA)); exact BK101.out)) : gb107 ≠ gb101)); clear BK101; clear HB; have BK101 := n0_; have HB := n1_; have BK107 := n2_; have GW107 := n3_; have GE107 := n4_; have NB101_107 := n5_; have NB107_101 := n6_; clear n0_ n1_ n2_ n3_ n4_ n5_ n6_; clear hb hbox hg; have hnb86 := NB107_101.out; have hnc86 := NB101_107.out; have hcz87_0 : w85.cell? ⟨gb107, 0, none⟩ = some (.int .i64 0) := (kC BK107.out 0).trans rfl; have hcz87_1 : w85.cell? ⟨gb107, 1, none⟩ = some (.int .i64 0) := (kC BK107.out 1).trans rfl; have hcz87_2 : w85.cell? ⟨gb107, 2, none⟩ = some (.string (⟨#[]⟩ : ByteArray)) := (kC BK107.out 2).trans rfl; have hfz87_0 := fZ BK107.out 0; have hfz87_1 := fZ BK107.out 1; have hfz87_2 := fZ BK107.out 2))
            have n0_ : Aside0 ((((w85.setCell ⟨gb107, 0, none⟩ (.int .i64 ((rd_T36 l0_1 x38_2).f0))).setCell ⟨gb107, 1, none⟩ (.int .i64 ((rd_T36 l0_1 x38_2).f1))).setCell ⟨gb107, 2, none⟩ (.string ((rd_T36 l0_1 x38_2).f2))).heap[gb101]? = some (.cells #[.slice A0_0 l0_0.length c0_0, .slice (some ad106) l0_1.length c0_1] 31 (0, 0))) := ⟨by (with_reducible repeat (first | apply kN | apply kD | apply kA)); refine blk_far ?_ NB101_107.out _; (with_reducible repeat (first | apply kN | apply kD | apply kA)); refine blk_far ?_ NB101_107.out _; (with_reducible repeat (first | apply kN | apply kD | apply kA)); refine blk_far ?_ NB101_107.out _; (with_reducible repeat (first | apply kN | apply kD | apply kA)); exact BK101.out⟩
            have n1_ : Aside0 ((((w85.setCell ⟨gb107, 0, none⟩ (.int .i64 ((rd_T36 l0_1 x38_2).f0))).setCell ⟨gb107, 1, none⟩ (.int .i64 ((rd_T36 l0_1 x38_2).f1))).setCell ⟨gb107, 2, none⟩ (.string ((rd_T36 l0_1 x38_2).f2))).heap[gb107]? = some (.cells #[.int .i64 ((rd_T36 l0_1 x38_2).f0), .int .i64 ((rd_T36 l0_1 x38_2).f1), .string ((rd_T36 l0_1 x38_2).f2)] 36 (0, 0))) := ⟨by (with_reducible repeat (first | apply kN | apply kD | apply kA)); refine blk_put (cs := #[.int .i64 ((rd_T36 l0_1 x38_2).f0), .int .i64 ((rd_T36 l0_1 x38_2).f1), .string (⟨#[]⟩ : ByteArray)]) ?_ 2 _ rfl; (with_reducible repeat (first | apply kN | apply kD | apply kA)); refine blk_put (cs := #[.int .i64 ((rd_T36 l0_1 x38_2).f0), .int .i64 0, .string (⟨#[]⟩ : ByteArray)]) ?_ 1 _ rfl; (with_reducible repeat (first | apply kN | apply kD | apply kA)); refine blk_put (cs := #[.int .i64 0, .int .i64 0, .string (⟨#[]⟩ : ByteArray)]) ?_ 0 _ rfl; (with_reducible repeat (first | apply kN | apply kD | apply kA)); exact BK107.out⟩
            have n2_ : Aside0 (Below w.heap.size w (((w85.setCell ⟨gb107, 0, none⟩ (.int .i64 ((rd_T36 l0_1 x38_2).f0))).setCell ⟨gb107, 1, none⟩ (.int .i64 ((rd_T36 l0_1 x38_2).f1))).setCell ⟨gb107, 2, none⟩ (.string ((rd_T36 l0_1 x38_2).f2)))) := ⟨by repeat (first | (with_reducible first | exact HB.out | apply bA | apply bN | apply bD | refine bS ?_ GE101.out | refine bS ?_ GE107.out) | exact HB.out)⟩
            (try clear BK101)
            (try clear BK107)
            (try clear HB)
            generalize (((w85.setCell ⟨gb107, 0, none⟩ (.int .i64 ((rd_T36 l0_1 x38_2).f0))).setCell ⟨gb107, 1, none⟩ (.int .i64 ((rd_T36 l0_1 x38_2).f1))).setCell ⟨gb107, 2, none⟩ (.string ((rd_T36 l0_1 x38_2).f2))) = w88 at n0_ n1_ n2_ ⊢
            have BK101 := n0_
            have BK107 := n1_
            have HB := n2_
            clear n0_ n1_ n2_
            have n0_ := AM (kD BK101.out)
            have n1_ := AM (kD BK107.out)
            have n2_ := AM (bD HB.out)
            clear BK101
            clear BK107
            clear HB
            have BK101 := n0_
            have BK107 := n1_
            have HB := n2_
            clear n0_ n1_ n2_
            refine start_ (n := 32) (S := fun w' => w'.cell? ⟨gb107, 0, none⟩ = some (.int .i64 ((rd_T36 l0_1 x38_2).f0)) ∧ w'.cell? ⟨gb107, 1, none⟩ = some (.int .i64 ((rd_T36 l0_1 x38_2).f1)) ∧ w'.cell? ⟨gb107, 2, none⟩ = some (.string ((rd_T36 l0_1 x38_2).f2))) (ds := []) (upTo 0 32) (by kernel_rfl) rfl rfl ⟨(kC BK107.out 0).trans rfl, (kC BK107.out 1).trans rfl, (kC BK107.out 2).trans rfl⟩ (fun hHeld => ?_); refine with_tabW impl_isBroker.tab10 impl_isBroker.bits10 (fun HT_ HW_ => ?_)
            generalize w88.drew = w89 at BK101 BK107 HB hHeld ⊢
            refine pF 0 1 32 43 ?_
            refine pT2 1 44 (upTo 2 32) ?_ hHeld
            refine one_ (i := 2) (N := some 45) (upTo 3 32) rfl rfl (one_of HT_.out (by kernel_rfl)) (by decide) (fun K hK => ?_)
            refine goes_ Try.func56 (by kernel_rfl) rfl #[.int .i64 ((rd_T36 l0_1 x38_2).f0), .int .i64 1, .int .i64 9] (by rfl) rfl rfl (by (try simp only [mA, mB, mC]); first | done | rfl | (simp only [mD, mE]; rfl)) ?_
            with_reducible refine (impl_within.calls ((rd_T36 l0_1 x38_2).f0) 1 9 true _ A42.out).mono ?_
            rintro e w' ⟨rfl, ⟨nd, rfl⟩⟩
            refine ⟨_, rfl, ?_⟩
            refine hK.out _ _ ⟨(kC BK107.out 0).trans rfl, (kC BK107.out 1).trans rfl, (kC BK107.out 2).trans rfl⟩ (fun hHeld => ?_)
            clear hK K
            refine norm_ (a' := ?_) ?_ ?_
            rotate_left
            ·
             show Act.put _ (some 45) _ = _
             simp only [Act.put, sA, sB, sC, i64_w, i32_w]
             rfl
            refine pF 3 4 32 46 ?_
            refine pF 4 5 32 47 ?_
            refine pF 5 6 32 48 ?_
            refine pF 6 7 32 49 ?_
            refine pF 7 8 32 50 ?_
            refine pU 8 9 32 51 ?_
            refine pU 9 10 32 52 ?_
            refine pU 10 11 32 53 ?_
            refine pU 11 12 32 54 ?_
            refine pU 12 13 32 55 ?_
            refine pU 13 14 32 56 ?_
            refine pU 14 15 32 57 ?_
            refine pU 15 16 32 58 ?_
            refine pU 16 17 32 59 ?_
            refine pU 17 18 32 60 ?_
            refine pF 18 19 32 61 ?_
            refine pF 19 20 32 62 ?_
            refine pF 20 21 32 63 ?_
            refine pF 21 22 32 64 ?_
            refine pT2 22 65 (upTo 23 32) ?_ hHeld
            refine one_ (i := 23) (N := some 66) (upTo 24 32) rfl rfl (one_of HT_.out (by kernel_rfl)) (by decide) (fun K hK => ?_)
            refine goes_ Try.func56 (by kernel_rfl) rfl #[.int .i64 ((rd_T36 l0_1 x38_2).f1), .int .i64 1, .int .i64 1000000000] (by rfl) rfl rfl (by (try simp only [mA, mB, mC]); first | done | rfl | (simp only [mD, mE]; rfl)) ?_
            with_reducible refine (impl_within.calls ((rd_T36 l0_1 x38_2).f1) 1 1000000000 false _ A72.out).mono ?_
            rintro e w' ⟨rfl, ⟨nd, rfl⟩⟩
            refine ⟨_, rfl, ?_⟩
            refine hK.out _ _ ⟨(kC BK107.out 0).trans rfl, (kC BK107.out 1).trans rfl, (kC BK107.out 2).trans rfl⟩ (fun hHeld => ?_)
            clear hK K
            refine norm_ (a' := ?_) ?_ ?_
            rotate_left
            ·
             show Act.put _ (some 66) _ = _
             simp only [Act.put, sA, sB, sC, i64_w, i32_w]
             rfl
            refine pF 24 25 32 67 ?_
            refine pF 25 26 32 68 ?_
            refine pF 26 27 32 69 ?_
            refine pU 27 28 32 70 ?_
            refine pU 28 29 32 71 ?_
            refine pU 29 30 32 72 ?_
            refine pU 30 31 32 73 ?_
            refine pF 31 32 32 74 ?_
            refine done_ (done_of HT_.out (by kernel_rfl)) ?_
            try go_wp2
            go_ret
            exact ⟨by first | rfl | (simp [*, errW_none, errW_some] <;> rfl), by repeat (first | (with_reducible first | exact HB.out | apply bA | apply bN | apply bD | refine bS ?_ GE101.out | refine bS ?_ GE107.out) | exact HB.out)⟩
         ·
          replace c43 := Bool.eq_false_iff.mpr c43
          subst c43
          have H1 : (some false) = some r := by rw [if_neg (show ¬ (false = true) by decide)] at H; exact H
          clear H
          have H := H1
          clear H1
          obtain rfl := Option.some.inj H
          have p106 : 0 ≤ (x38_2 : Int) := of_decide_eq_true (by assumption)
          have q106 : x38_2 < (l0_1.length : Int) := of_decide_eq_true (by assumption)
          obtain ⟨ad106, e106, hx106_0, hx106_1, hx106_2⟩ := at_T36 HR0_1.out x38_2 p106 q106
          cases e106
          replace hx106_0 := pw_cell_below HB.out hx106_0
          replace hx106_1 := pw_cell_below HB.out hx106_1
          replace hx106_2 := pw_cell_below HB.out hx106_2
          replace p106 := eq_true p106
          replace q106 := eq_true q106
          try go_wp2_with (first | ((with_reducible refine gate_dst (N := 6) rfl ?_); (try (refine gate_guard (by rfl) ?_; dsimp only)); refine box_event (by rfl) (N := 6) (by rfl) (cs := #[.int .i64 0, .int .i64 0, .string (⟨#[]⟩ : ByteArray)]) (t := 36) (by first | (go_simp; done) | (go_simp; rfl)) ?_; intro gb107 hg w90 hbox hb; have n0_ := AM (blk_below (g := gb101) (o := .cells #[.slice A0_0 l0_0.length c0_0, .slice (some ad106) l0_1.length c0_1] 31 (0, 0)) (by (with_reducible repeat (first | apply kN | apply kD | apply kA)); exact BK101.out) hb); have n1_ := AM (below_step (by repeat (first | (with_reducible first | exact HB.out | apply bA | apply bN | apply bD | refine bS ?_ GE101.out) | exact HB.out)) hb); have n2_ := AM (hbox); have n3_ := AM ((by rw [hg]; exact (bZ (by repeat (first | (with_reducible first | exact HB.out | apply bA | apply bN | apply bD | refine bS ?_ GE101.out) | exact HB.out))) : w.heap.size ≤ gb107)); have n4_ := n3_; have n5_ := AM ((by rw [hg]; exact Nat.ne_of_lt (blk_lt (g := gb101) (o := .cells #[.slice A0_0 l0_0.length c0_0, .slice (some ad106) l0_1.length c0_1] 31 (0, 0)) (by (with_reducible repeat (first | apply kN | apply kD | apply kA)); exact BK101.out)) : gb101 ≠ gb107)); have n6_ := AM ((by rw [hg]; exact Nat.ne_of_gt (blk_lt (g := gb101) (o := .cells #[.slice A0_0 l0_0.length c0_0, .slice (some ad106) l0_1.length c0_1] 31 (0, 0)) (by (with_reducible repeat (first | apply kN | apply kD | apply kA)); exact BK101.out)) : gb107 ≠ gb101)); clear BK101; clear HB; have BK101 := n0_; have HB := n1_; have BK107 := n2_; have GW107 := n3_; have GE107 := n4_; have NB101_107 := n5_; have NB107_101 := n6_; clear n0_ n1_ n2_ n3_ n4_ n5_ n6_; clear hb hbox hg; have hnb91 := NB107_101.out; have hnc91 := NB101_107.out; have hcz92_0 : w90.cell? ⟨gb107, 0, none⟩ = some (.int .i64 0) := (kC BK107.out 0).trans rfl; have hcz92_1 : w90.cell? ⟨gb107, 1, none⟩ = some (.int .i64 0) := (kC BK107.out 1).trans rfl; have hcz92_2 : w90.cell? ⟨gb107, 2, none⟩ = some (.string (⟨#[]⟩ : ByteArray)) := (kC BK107.out 2).trans rfl; have hfz92_0 := fZ BK107.out 0; have hfz92_1 := fZ BK107.out 1; have hfz92_2 := fZ BK107.out 2))
          have n0_ : Aside0 ((((w90.setCell ⟨gb107, 0, none⟩ (.int .i64 ((rd_T36 l0_1 x38_2).f0))).setCell ⟨gb107, 1, none⟩ (.int .i64 ((rd_T36 l0_1 x38_2).f1))).setCell ⟨gb107, 2, none⟩ (.string ((rd_T36 l0_1 x38_2).f2))).heap[gb101]? = some (.cells #[.slice A0_0 l0_0.length c0_0, .slice (some ad106) l0_1.length c0_1] 31 (0, 0))) := ⟨by (with_reducible repeat (first | apply kN | apply kD | apply kA)); refine blk_far ?_ NB101_107.out _; (with_reducible repeat (first | apply kN | apply kD | apply kA)); refine blk_far ?_ NB101_107.out _; (with_reducible repeat (first | apply kN | apply kD | apply kA)); refine blk_far ?_ NB101_107.out _; (with_reducible repeat (first | apply kN | apply kD | apply kA)); exact BK101.out⟩
          have n1_ : Aside0 ((((w90.setCell ⟨gb107, 0, none⟩ (.int .i64 ((rd_T36 l0_1 x38_2).f0))).setCell ⟨gb107, 1, none⟩ (.int .i64 ((rd_T36 l0_1 x38_2).f1))).setCell ⟨gb107, 2, none⟩ (.string ((rd_T36 l0_1 x38_2).f2))).heap[gb107]? = some (.cells #[.int .i64 ((rd_T36 l0_1 x38_2).f0), .int .i64 ((rd_T36 l0_1 x38_2).f1), .string ((rd_T36 l0_1 x38_2).f2)] 36 (0, 0))) := ⟨by (with_reducible repeat (first | apply kN | apply kD | apply kA)); refine blk_put (cs := #[.int .i64 ((rd_T36 l0_1 x38_2).f0), .int .i64 ((rd_T36 l0_1 x38_2).f1), .string (⟨#[]⟩ : ByteArray)]) ?_ 2 _ rfl; (with_reducible repeat (first | apply kN | apply kD | apply kA)); refine blk_put (cs := #[.int .i64 ((rd_T36 l0_1 x38_2).f0), .int .i64 0, .string (⟨#[]⟩ : ByteArray)]) ?_ 1 _ rfl; (with_reducible repeat (first | apply kN | apply kD | apply kA)); refine blk_put (cs := #[.int .i64 0, .int .i64 0, .string (⟨#[]⟩ : ByteArray)]) ?_ 0 _ rfl; (with_reducible repeat (first | apply kN | apply kD | apply kA)); exact BK107.out⟩
          have n2_ : Aside0 (Below w.heap.size w (((w90.setCell ⟨gb107, 0, none⟩ (.int .i64 ((rd_T36 l0_1 x38_2).f0))).setCell ⟨gb107, 1, none⟩ (.int .i64 ((rd_T36 l0_1 x38_2).f1))).setCell ⟨gb107, 2, none⟩ (.string ((rd_T36 l0_1 x38_2).f2)))) := ⟨by repeat (first | (with_reducible first | exact HB.out | apply bA | apply bN | apply bD | refine bS ?_ GE101.out | refine bS ?_ GE107.out) | exact HB.out)⟩
          (try clear BK101)
          (try clear BK107)
          (try clear HB)
          generalize (((w90.setCell ⟨gb107, 0, none⟩ (.int .i64 ((rd_T36 l0_1 x38_2).f0))).setCell ⟨gb107, 1, none⟩ (.int .i64 ((rd_T36 l0_1 x38_2).f1))).setCell ⟨gb107, 2, none⟩ (.string ((rd_T36 l0_1 x38_2).f2))) = w93 at n0_ n1_ n2_ ⊢
          have BK101 := n0_
          have BK107 := n1_
          have HB := n2_
          clear n0_ n1_ n2_
          have n0_ := AM (kD BK101.out)
          have n1_ := AM (kD BK107.out)
          have n2_ := AM (bD HB.out)
          clear BK101
          clear BK107
          clear HB
          have BK101 := n0_
          have BK107 := n1_
          have HB := n2_
          clear n0_ n1_ n2_
          refine start_ (n := 32) (S := fun w' => w'.cell? ⟨gb107, 0, none⟩ = some (.int .i64 ((rd_T36 l0_1 x38_2).f0)) ∧ w'.cell? ⟨gb107, 1, none⟩ = some (.int .i64 ((rd_T36 l0_1 x38_2).f1)) ∧ w'.cell? ⟨gb107, 2, none⟩ = some (.string ((rd_T36 l0_1 x38_2).f2))) (ds := []) (upTo 0 32) (by kernel_rfl) rfl rfl ⟨(kC BK107.out 0).trans rfl, (kC BK107.out 1).trans rfl, (kC BK107.out 2).trans rfl⟩ (fun hHeld => ?_); refine with_tabW impl_isBroker.tab10 impl_isBroker.bits10 (fun HT_ HW_ => ?_)
          generalize w93.drew = w94 at BK101 BK107 HB hHeld ⊢
          refine pF 0 1 32 43 ?_
          refine pT2 1 44 (upTo 2 32) ?_ hHeld
          refine one_ (i := 2) (N := some 45) (upTo 3 32) rfl rfl (one_of HT_.out (by kernel_rfl)) (by decide) (fun K hK => ?_)
          refine goes_ Try.func56 (by kernel_rfl) rfl #[.int .i64 ((rd_T36 l0_1 x38_2).f0), .int .i64 1, .int .i64 9] (by rfl) rfl rfl (by (try simp only [mA, mB, mC]); first | done | rfl | (simp only [mD, mE]; rfl)) ?_
          with_reducible refine (impl_within.calls ((rd_T36 l0_1 x38_2).f0) 1 9 false _ A42.out).mono ?_
          rintro e w' ⟨rfl, ⟨nd, rfl⟩⟩
          refine ⟨_, rfl, ?_⟩
          refine hK.out _ _ ⟨(kC BK107.out 0).trans rfl, (kC BK107.out 1).trans rfl, (kC BK107.out 2).trans rfl⟩ (fun hHeld => ?_)
          clear hK K
          refine norm_ (a' := ?_) ?_ ?_
          rotate_left
          ·
           show Act.put _ (some 45) _ = _
           simp only [Act.put, sA, sB, sC, i64_w, i32_w]
           rfl
          refine pF 3 4 32 46 ?_
          refine pF 4 5 32 47 ?_
          refine pU 5 6 32 48 ?_
          refine pU 6 7 32 49 ?_
          refine pU 7 8 32 50 ?_
          refine pU 8 9 32 51 ?_
          refine pU 9 10 32 52 ?_
          refine pU 10 11 32 53 ?_
          refine pU 11 12 32 54 ?_
          refine pU 12 13 32 55 ?_
          refine pU 13 14 32 56 ?_
          refine pU 14 15 32 57 ?_
          refine pU 15 16 32 58 ?_
          refine pU 16 17 32 59 ?_
          refine pU 17 18 32 60 ?_
          refine pU 18 19 32 61 ?_
          refine pF 19 20 32 62 ?_
          refine pF 20 21 32 63 ?_
          refine pU 21 22 32 64 ?_
          refine pU 22 23 32 65 ?_
          refine pU 23 24 32 66 ?_
          refine pU 24 25 32 67 ?_
          refine pF 25 26 32 68 ?_
          refine pF 26 27 32 69 ?_
          refine pU 27 28 32 70 ?_
          refine pU 28 29 32 71 ?_
          refine pU 29 30 32 72 ?_
          refine pU 30 31 32 73 ?_
          refine pF 31 32 32 74 ?_
          refine done_ (done_of HT_.out (by kernel_rfl)) ?_
          try go_wp2
          go_ret
          exact ⟨by first | rfl | (simp [*, errW_none, errW_some] <;> rfl), by repeat (first | (with_reducible first | exact HB.out | apply bA | apply bN | apply bD | refine bS ?_ GE101.out | refine bS ?_ GE107.out) | exact HB.out)⟩
        ·
         rw [if_neg c41] at H
         exact absurd H (by simp)
       ·
        rw [if_neg c40] at H
        exact absurd H (by simp)
      ·
       rw [if_neg c39] at H
       have c39b0 : decide (x38_2 < (l0_1.length : Int)) = false := decide_eq_false c39
       clear c39
       by_cases c95 : (l0_0.length : Int) ≤ 4
       ·
        rw [if_pos c95] at H
        have c95b0 : decide ((l0_0.length : Int) ≤ 4) = true := decide_eq_true c95
        have c95b1 : decide (l0_0.length ≤ 4) = true := decide_eq_true (by omega)
        clear c95
        obtain rfl := Option.some.inj H
        have hcz96_0 : wr.cell? ⟨gb101, 0, none⟩ = some (.slice A0_0 l0_0.length c0_0) := (kC BK101.out 0).trans rfl
        have hcz96_1 : wr.cell? ⟨gb101, 1, none⟩ = some (.slice A0_1 l0_1.length c0_1) := (kC BK101.out 1).trans rfl
        have hfz96_0 := fZ BK101.out 0
        have hfz96_1 := fZ BK101.out 1
        go_wp2
        go_ret
        exact ⟨by first | rfl | (simp [*, errW_none, errW_some] <;> rfl), by repeat (first | (with_reducible first | exact HB.out | apply bA | apply bN | apply bD | refine bS ?_ GE101.out) | exact HB.out)⟩
       ·
        rw [if_neg c95] at H
        have c95b0 : decide ((l0_0.length : Int) ≤ 4) = false := decide_eq_false c95
        have c95b1 : decide (l0_0.length ≤ 4) = false := decide_eq_false (by omega)
        clear c95
        obtain rfl := Option.some.inj H
        have hcz97_0 : wr.cell? ⟨gb101, 0, none⟩ = some (.slice A0_0 l0_0.length c0_0) := (kC BK101.out 0).trans rfl
        have hcz97_1 : wr.cell? ⟨gb101, 1, none⟩ = some (.slice A0_1 l0_1.length c0_1) := (kC BK101.out 1).trans rfl
        have hfz97_0 := fZ BK101.out 0
        have hfz97_1 := fZ BK101.out 1
        go_wp2
        go_ret
        exact ⟨by first | rfl | (simp [*, errW_none, errW_some] <;> rfl), by repeat (first | (with_reducible first | exact HB.out | apply bA | apply bN | apply bD | refine bS ?_ GE101.out) | exact HB.out)⟩

end Go.Proofs.Ytjjdakpnjiocjaa.Q
