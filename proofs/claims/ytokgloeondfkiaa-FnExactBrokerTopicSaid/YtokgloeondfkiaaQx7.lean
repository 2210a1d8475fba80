/- Printed by a program of this session (wip/mp.py over the kit's print.py): functions of the translation as plain Lean functions, and that the machine's calls do what these say. -/
import Derived.Test.YtokgloeondfkiaaQx0
import Derived.Test.YtokgloeondfkiaaQx5
import Derived.Test.YtokgloeondfkiaaQx6
namespace Go.Proofs.Ytokgloeondfkiaa.Q
open Go.RowKit Go.Proofs.Ytokgloeondfkiaa.HB Go.Proofs.YtokgloeondfkiaaW.PrintWords Go.Proofs.YtokgloeondfkiaaW.PrintLast Go.Proofs.YtokgloeondfkiaaW.PrintMore
attribute [local go_sem] max2_int min2_int max_two min_two max_three min_three max_four min_four   -- for this text's walks alone
set_option linter.unusedVariables false
set_option linter.unusedSimpArgs false

/-! ### impl_isBroker: function 20 -/
abbrev impl_isBroker.b0 : Array Bool := #[true, true, true, true, true, true, true, true, false, true, false, false, false, false, false, false, false, false, false]
abbrev impl_isBroker.b1 : Array Bool := #[true, true, true, true, true, true, true, true, false, true, true, false, false, false, false, false, false, false, false]
abbrev impl_isBroker.b2 : Array Bool := #[true, true, true, true, true, true, true, true, false, true, true, false, false, false, true, false, false, false, false]
abbrev impl_isBroker.b3 : Array Bool := #[true, true, true, true, true, true, true, true, true, true, true, false, false, false, true, false, false, false, false]
abbrev impl_isBroker.b4 : Array Bool := #[true, true, true, true, true, true, true, true, true, true, true, true, false, false, true, false, false, false, false]
abbrev impl_isBroker.b5 : Array Bool := #[true, true, true, true, true, true, true, true, true, true, true, true, true, false, true, false, false, false, false]
abbrev impl_isBroker.b6 : Array Bool := #[true, true, true, true, true, true, true, true, true, false, true, false, false, false, false, false, false, false, false, false, false, false, false, false, false, false, false, false, false, false, false, false]
abbrev impl_isBroker.b7 : Array Bool := #[true, true, true, true, true, true, true, true, true, false, true, true, false, false, false, false, false, false, false, false, false, false, false, false, false, false, false, false, false, false, false, false]
abbrev impl_isBroker.b8 : Array Bool := #[true, true, true, true, true, true, true, true, true, false, true, true, false, false, false, true, false, false, false, false, false, false, false, false, false, false, false, false, false, false, false, false]
abbrev impl_isBroker.b9 : Array Bool := #[true, true, true, true, true, true, true, true, true, true, true, true, false, false, false, true, false, false, false, false, false, false, false, false, false, false, false, false, false, false, false, false]
abbrev impl_isBroker.b10 : Array Bool := #[true, true, true, true, true, true, true, true, true, true, true, true, true, false, false, true, false, false, false, false, false, false, false, false, false, false, false, false, false, false, false, false]
abbrev impl_isBroker.b11 : Array Bool := #[true, true, true, true, true, true, true, true, true, true, true, true, true, true, false, true, false, false, false, false, false, false, false, false, false, false, false, false, false, false, false, false]
mutual
def impl_isBroker.l0 : Nat → List (S30) → Int → Int → List (S30) → List (S67) → Option (Bool)
  | 0, _, _, _, _, _ => none
  | k + 1, x8, x9, x10, x102000, x102001 => if x10 < x9 then (if 0 ≤ x10 then (if x10 < (x8.length : Int) then ((impl_isTopic.f k ((rd_T30 x8 x10).f0) ((rd_T30 x8 x10).f1) ((rd_T30 x8 x10).f2) ((rd_T30 x8 x10).f3)).bind fun t104 => (if t104 = true then (if x10 > 0 then (if 0 ≤ (wrap64 (x10 - 1)) then (if (wrap64 (x10 - 1)) < (x102000.length : Int) then (if ((Op.bytesLess (((rd_T30 x102000 (wrap64 (x10 - 1))).f0).toList) (((rd_T30 x8 x10).f0).toList)) = true) then (impl_isBroker.l0 k x8 x9 (wrap64 (x10 + 1)) x102000 x102001) else (some false)) else (none)) else (none)) else (impl_isBroker.l0 k x8 x9 (wrap64 (x10 + 1)) x102000 x102001)) else (some false))) else (none)) else (none)) else (impl_isBroker.l1 k x102001 (x102001.length : Int) 0 x102000 x102001)
def impl_isBroker.l1 : Nat → List (S67) → Int → Int → List (S30) → List (S67) → Option (Bool)
  | 0, _, _, _, _, _ => none
  | k + 1, x36, x37, x38, x102000, x102001 => if x38 < x37 then (if 0 ≤ x38 then (if x38 < (x36.length : Int) then ((impl_within.f ((rd_T67 x36 x38).f0) 1 9).bind fun t108 => (if t108 = true then (if x38 > 0 then (if 0 ≤ (wrap64 (x38 - 1)) then (if (wrap64 (x38 - 1)) < (x102001.length : Int) then (if ((rd_T67 x102001 (wrap64 (x38 - 1))).f0) ≥ ((rd_T67 x36 x38).f0) then (some false) else ((impl_within.f ((rd_T67 x36 x38).f1) 1 1000000000).bind fun t110 => (if t110 = true then (if (((rd_T67 x36 x38).f2).size : Int) > 900 then (some false) else (impl_isBroker.l1 k x36 x37 (wrap64 (x38 + 1)) x102000 x102001)) else (some false)))) else (none)) else (none)) else ((impl_within.f ((rd_T67 x36 x38).f1) 1 1000000000).bind fun t111 => (if t111 = true then (if (((rd_T67 x36 x38).f2).size : Int) > 900 then (some false) else (impl_isBroker.l1 k x36 x37 (wrap64 (x38 + 1)) x102000 x102001)) else (some false)))) else (some false))) else (none)) else (none)) else (if (x102000.length : Int) ≤ 4 then (some (decide ((x102001.length : Int) ≤ 9))) else (some false))
end
def impl_isBroker.f (k : Nat) (l0_0 : List (S30)) (l0_1 : List (S67)) : Option (Bool) := impl_isBroker.l0 k l0_0 (l0_0.length : Int) 0 l0_0 l0_1
theorem impl_isBroker.mono_l : ∀ k, (∀ y0 y1 y2 y3 y4, LeO (impl_isBroker.l0 k y0 y1 y2 y3 y4) (impl_isBroker.l0 (k + 1) y0 y1 y2 y3 y4)) ∧ (∀ y0 y1 y2 y3 y4, LeO (impl_isBroker.l1 k y0 y1 y2 y3 y4) (impl_isBroker.l1 (k + 1) y0 y1 y2 y3 y4))
  | 0 => ⟨fun _ _ _ _ _ r h => by simp [impl_isBroker.l0] at h, fun _ _ _ _ _ r h => by simp [impl_isBroker.l1] at h⟩
  | k + 1 => by
    obtain ⟨ih0, ih1⟩ := impl_isBroker.mono_l k
    refine ⟨?_, ?_⟩
    · intro y0 y1 y2 y3 y4
      unfold impl_isBroker.l0
      repeat' first
      | (with_reducible exact ih0 _ _ _ _ _)
      | (with_reducible exact ih1 _ _ _ _ _)
      | (with_reducible exact impl_isTopic.mono _ _ _ _ _)
      | (with_reducible exact LeO.refl _)
      | (with_reducible exact LeO.none _)
      | (with_reducible refine LeO.ite ?_ ?_)
      | (with_reducible refine LeO.bind ?_ (fun _ => ?_))
      | exact ih0 _ _ _ _ _
      | exact ih1 _ _ _ _ _
      | exact impl_isTopic.mono _ _ _ _ _
      | exact LeO.none _
      | refine LeO.ite ?_ ?_
      | refine LeO.bind ?_ (fun _ => ?_)
    · intro y0 y1 y2 y3 y4
      unfold impl_isBroker.l1
      repeat' first
      | (with_reducible exact ih0 _ _ _ _ _)
      | (with_reducible exact ih1 _ _ _ _ _)
      | (with_reducible exact impl_isTopic.mono _ _ _ _ _)
      | (with_reducible exact LeO.refl _)
      | (with_reducible exact LeO.none _)
      | (with_reducible refine LeO.ite ?_ ?_)
      | (with_reducible refine LeO.bind ?_ (fun _ => ?_))
      | exact ih0 _ _ _ _ _
      | exact ih1 _ _ _ _ _
      | exact impl_isTopic.mono _ _ _ _ _
      | exact LeO.none _
      | refine LeO.ite ?_ ?_
      | refine LeO.bind ?_ (fun _ => ?_)
theorem impl_isBroker.mono : ∀ a0 a1 k, LeO (impl_isBroker.f k a0 a1) (impl_isBroker.f (k + 1) a0 a1) := by
  intro a0 a1 k
  obtain ⟨ih0, ih1⟩ := impl_isBroker.mono_l k
  unfold impl_isBroker.f
  repeat' first
      | (with_reducible exact ih0 _ _ _ _ _)
      | (with_reducible exact ih1 _ _ _ _ _)
      | (with_reducible exact impl_isTopic.mono _ _ _ _ _)
      | (with_reducible exact LeO.refl _)
      | (with_reducible exact LeO.none _)
      | (with_reducible refine LeO.ite ?_ ?_)
      | (with_reducible refine LeO.bind ?_ (fun _ => ?_))
      | exact ih0 _ _ _ _ _
      | exact ih1 _ _ _ _ _
      | exact impl_isTopic.mono _ _ _ _ _
      | exact LeO.none _
      | refine LeO.ite ?_ ?_
      | refine LeO.bind ?_ (fun _ => ?_)
def impl_isBroker.T4 : Bool × List (List Nat × List Nat) := (true, [([], []), ([0], [0]), ([1], [1]), ([2, 1], [2]), ([3], [3]), ([4, 3], [3, 4]), ([5, 3, 3], [3, 5]), ([6], [6]), ([7, 6], [6, 7]), ([6], [6]), ([9, 6], [6, 9]), ([8, 10, 6], [6, 8, 10]), ([11, 6], [6, 11]), ([12, 6], [6, 12]), ([6], [6]), ([14, 6], [6, 14]), ([13, 15, 6], [6, 13, 15]), ([6, 16, 3], [3, 6, 16]), ([3, 17], [3, 17])])
def impl_isBroker.B4 : List Nat := [0, 1, 3, 7, 15, 31, 63, 127, 255, 127, 639, 2047, 4095, 8191, 127, 16511, 65535, 131071, 262143]
theorem impl_isBroker.tab4 : rtab .any (opsOf Try.f20 4) = impl_isBroker.T4 := by kernel_rfl
theorem impl_isBroker.bits4 : waitsOk impl_isBroker.T4.2 impl_isBroker.B4 = true := by kernel_rfl
def impl_isBroker.T10 : Bool × List (List Nat × List Nat) := (true, [([], []), ([0], [0]), ([1], [1]), ([2], [2]), ([3, 2], [3]), ([4], [4]), ([5, 4], [4, 5]), ([6, 4, 4], [4, 6]), ([7], [7]), ([8, 7], [7, 8]), ([7], [7]), ([10, 7], [7, 10]), ([9, 11, 7], [7, 9, 11]), ([12, 7], [7, 12]), ([13, 7], [7, 13]), ([7], [7]), ([15, 7], [7, 15]), ([14, 16, 7], [7, 14, 16]), ([7, 17, 4], [4, 7, 17]), ([4, 18], [4, 18]), ([19, 7], [19]), ([20], [20]), ([21, 20], [20, 21]), ([22, 20, 20], [20, 22]), ([23, 20], [20, 23]), ([20, 24], [20, 24]), ([25, 23], [25]), ([26], [26]), ([27, 26], [26, 27]), ([28, 26], [26, 28]), ([29, 26], [26, 29]), ([26, 30], [26, 30])])
def impl_isBroker.B10 : List Nat := [0, 1, 3, 7, 15, 31, 63, 127, 255, 511, 255, 1279, 4095, 8191, 16383, 255, 33023, 131071, 262143, 524287, 1048575, 2097151, 4194303, 8388607, 16777215, 33554431, 67108863, 134217727, 268435455, 536870911, 1073741823, 2147483647]
theorem impl_isBroker.tab10 : rtab .any (opsOf Try.f20 10) = impl_isBroker.T10 := by kernel_rfl
theorem impl_isBroker.bits10 : waitsOk impl_isBroker.T10.2 impl_isBroker.B10 = true := by kernel_rfl
set_option maxHeartbeats 60000000 in
set_option maxRecDepth 100000 in
theorem impl_isBroker.calls (k : Nat) (A0_0 : Option Addr) (c0_0 : Nat) (l0_0 : List (S30)) (A0_1 : Option Addr) (c0_1 : Nat) (l0_1 : List (S67)) (r : Bool) (w : World) (hr0_0 : Kd.C k30 w A0_0 l0_0.length l0_0) (hc0_0 : l0_0.length ≤ c0_0) (hr0_1 : Kd.C k67 w A0_1 l0_1.length l0_1) (hc0_1 : l0_1.length ≤ c0_1) (h : impl_isBroker.f k l0_0 l0_1 = some r) :
    Calls Try.prog 20 #[.agg #[.slice A0_0 l0_0.length c0_0, .slice A0_1 l0_1.length c0_1]] w fun e w' => e = .returned (.bool r) ∧ Below w.heap.size w w' := by
 have hu35 := Try.underlying35
 have hu30 := Try.underlying30
 have hu67 := Try.underlying67
 have HR0_0 := AM hr0_0
 have HC0_0 := AM hc0_0
 clear hr0_0 hc0_0
 have HR0_1 := AM hr0_1
 have HC0_1 := AM hc0_1
 clear hr0_1 hc0_1
 have HB := AM (Below.refl w.heap.size w)
 have H : (impl_isBroker.l0 k l0_0 (l0_0.length : Int) 0 l0_0 l0_1) = some r := h
 clear h
 have H' := AM H
 clear H
 go_enter Try.func20, Try.ntmps20
 go_wp2_with (first | ((with_reducible refine gate_dst (N := 1) rfl ?_); (try (refine gate_guard (by rfl) ?_; dsimp only)); refine box_event (by rfl) (N := 1) (by rfl) (cs := #[.slice A0_0 l0_0.length c0_0, .slice A0_1 l0_1.length c0_1]) (t := 35) (by first | (go_simp; done) | (go_simp; rfl)) ?_; intro gb101 hg w2 hbox hb; have _ := AM (below_step (bX HB.out) hb); have _ := AM (hbox); have n2_ := AM ((by rw [hg]; exact (bZ (bX HB.out)) : w.heap.size ≤ gb101)); clear HB; rename_i HB BK101; have GW101 := n2_; have GE101 := n2_; clear n2_; clear hb hbox hg; have hcz3 := q2 BK101.out; have hfz3 := fZ BK101.out))
 go_loopg [10] k (fun kq v10 w' => ∃ (x10_1 : Int), v10 = .int .i64 x10_1 ∧ Aside0 (impl_isBroker.l0 kq l0_0 (l0_0.length : Int) x10_1 l0_0 l0_1 = some r) ∧ Aside0 (kq ≤ k) ∧ Aside0 (w'.heap[gb101]? = some (.cells #[(.slice A0_0 l0_0.length c0_0), (.slice A0_1 l0_1.length c0_1)] 35 (0, 0))) ∧ Aside0 (Below w.heap.size w w'))
 case atStart => exact ⟨(0), (by first | rfl | (simp; done) | (simp [*]; done)), H', ⟨Nat.le_refl _⟩, ⟨kX BK101.out⟩, ⟨bX HB.out⟩⟩
 case round =>
  clear H'
  (try clear c2); (try clear p2); (try clear hcz3); (try clear hfz3)
  obtain ⟨x10_1, rfl, HA, HK1, BK101, HB⟩ := hrel
  cases gk with
  | zero => exact absurd HA.out (by simp [impl_isBroker.l0])
  | succ k1 =>
   have H := HA.out
   clear HA
   simp only [impl_isBroker.l0] at H
   by_cases c4 : x10_1 < (l0_0.length : Int)
   ·
    rw [if_pos c4] at H
    have c4b0 : decide (x10_1 < (l0_0.length : Int)) = true := decide_eq_true c4
    clear c4
    by_cases c5 : 0 ≤ x10_1
    ·
     rw [if_pos c5] at H
     have c5b0 : decide (0 ≤ x10_1) = true := decide_eq_true c5
     clear c5
     by_cases c6 : x10_1 < (l0_0.length : Int)
     ·
      rw [if_pos c6] at H
      have c6b0 : decide (x10_1 < (l0_0.length : Int)) = true := decide_eq_true c6
      clear c6
      replace H := Option.bind_eq_some_iff.mp H
      obtain ⟨t104, A70, H⟩ := H
      replace H : (if t104 = true then (if x10_1 > 0 then (if 0 ≤ (wrap64 (x10_1 - 1)) then (if (wrap64 (x10_1 - 1)) < (l0_0.length : Int) then (if ((Op.bytesLess (((rd_T30 l0_0 (wrap64 (x10_1 - 1))).f0).toList) (((rd_T30 l0_0 x10_1).f0).toList)) = true) then (impl_isBroker.l0 k1 l0_0 (l0_0.length : Int) (wrap64 (x10_1 + 1)) l0_0 l0_1) else (some false)) else (none)) else (none)) else (impl_isBroker.l0 k1 l0_0 (l0_0.length : Int) (wrap64 (x10_1 + 1)) l0_0 l0_1)) else (some false)) = some r := H
      have A7 := AM A70
      clear A70
      by_cases c8 : t104 = true
      ·
       subst c8
       have H1 : (if x10_1 > 0 then (if 0 ≤ (wrap64 (x10_1 - 1)) then (if (wrap64 (x10_1 - 1)) < (l0_0.length : Int) then (if ((Op.bytesLess (((rd_T30 l0_0 (wrap64 (x10_1 - 1))).f0).toList) (((rd_T30 l0_0 x10_1).f0).toList)) = true) then (impl_isBroker.l0 k1 l0_0 (l0_0.length : Int) (wrap64 (x10_1 + 1)) l0_0 l0_1) else (some false)) else (none)) else (none)) else (impl_isBroker.l0 k1 l0_0 (l0_0.length : Int) (wrap64 (x10_1 + 1)) l0_0 l0_1)) = some r := by rw [if_pos rfl] at H; exact H
       clear H
       have H := H1
       clear H1
       by_cases c9 : x10_1 > 0
       ·
        rw [if_pos c9] at H
        have c9b0 : decide (0 < x10_1) = true := decide_eq_true c9
        clear c9
        obtain ⟨ji10, hji10⟩ : ∃ j_ : Int, (wrap64 (x10_1 - 1)) = j_ := ⟨_, rfl⟩
        replace H : (if 0 ≤ (ji10) then (if (ji10) < (l0_0.length : Int) then (if ((Op.bytesLess (((rd_T30 l0_0 (ji10)).f0).toList) (((rd_T30 l0_0 x10_1).f0).toList)) = true) then (impl_isBroker.l0 k1 l0_0 (l0_0.length : Int) (wrap64 (x10_1 + 1)) l0_0 l0_1) else (some false)) else (none)) else (none)) = some r := by first | (rw [hji10] at H; exact H) | (simp only [hji10] at H ⊢; exact H)
        (try rw [hji10] at A7)
        have hji10w : (IntKind.i64.wrap (x10_1 - 1)) = ji10 := (i64_w _).trans hji10
        by_cases c11 : 0 ≤ (ji10)
        ·
         rw [if_pos c11] at H
         have c11b0 : decide (0 ≤ (ji10)) = true := decide_eq_true c11
         clear c11
         by_cases c12 : (ji10) < (l0_0.length : Int)
         ·
          rw [if_pos c12] at H
          have c12b0 : decide ((ji10) < (l0_0.length : Int)) = true := decide_eq_true c12
          clear c12
          by_cases c13 : ((Op.bytesLess (((rd_T30 l0_0 (ji10)).f0).toList) (((rd_T30 l0_0 x10_1).f0).toList)) = true)
          ·
           rw [if_pos c13] at H
           have c13b0 : (Op.bytesLess (((rd_T30 l0_0 (ji10)).f0).toList) (((rd_T30 l0_0 x10_1).f0).toList)) = true := c13
           clear c13
           have H' := AM H
           clear H
           have p102 : 0 ≤ (x10_1 : Int) := of_decide_eq_true (by assumption)
           have q102 : x10_1 < (l0_0.length : Int) := of_decide_eq_true (by assumption)
           obtain ⟨ad102, A102_2, c102_2, A102_3, c102_3, e102, hx102_0, hx102_1, hx102_2, hx102_3, hl102_2, hi102_2, hl102_3, hi102_3⟩ := at_T30 HR0_0.out x10_1 p102 q102
           cases e102
           replace hx102_0 := pw_cell_below HB.out hx102_0
           replace hx102_1 := pw_cell_below HB.out hx102_1
           replace hx102_2 := pw_cell_below HB.out hx102_2
           replace hx102_3 := pw_cell_below HB.out hx102_3
           have HR102_2 := AM hi102_2
           have HC102_2 := AM hl102_2
           clear hi102_2 hl102_2
           have HR102_3 := AM hi102_3
           have HC102_3 := AM hl102_3
           clear hi102_3 hl102_3
           replace p102 := eq_true p102
           replace q102 := eq_true q102
           try go_wp2_with (first | ((with_reducible refine gate_dst (N := 4) rfl ?_); (try (refine gate_guard (by rfl) ?_; dsimp only)); refine box_event (by rfl) (N := 4) (by rfl) (cs := #[.string (⟨#[]⟩ : ByteArray), .int .i64 0, .slice none 0 0, .slice none 0 0]) (t := 30) (by first | (go_simp; done) | (go_simp; rfl)) ?_; intro gb103 hg w14 hbox hb; have _ := AM (nB BK101.out hb); have _ := AM (below_step (bX HB.out) hb); have _ := AM (hbox); have n3_ := AM ((by rw [hg]; exact (bZ (bX HB.out)) : w.heap.size ≤ gb103)); have _ := AM (lX hg BK101.out); have _ := AM (lX hg BK101.out).symm; clear BK101 HB; rename_i BK101 HB BK103 NB101_103 NB103_101; have GW103 := n3_; have GE103 := n3_; clear n3_; clear hb hbox hg; have hnb15 := NB103_101.out; have hnc15 := NB101_103.out; have hcz16 := q4 BK103.out; have hfz16 := fZ BK103.out))
           have n0_ : Aside0 (((((w14.setCell ⟨gb103, 0, none⟩ (.string ((rd_T30 l0_0 x10_1).f0))).setCell ⟨gb103, 1, none⟩ (.int .i64 ((rd_T30 l0_0 x10_1).f1))).setCell ⟨gb103, 2, none⟩ (.slice A102_2 ((rd_T30 l0_0 x10_1).f2).length c102_2)).setCell ⟨gb103, 3, none⟩ (.slice A102_3 ((rd_T30 l0_0 x10_1).f3).length c102_3)).heap[gb101]? = some (.cells #[.slice (some ad102) l0_0.length c0_0, .slice A0_1 l0_1.length c0_1] 35 (0, 0))) := ⟨by (iterate 4 refine kF NB101_103.out ?_); (with_reducible repeat (first | apply kN | apply kD | apply kA)); exact BK101.out⟩
           have n1_ : Aside0 (((((w14.setCell ⟨gb103, 0, none⟩ (.string ((rd_T30 l0_0 x10_1).f0))).setCell ⟨gb103, 1, none⟩ (.int .i64 ((rd_T30 l0_0 x10_1).f1))).setCell ⟨gb103, 2, none⟩ (.slice A102_2 ((rd_T30 l0_0 x10_1).f2).length c102_2)).setCell ⟨gb103, 3, none⟩ (.slice A102_3 ((rd_T30 l0_0 x10_1).f3).length c102_3)).heap[gb103]? = some (.cells #[.string ((rd_T30 l0_0 x10_1).f0), .int .i64 ((rd_T30 l0_0 x10_1).f1), .slice A102_2 ((rd_T30 l0_0 x10_1).f2).length c102_2, .slice A102_3 ((rd_T30 l0_0 x10_1).f3).length c102_3] 30 (0, 0))) := ⟨by refine kP (cs := #[.string ((rd_T30 l0_0 x10_1).f0), .int .i64 ((rd_T30 l0_0 x10_1).f1), .slice A102_2 ((rd_T30 l0_0 x10_1).f2).length c102_2, .slice none 0 0]) 3 ?_; refine kP (cs := #[.string ((rd_T30 l0_0 x10_1).f0), .int .i64 ((rd_T30 l0_0 x10_1).f1), .slice none 0 0, .slice none 0 0]) 2 ?_; refine kP (cs := #[.string ((rd_T30 l0_0 x10_1).f0), .int .i64 0, .slice none 0 0, .slice none 0 0]) 1 ?_; refine kP (cs := #[.string (⟨#[]⟩ : ByteArray), .int .i64 0, .slice none 0 0, .slice none 0 0]) 0 ?_; (with_reducible repeat (first | apply kN | apply kD | apply kA)); exact BK103.out⟩
           have n2_ : Aside0 (Below w.heap.size w ((((w14.setCell ⟨gb103, 0, none⟩ (.string ((rd_T30 l0_0 x10_1).f0))).setCell ⟨gb103, 1, none⟩ (.int .i64 ((rd_T30 l0_0 x10_1).f1))).setCell ⟨gb103, 2, none⟩ (.slice A102_2 ((rd_T30 l0_0 x10_1).f2).length c102_2)).setCell ⟨gb103, 3, none⟩ (.slice A102_3 ((rd_T30 l0_0 x10_1).f3).length c102_3))) := ⟨bX HB.out⟩
           (try clear BK101)
           (try clear BK103)
           (try clear HB)
           generalize ((((w14.setCell ⟨gb103, 0, none⟩ (.string ((rd_T30 l0_0 x10_1).f0))).setCell ⟨gb103, 1, none⟩ (.int .i64 ((rd_T30 l0_0 x10_1).f1))).setCell ⟨gb103, 2, none⟩ (.slice A102_2 ((rd_T30 l0_0 x10_1).f2).length c102_2)).setCell ⟨gb103, 3, none⟩ (.slice A102_3 ((rd_T30 l0_0 x10_1).f3).length c102_3)) = w17 at n0_ n1_ n2_ ⊢
           have BK101 := n0_
           have BK103 := n1_
           have HB := n2_
           clear n0_ n1_ n2_
           have _ := AM (kD BK101.out)
           have _ := AM (kD BK103.out)
           have _ := AM (bD HB.out)
           clear BK101 BK103 HB
           rename_i BK101 BK103 HB
           have p105 : 0 ≤ ((ji10) : Int) := of_decide_eq_true (by assumption)
           have q105 : (ji10) < (l0_0.length : Int) := of_decide_eq_true (by assumption)
           obtain ⟨ad105, A105_2, c105_2, A105_3, c105_3, e105, hx105_0, hx105_1, hx105_2, hx105_3, hl105_2, hi105_2, hl105_3, hi105_3⟩ := at_T30 HR0_0.out (ji10) p105 q105
           have hw105_3 := hx105_3
           have hw105_2 := hx105_2
           have hw105_1 := hx105_1
           have hw105_0 := hx105_0
           obtain rfl : ad102 = ad105 := (by injection e105)
           replace hx105_0 := pw_cell_below HB.out hx105_0
           replace hx105_1 := pw_cell_below HB.out hx105_1
           replace hx105_2 := pw_cell_below HB.out hx105_2
           replace hx105_3 := pw_cell_below HB.out hx105_3
           have HR105_2 := AM hi105_2
           have HC105_2 := AM hl105_2
           clear hi105_2 hl105_2
           have HR105_3 := AM hi105_3
           have HC105_3 := AM hl105_3
           clear hi105_3 hl105_3
           replace p105 := eq_true p105
           replace q105 := eq_true q105
           refine start_ (n := 19) (S := fun w' => w'.cell? ⟨gb103, 0, none⟩ = some (.string ((rd_T30 l0_0 x10_1).f0)) ∧ w'.cell? ⟨gb103, 1, none⟩ = some (.int .i64 ((rd_T30 l0_0 x10_1).f1)) ∧ w'.cell? ⟨gb103, 2, none⟩ = some (.slice A102_2 ((rd_T30 l0_0 x10_1).f2).length c102_2) ∧ w'.cell? ⟨gb103, 3, none⟩ = some (.slice A102_3 ((rd_T30 l0_0 x10_1).f3).length c102_3) ∧ w'.cell? ⟨gb101, 0, none⟩ = some (.slice (some ad102) l0_0.length c0_0) ∧ w'.cell? ⟨gb101, 1, none⟩ = some (.slice A0_1 l0_1.length c0_1) ∧ w'.cell? (ad102.add (((ji10)).toNat * 4)) = some (.string ((rd_T30 l0_0 (ji10)).f0)) ∧ w'.cell? ⟨(ad102.add (((ji10)).toNat * 4)).block, (ad102.add (((ji10)).toNat * 4)).off + 1, none⟩ = some (.int .i64 ((rd_T30 l0_0 (ji10)).f1)) ∧ w'.cell? ⟨(ad102.add (((ji10)).toNat * 4)).block, (ad102.add (((ji10)).toNat * 4)).off + 2, none⟩ = some (.slice A105_2 ((rd_T30 l0_0 (ji10)).f2).length c105_2) ∧ w'.cell? ⟨(ad102.add (((ji10)).toNat * 4)).block, (ad102.add (((ji10)).toNat * 4)).off + 3, none⟩ = some (.slice A105_3 ((rd_T30 l0_0 (ji10)).f3).length c105_3)) (ds := []) (upTo 0 19) (by kernel_rfl) rfl rfl ⟨(kC BK103.out 0).trans rfl, (kC BK103.out 1).trans rfl, (kC BK103.out 2).trans rfl, (kC BK103.out 3).trans rfl, (kC BK101.out 0).trans rfl, (kC BK101.out 1).trans rfl, (pw_cell_below HB.out hw105_0), (pw_cell_below HB.out hw105_1), (pw_cell_below HB.out hw105_2), (pw_cell_below HB.out hw105_3)⟩ (fun hHeld => ?_); refine with_tabW impl_isBroker.tab4 impl_isBroker.bits4 (fun HT_ HW_ => ?_)
           generalize w17.drew = w18 at BK101 BK103 HB HR105_2 HR105_3 hx105_0 hx105_1 hx105_2 hx105_3 hHeld ⊢
           refine pT2 0 15 (upTo 1 19) ?_ hHeld
           refine one_ (i := 1) (N := some 16) (upTo 2 19) rfl rfl (one_of HT_.out (by kernel_rfl)) (by decide) (fun K hK => ?_)
           refine goes_ Try.func39 (by kernel_rfl) rfl #[.agg #[.string ((rd_T30 l0_0 x10_1).f0), .int .i64 ((rd_T30 l0_0 x10_1).f1), .slice A102_2 ((rd_T30 l0_0 x10_1).f2).length c102_2, .slice A102_3 ((rd_T30 l0_0 x10_1).f3).length c102_3]] (by rfl) rfl rfl (by (try simp only [mA, mB, mC]); first | done | rfl | (simp only [mD, mE]; rfl)) ?_
           with_reducible refine (impl_isTopic.calls k1 ((rd_T30 l0_0 x10_1).f0) ((rd_T30 l0_0 x10_1).f1) _ _ ((rd_T30 l0_0 x10_1).f2) _ _ ((rd_T30 l0_0 x10_1).f3) true _ ?side1 ?side2 ?side3 ?side4 A7.out).mono ?_
           (case side1 => repeat (first | exact (cB HR102_2.out HB.out) | (with_reducible first | apply cA | apply cN | apply cD)))
           (case side2 => exact HC102_2.out)
           (case side3 => repeat (first | exact (cB HR102_3.out HB.out) | (with_reducible first | apply cA | apply cN | apply cD)))
           (case side4 => exact HC102_3.out)
           rintro e w19 ⟨rfl, hb⟩
           refine ⟨_, rfl, ?_⟩
           have _ := AM (nB BK101.out hb)
           have _ := AM (nB BK103.out hb)
           have _ := AM (below_step (bX HB.out) hb)
           clear BK101 BK103 HB
           rename_i BK101 BK103 HB
           (try clear hb)
           (try clear hk)
           refine hK.out _ _ ⟨(kC BK103.out 0).trans rfl, (kC BK103.out 1).trans rfl, (kC BK103.out 2).trans rfl, (kC BK103.out 3).trans rfl, (kC BK101.out 0).trans rfl, (kC BK101.out 1).trans rfl, (pw_cell_below HB.out hw105_0), (pw_cell_below HB.out hw105_1), (pw_cell_below HB.out hw105_2), (pw_cell_below HB.out hw105_3)⟩ (fun hHeld => ?_)
           clear hK K
           refine norm_ (a' := ?_) ?_ ?_
           rotate_left
           ·
            show Act.put _ (some 16) _ = _
            simp only [Act.put, sA, sB, sC, i64_w, i32_w]
            rfl
           refine pF 2 3 19 17 ?_
           refine pF 3 4 19 18 ?_
           refine pF 4 5 19 19 ?_
           refine pF 5 6 19 20 ?_
           refine pF 6 7 19 21 ?_
           refine pF 7 8 19 22 ?_
           refine pF2 9 24 impl_isBroker.b0 ?_
           refine pF2 10 25 impl_isBroker.b1 ?_
           refine pF2 14 29 impl_isBroker.b2 ?_
           refine pT2 8 23 impl_isBroker.b3 ?_ hHeld
           refine pF2 11 26 impl_isBroker.b4 ?_
           refine pF2 12 27 impl_isBroker.b5 ?_
           refine pT2 13 28 (upTo 15 19) ?_ hHeld
           refine pT2 15 30 (upTo 16 19) ?_ hHeld
           refine pF 16 17 19 31 ?_
           refine pF 17 18 19 32 ?_
           refine pF 18 19 19 33 ?_
           refine done_ (done_of HT_.out (by kernel_rfl)) ?_
           try go_wp2
           go_roundg k1
           case measure => have := HK1.out; omega
           case rel => exact ⟨(wrap64 (x10_1 + 1)), (by first | rfl | (simp; done) | (simp [*]; done)), H', ⟨by have := HK1.out; omega⟩, ⟨kX BK101.out⟩, ⟨bX HB.out⟩⟩
          rw [if_neg c13] at H
          have c13b0 : (Op.bytesLess (((rd_T30 l0_0 (ji10)).f0).toList) (((rd_T30 l0_0 x10_1).f0).toList)) = false := by simpa using c13
          clear c13
          obtain rfl := Option.some.inj H
          have p102 : 0 ≤ (x10_1 : Int) := of_decide_eq_true (by assumption)
          have q102 : x10_1 < (l0_0.length : Int) := of_decide_eq_true (by assumption)
          obtain ⟨ad102, A102_2, c102_2, A102_3, c102_3, e102, hx102_0, hx102_1, hx102_2, hx102_3, hl102_2, hi102_2, hl102_3, hi102_3⟩ := at_T30 HR0_0.out x10_1 p102 q102
          cases e102
          replace hx102_0 := pw_cell_below HB.out hx102_0
          replace hx102_1 := pw_cell_below HB.out hx102_1
          replace hx102_2 := pw_cell_below HB.out hx102_2
          replace hx102_3 := pw_cell_below HB.out hx102_3
          have HR102_2 := AM hi102_2
          have HC102_2 := AM hl102_2
          clear hi102_2 hl102_2
          have HR102_3 := AM hi102_3
          have HC102_3 := AM hl102_3
          clear hi102_3 hl102_3
          replace p102 := eq_true p102
          replace q102 := eq_true q102
          try go_wp2_with (first | ((with_reducible refine gate_dst (N := 4) rfl ?_); (try (refine gate_guard (by rfl) ?_; dsimp only)); refine box_event (by rfl) (N := 4) (by rfl) (cs := #[.string (⟨#[]⟩ : ByteArray), .int .i64 0, .slice none 0 0, .slice none 0 0]) (t := 30) (by first | (go_simp; done) | (go_simp; rfl)) ?_; intro gb103 hg w20 hbox hb; have _ := AM (nB BK101.out hb); have _ := AM (below_step (bX HB.out) hb); have _ := AM (hbox); have n3_ := AM ((by rw [hg]; exact (bZ (bX HB.out)) : w.heap.size ≤ gb103)); have _ := AM (lX hg BK101.out); have _ := AM (lX hg BK101.out).symm; clear BK101 HB; rename_i BK101 HB BK103 NB101_103 NB103_101; have GW103 := n3_; have GE103 := n3_; clear n3_; clear hb hbox hg; have hnb21 := NB103_101.out; have hnc21 := NB101_103.out; have hcz22 := q4 BK103.out; have hfz22 := fZ BK103.out))
          have n0_ : Aside0 (((((w20.setCell ⟨gb103, 0, none⟩ (.string ((rd_T30 l0_0 x10_1).f0))).setCell ⟨gb103, 1, none⟩ (.int .i64 ((rd_T30 l0_0 x10_1).f1))).setCell ⟨gb103, 2, none⟩ (.slice A102_2 ((rd_T30 l0_0 x10_1).f2).length c102_2)).setCell ⟨gb103, 3, none⟩ (.slice A102_3 ((rd_T30 l0_0 x10_1).f3).length c102_3)).heap[gb101]? = some (.cells #[.slice (some ad102) l0_0.length c0_0, .slice A0_1 l0_1.length c0_1] 35 (0, 0))) := ⟨by (iterate 4 refine kF NB101_103.out ?_); (with_reducible repeat (first | apply kN | apply kD | apply kA)); exact BK101.out⟩
          have n1_ : Aside0 (((((w20.setCell ⟨gb103, 0, none⟩ (.string ((rd_T30 l0_0 x10_1).f0))).setCell ⟨gb103, 1, none⟩ (.int .i64 ((rd_T30 l0_0 x10_1).f1))).setCell ⟨gb103, 2, none⟩ (.slice A102_2 ((rd_T30 l0_0 x10_1).f2).length c102_2)).setCell ⟨gb103, 3, none⟩ (.slice A102_3 ((rd_T30 l0_0 x10_1).f3).length c102_3)).heap[gb103]? = some (.cells #[.string ((rd_T30 l0_0 x10_1).f0), .int .i64 ((rd_T30 l0_0 x10_1).f1), .slice A102_2 ((rd_T30 l0_0 x10_1).f2).length c102_2, .slice A102_3 ((rd_T30 l0_0 x10_1).f3).length c102_3] 30 (0, 0))) := ⟨by refine kP (cs := #[.string ((rd_T30 l0_0 x10_1).f0), .int .i64 ((rd_T30 l0_0 x10_1).f1), .slice A102_2 ((rd_T30 l0_0 x10_1).f2).length c102_2, .slice none 0 0]) 3 ?_; refine kP (cs := #[.string ((rd_T30 l0_0 x10_1).f0), .int .i64 ((rd_T30 l0_0 x10_1).f1), .slice none 0 0, .slice none 0 0]) 2 ?_; refine kP (cs := #[.string ((rd_T30 l0_0 x10_1).f0), .int .i64 0, .slice none 0 0, .slice none 0 0]) 1 ?_; refine kP (cs := #[.string (⟨#[]⟩ : ByteArray), .int .i64 0, .slice none 0 0, .slice none 0 0]) 0 ?_; (with_reducible repeat (first | apply kN | apply kD | apply kA)); exact BK103.out⟩
          have n2_ : Aside0 (Below w.heap.size w ((((w20.setCell ⟨gb103, 0, none⟩ (.string ((rd_T30 l0_0 x10_1).f0))).setCell ⟨gb103, 1, none⟩ (.int .i64 ((rd_T30 l0_0 x10_1).f1))).setCell ⟨gb103, 2, none⟩ (.slice A102_2 ((rd_T30 l0_0 x10_1).f2).length c102_2)).setCell ⟨gb103, 3, none⟩ (.slice A102_3 ((rd_T30 l0_0 x10_1).f3).length c102_3))) := ⟨bX HB.out⟩
          (try clear BK101)
          (try clear BK103)
          (try clear HB)
          generalize ((((w20.setCell ⟨gb103, 0, none⟩ (.string ((rd_T30 l0_0 x10_1).f0))).setCell ⟨gb103, 1, none⟩ (.int .i64 ((rd_T30 l0_0 x10_1).f1))).setCell ⟨gb103, 2, none⟩ (.slice A102_2 ((rd_T30 l0_0 x10_1).f2).length c102_2)).setCell ⟨gb103, 3, none⟩ (.slice A102_3 ((rd_T30 l0_0 x10_1).f3).length c102_3)) = w23 at n0_ n1_ n2_ ⊢
          have BK101 := n0_
          have BK103 := n1_
          have HB := n2_
          clear n0_ n1_ n2_
          have _ := AM (kD BK101.out)
          have _ := AM (kD BK103.out)
          have _ := AM (bD HB.out)
          clear BK101 BK103 HB
          rename_i BK101 BK103 HB
          have p105 : 0 ≤ ((ji10) : Int) := of_decide_eq_true (by assumption)
          have q105 : (ji10) < (l0_0.length : Int) := of_decide_eq_true (by assumption)
          obtain ⟨ad105, A105_2, c105_2, A105_3, c105_3, e105, hx105_0, hx105_1, hx105_2, hx105_3, hl105_2, hi105_2, hl105_3, hi105_3⟩ := at_T30 HR0_0.out (ji10) p105 q105
          have hw105_3 := hx105_3
          have hw105_2 := hx105_2
          have hw105_1 := hx105_1
          have hw105_0 := hx105_0
          obtain rfl : ad102 = ad105 := (by injection e105)
          replace hx105_0 := pw_cell_below HB.out hx105_0
          replace hx105_1 := pw_cell_below HB.out hx105_1
          replace hx105_2 := pw_cell_below HB.out hx105_2
          replace hx105_3 := pw_cell_below HB.out hx105_3
          have HR105_2 := AM hi105_2
          have HC105_2 := AM hl105_2
          clear hi105_2 hl105_2
          have HR105_3 := AM hi105_3
          have HC105_3 := AM hl105_3
          clear hi105_3 hl105_3
          replace p105 := eq_true p105
          replace q105 := eq_true q105
          refine start_ (n := 19) (S := fun w' => w'.cell? ⟨gb103, 0, none⟩ = some (.string ((rd_T30 l0_0 x10_1).f0)) ∧ w'.cell? ⟨gb103, 1, none⟩ = some (.int .i64 ((rd_T30 l0_0 x10_1).f1)) ∧ w'.cell? ⟨gb103, 2, none⟩ = some (.slice A102_2 ((rd_T30 l0_0 x10_1).f2).length c102_2) ∧ w'.cell? ⟨gb103, 3, none⟩ = some (.slice A102_3 ((rd_T30 l0_0 x10_1).f3).length c102_3) ∧ w'.cell? ⟨gb101, 0, none⟩ = some (.slice (some ad102) l0_0.length c0_0) ∧ w'.cell? ⟨gb101, 1, none⟩ = some (.slice A0_1 l0_1.length c0_1) ∧ w'.cell? (ad102.add (((ji10)).toNat * 4)) = some (.string ((rd_T30 l0_0 (ji10)).f0)) ∧ w'.cell? ⟨(ad102.add (((ji10)).toNat * 4)).block, (ad102.add (((ji10)).toNat * 4)).off + 1, none⟩ = some (.int .i64 ((rd_T30 l0_0 (ji10)).f1)) ∧ w'.cell? ⟨(ad102.add (((ji10)).toNat * 4)).block, (ad102.add (((ji10)).toNat * 4)).off + 2, none⟩ = some (.slice A105_2 ((rd_T30 l0_0 (ji10)).f2).length c105_2) ∧ w'.cell? ⟨(ad102.add (((ji10)).toNat * 4)).block, (ad102.add (((ji10)).toNat * 4)).off + 3, none⟩ = some (.slice A105_3 ((rd_T30 l0_0 (ji10)).f3).length c105_3)) (ds := []) (upTo 0 19) (by kernel_rfl) rfl rfl ⟨(kC BK103.out 0).trans rfl, (kC BK103.out 1).trans rfl, (kC BK103.out 2).trans rfl, (kC BK103.out 3).trans rfl, (kC BK101.out 0).trans rfl, (kC BK101.out 1).trans rfl, (pw_cell_below HB.out hw105_0), (pw_cell_below HB.out hw105_1), (pw_cell_below HB.out hw105_2), (pw_cell_below HB.out hw105_3)⟩ (fun hHeld => ?_); refine with_tabW impl_isBroker.tab4 impl_isBroker.bits4 (fun HT_ HW_ => ?_)
          generalize w23.drew = w24 at BK101 BK103 HB HR105_2 HR105_3 hx105_0 hx105_1 hx105_2 hx105_3 hHeld ⊢
          refine pT2 0 15 (upTo 1 19) ?_ hHeld
          refine one_ (i := 1) (N := some 16) (upTo 2 19) rfl rfl (one_of HT_.out (by kernel_rfl)) (by decide) (fun K hK => ?_)
          refine goes_ Try.func39 (by kernel_rfl) rfl #[.agg #[.string ((rd_T30 l0_0 x10_1).f0), .int .i64 ((rd_T30 l0_0 x10_1).f1), .slice A102_2 ((rd_T30 l0_0 x10_1).f2).length c102_2, .slice A102_3 ((rd_T30 l0_0 x10_1).f3).length c102_3]] (by rfl) rfl rfl (by (try simp only [mA, mB, mC]); first | done | rfl | (simp only [mD, mE]; rfl)) ?_
          with_reducible refine (impl_isTopic.calls k1 ((rd_T30 l0_0 x10_1).f0) ((rd_T30 l0_0 x10_1).f1) _ _ ((rd_T30 l0_0 x10_1).f2) _ _ ((rd_T30 l0_0 x10_1).f3) true _ ?side1 ?side2 ?side3 ?side4 A7.out).mono ?_
          (case side1 => repeat (first | exact (cB HR102_2.out HB.out) | (with_reducible first | apply cA | apply cN | apply cD)))
          (case side2 => exact HC102_2.out)
          (case side3 => repeat (first | exact (cB HR102_3.out HB.out) | (with_reducible first | apply cA | apply cN | apply cD)))
          (case side4 => exact HC102_3.out)
          rintro e w25 ⟨rfl, hb⟩
          refine ⟨_, rfl, ?_⟩
          have _ := AM (nB BK101.out hb)
          have _ := AM (nB BK103.out hb)
          have _ := AM (below_step (bX HB.out) hb)
          clear BK101 BK103 HB
          rename_i BK101 BK103 HB
          (try clear hb)
          (try clear hk)
          refine hK.out _ _ ⟨(kC BK103.out 0).trans rfl, (kC BK103.out 1).trans rfl, (kC BK103.out 2).trans rfl, (kC BK103.out 3).trans rfl, (kC BK101.out 0).trans rfl, (kC BK101.out 1).trans rfl, (pw_cell_below HB.out hw105_0), (pw_cell_below HB.out hw105_1), (pw_cell_below HB.out hw105_2), (pw_cell_below HB.out hw105_3)⟩ (fun hHeld => ?_)
          clear hK K
          refine norm_ (a' := ?_) ?_ ?_
          rotate_left
          ·
           show Act.put _ (some 16) _ = _
           simp only [Act.put, sA, sB, sC, i64_w, i32_w]
           rfl
          refine pF 2 3 19 17 ?_
          refine pF 3 4 19 18 ?_
          refine pF 4 5 19 19 ?_
          refine pF 5 6 19 20 ?_
          refine pF 6 7 19 21 ?_
          refine pF 7 8 19 22 ?_
          refine pF2 9 24 impl_isBroker.b0 ?_
          refine pF2 10 25 impl_isBroker.b1 ?_
          refine pF2 14 29 impl_isBroker.b2 ?_
          refine pT2 8 23 impl_isBroker.b3 ?_ hHeld
          refine pF2 11 26 impl_isBroker.b4 ?_
          refine pF2 12 27 impl_isBroker.b5 ?_
          refine pT2 13 28 (upTo 15 19) ?_ hHeld
          refine pT2 15 30 (upTo 16 19) ?_ hHeld
          refine pF 16 17 19 31 ?_
          refine pF 17 18 19 32 ?_
          refine pF 18 19 19 33 ?_
          refine done_ (done_of HT_.out (by kernel_rfl)) ?_
          try go_wp2
          go_ret
          exact ⟨by first | rfl | (simp [errW_none, errW_some] <;> rfl) | (simp only [← hji10]; first | rfl | (simp [errW_none, errW_some] <;> rfl)) | (simp [*, errW_none, errW_some] <;> rfl), bX HB.out⟩
         rw [if_neg c12] at H
         exact absurd H (by simp)
        rw [if_neg c11] at H
        exact absurd H (by simp)
       rw [if_neg c9] at H
       have c9b0 : decide (0 < x10_1) = false := decide_eq_false c9
       clear c9
       have H' := AM H
       clear H
       have p102 : 0 ≤ (x10_1 : Int) := of_decide_eq_true (by assumption)
       have q102 : x10_1 < (l0_0.length : Int) := of_decide_eq_true (by assumption)
       obtain ⟨ad102, A102_2, c102_2, A102_3, c102_3, e102, hx102_0, hx102_1, hx102_2, hx102_3, hl102_2, hi102_2, hl102_3, hi102_3⟩ := at_T30 HR0_0.out x10_1 p102 q102
       cases e102
       replace hx102_0 := pw_cell_below HB.out hx102_0
       replace hx102_1 := pw_cell_below HB.out hx102_1
       replace hx102_2 := pw_cell_below HB.out hx102_2
       replace hx102_3 := pw_cell_below HB.out hx102_3
       have HR102_2 := AM hi102_2
       have HC102_2 := AM hl102_2
       clear hi102_2 hl102_2
       have HR102_3 := AM hi102_3
       have HC102_3 := AM hl102_3
       clear hi102_3 hl102_3
       replace p102 := eq_true p102
       replace q102 := eq_true q102
       try go_wp2_with (first | ((with_reducible refine gate_dst (N := 4) rfl ?_); (try (refine gate_guard (by rfl) ?_; dsimp only)); refine box_event (by rfl) (N := 4) (by rfl) (cs := #[.string (⟨#[]⟩ : ByteArray), .int .i64 0, .slice none 0 0, .slice none 0 0]) (t := 30) (by first | (go_simp; done) | (go_simp; rfl)) ?_; intro gb103 hg w26 hbox hb; have _ := AM (nB BK101.out hb); have _ := AM (below_step (bX HB.out) hb); have _ := AM (hbox); have n3_ := AM ((by rw [hg]; exact (bZ (bX HB.out)) : w.heap.size ≤ gb103)); have _ := AM (lX hg BK101.out); have _ := AM (lX hg BK101.out).symm; clear BK101 HB; rename_i BK101 HB BK103 NB101_103 NB103_101; have GW103 := n3_; have GE103 := n3_; clear n3_; clear hb hbox hg; have hnb27 := NB103_101.out; have hnc27 := NB101_103.out; have hcz28 := q4 BK103.out; have hfz28 := fZ BK103.out))
       have n0_ : Aside0 (((((w26.setCell ⟨gb103, 0, none⟩ (.string ((rd_T30 l0_0 x10_1).f0))).setCell ⟨gb103, 1, none⟩ (.int .i64 ((rd_T30 l0_0 x10_1).f1))).setCell ⟨gb103, 2, none⟩ (.slice A102_2 ((rd_T30 l0_0 x10_1).f2).length c102_2)).setCell ⟨gb103, 3, none⟩ (.slice A102_3 ((rd_T30 l0_0 x10_1).f3).length c102_3)).heap[gb101]? = some (.cells #[.slice (some ad102) l0_0.length c0_0, .slice A0_1 l0_1.length c0_1] 35 (0, 0))) := ⟨by (iterate 4 refine kF NB101_103.out ?_); (with_reducible repeat (first | apply kN | apply kD | apply kA)); exact BK101.out⟩
       have n1_ : Aside0 (((((w26.setCell ⟨gb103, 0, none⟩ (.string ((rd_T30 l0_0 x10_1).f0))).setCell ⟨gb103, 1, none⟩ (.int .i64 ((rd_T30 l0_0 x10_1).f1))).setCell ⟨gb103, 2, none⟩ (.slice A102_2 ((rd_T30 l0_0 x10_1).f2).length c102_2)).setCell ⟨gb103, 3, none⟩ (.slice A102_3 ((rd_T30 l0_0 x10_1).f3).length c102_3)).heap[gb103]? = some (.cells #[.string ((rd_T30 l0_0 x10_1).f0), .int .i64 ((rd_T30 l0_0 x10_1).f1), .slice A102_2 ((rd_T30 l0_0 x10_1).f2).length c102_2, .slice A102_3 ((rd_T30 l0_0 x10_1).f3).length c102_3] 30 (0, 0))) := ⟨by refine kP (cs := #[.string ((rd_T30 l0_0 x10_1).f0), .int .i64 ((rd_T30 l0_0 x10_1).f1), .slice A102_2 ((rd_T30 l0_0 x10_1).f2).length c102_2, .slice none 0 0]) 3 ?_; refine kP (cs := #[.string ((rd_T30 l0_0 x10_1).f0), .int .i64 ((rd_T30 l0_0 x10_1).f1), .slice none 0 0, .slice none 0 0]) 2 ?_; refine kP (cs := #[.string ((rd_T30 l0_0 x10_1).f0), .int .i64 0, .slice none 0 0, .slice none 0 0]) 1 ?_; refine kP (cs := #[.string (⟨#[]⟩ : ByteArray), .int .i64 0, .slice none 0 0, .slice none 0 0]) 0 ?_; (with_reducible repeat (first | apply kN | apply kD | apply kA)); exact BK103.out⟩
       have n2_ : Aside0 (Below w.heap.size w ((((w26.setCell ⟨gb103, 0, none⟩ (.string ((rd_T30 l0_0 x10_1).f0))).setCell ⟨gb103, 1, none⟩ (.int .i64 ((rd_T30 l0_0 x10_1).f1))).setCell ⟨gb103, 2, none⟩ (.slice A102_2 ((rd_T30 l0_0 x10_1).f2).length c102_2)).setCell ⟨gb103, 3, none⟩ (.slice A102_3 ((rd_T30 l0_0 x10_1).f3).length c102_3))) := ⟨bX HB.out⟩
       (try clear BK101)
       (try clear BK103)
       (try clear HB)
       generalize ((((w26.setCell ⟨gb103, 0, none⟩ (.string ((rd_T30 l0_0 x10_1).f0))).setCell ⟨gb103, 1, none⟩ (.int .i64 ((rd_T30 l0_0 x10_1).f1))).setCell ⟨gb103, 2, none⟩ (.slice A102_2 ((rd_T30 l0_0 x10_1).f2).length c102_2)).setCell ⟨gb103, 3, none⟩ (.slice A102_3 ((rd_T30 l0_0 x10_1).f3).length c102_3)) = w29 at n0_ n1_ n2_ ⊢
       have BK101 := n0_
       have BK103 := n1_
       have HB := n2_
       clear n0_ n1_ n2_
       have _ := AM (kD BK101.out)
       have _ := AM (kD BK103.out)
       have _ := AM (bD HB.out)
       clear BK101 BK103 HB
       rename_i BK101 BK103 HB
       refine start_ (n := 19) (S := fun w' => w'.cell? ⟨gb103, 0, none⟩ = some (.string ((rd_T30 l0_0 x10_1).f0)) ∧ w'.cell? ⟨gb103, 1, none⟩ = some (.int .i64 ((rd_T30 l0_0 x10_1).f1)) ∧ w'.cell? ⟨gb103, 2, none⟩ = some (.slice A102_2 ((rd_T30 l0_0 x10_1).f2).length c102_2) ∧ w'.cell? ⟨gb103, 3, none⟩ = some (.slice A102_3 ((rd_T30 l0_0 x10_1).f3).length c102_3)) (ds := []) (upTo 0 19) (by kernel_rfl) rfl rfl (q4 BK103.out) (fun hHeld => ?_); refine with_tabW impl_isBroker.tab4 impl_isBroker.bits4 (fun HT_ HW_ => ?_)
       generalize w29.drew = w30 at BK101 BK103 HB hHeld ⊢
       refine pT2 0 15 (upTo 1 19) ?_ hHeld
       refine one_ (i := 1) (N := some 16) (upTo 2 19) rfl rfl (one_of HT_.out (by kernel_rfl)) (by decide) (fun K hK => ?_)
       refine goes_ Try.func39 (by kernel_rfl) rfl #[.agg #[.string ((rd_T30 l0_0 x10_1).f0), .int .i64 ((rd_T30 l0_0 x10_1).f1), .slice A102_2 ((rd_T30 l0_0 x10_1).f2).length c102_2, .slice A102_3 ((rd_T30 l0_0 x10_1).f3).length c102_3]] (by rfl) rfl rfl (by (try simp only [mA, mB, mC]); first | done | rfl | (simp only [mD, mE]; rfl)) ?_
       with_reducible refine (impl_isTopic.calls k1 ((rd_T30 l0_0 x10_1).f0) ((rd_T30 l0_0 x10_1).f1) _ _ ((rd_T30 l0_0 x10_1).f2) _ _ ((rd_T30 l0_0 x10_1).f3) true _ ?side1 ?side2 ?side3 ?side4 A7.out).mono ?_
       (case side1 => repeat (first | exact (cB HR102_2.out HB.out) | (with_reducible first | apply cA | apply cN | apply cD)))
       (case side2 => exact HC102_2.out)
       (case side3 => repeat (first | exact (cB HR102_3.out HB.out) | (with_reducible first | apply cA | apply cN | apply cD)))
       (case side4 => exact HC102_3.out)
       rintro e w31 ⟨rfl, hb⟩
       refine ⟨_, rfl, ?_⟩
       have _ := AM (nB BK101.out hb)
       have _ := AM (nB BK103.out hb)
       have _ := AM (below_step (bX HB.out) hb)
       clear BK101 BK103 HB
       rename_i BK101 BK103 HB
       (try clear hb)
       (try clear hk)
       refine hK.out _ _ (q4 BK103.out) (fun hHeld => ?_)
       clear hK K
       refine norm_ (a' := ?_) ?_ ?_
       rotate_left
       ·
        show Act.put _ (some 16) _ = _
        simp only [Act.put, sA, sB, sC, i64_w, i32_w]
        rfl
       refine pF 2 3 19 17 ?_
       refine pF 3 4 19 18 ?_
       refine pF 4 5 19 19 ?_
       refine pF 5 6 19 20 ?_
       refine pF 6 7 19 21 ?_
       refine pU 7 8 19 22 ?_
       refine pU 8 9 19 23 ?_
       refine pU 9 10 19 24 ?_
       refine pU 10 11 19 25 ?_
       refine pU 11 12 19 26 ?_
       refine pU 12 13 19 27 ?_
       refine pU 13 14 19 28 ?_
       refine pU 14 15 19 29 ?_
       refine pU 15 16 19 30 ?_
       refine pU 16 17 19 31 ?_
       refine pF 17 18 19 32 ?_
       refine pF 18 19 19 33 ?_
       refine done_ (done_of HT_.out (by kernel_rfl)) ?_
       try go_wp2
       go_roundg k1
       case measure => have := HK1.out; omega
       case rel => exact ⟨(wrap64 (x10_1 + 1)), (by first | rfl | (simp; done) | (simp [*]; done)), H', ⟨by have := HK1.out; omega⟩, ⟨kX BK101.out⟩, ⟨bX HB.out⟩⟩
      replace c8 := Bool.eq_false_iff.mpr c8
      subst c8
      have H1 : (some false) = some r := by rw [if_neg (show ¬ (false = true) by decide)] at H; exact H
      clear H
      have H := H1
      clear H1
      obtain rfl := Option.some.inj H
      have p102 : 0 ≤ (x10_1 : Int) := of_decide_eq_true (by assumption)
      have q102 : x10_1 < (l0_0.length : Int) := of_decide_eq_true (by assumption)
      obtain ⟨ad102, A102_2, c102_2, A102_3, c102_3, e102, hx102_0, hx102_1, hx102_2, hx102_3, hl102_2, hi102_2, hl102_3, hi102_3⟩ := at_T30 HR0_0.out x10_1 p102 q102
      cases e102
      replace hx102_0 := pw_cell_below HB.out hx102_0
      replace hx102_1 := pw_cell_below HB.out hx102_1
      replace hx102_2 := pw_cell_below HB.out hx102_2
      replace hx102_3 := pw_cell_below HB.out hx102_3
      have HR102_2 := AM hi102_2
      have HC102_2 := AM hl102_2
      clear hi102_2 hl102_2
      have HR102_3 := AM hi102_3
      have HC102_3 := AM hl102_3
      clear hi102_3 hl102_3
      replace p102 := eq_true p102
      replace q102 := eq_true q102
      try go_wp2_with (first | ((with_reducible refine gate_dst (N := 4) rfl ?_); (try (refine gate_guard (by rfl) ?_; dsimp only)); refine box_event (by rfl) (N := 4) (by rfl) (cs := #[.string (⟨#[]⟩ : ByteArray), .int .i64 0, .slice none 0 0, .slice none 0 0]) (t := 30) (by first | (go_simp; done) | (go_simp; rfl)) ?_; intro gb103 hg w32 hbox hb; have _ := AM (nB BK101.out hb); have _ := AM (below_step (bX HB.out) hb); have _ := AM (hbox); have n3_ := AM ((by rw [hg]; exact (bZ (bX HB.out)) : w.heap.size ≤ gb103)); have _ := AM (lX hg BK101.out); have _ := AM (lX hg BK101.out).symm; clear BK101 HB; rename_i BK101 HB BK103 NB101_103 NB103_101; have GW103 := n3_; have GE103 := n3_; clear n3_; clear hb hbox hg; have hnb33 := NB103_101.out; have hnc33 := NB101_103.out; have hcz34 := q4 BK103.out; have hfz34 := fZ BK103.out))
      have n0_ : Aside0 (((((w32.setCell ⟨gb103, 0, none⟩ (.string ((rd_T30 l0_0 x10_1).f0))).setCell ⟨gb103, 1, none⟩ (.int .i64 ((rd_T30 l0_0 x10_1).f1))).setCell ⟨gb103, 2, none⟩ (.slice A102_2 ((rd_T30 l0_0 x10_1).f2).length c102_2)).setCell ⟨gb103, 3, none⟩ (.slice A102_3 ((rd_T30 l0_0 x10_1).f3).length c102_3)).heap[gb101]? = some (.cells #[.slice (some ad102) l0_0.length c0_0, .slice A0_1 l0_1.length c0_1] 35 (0, 0))) := ⟨by (iterate 4 refine kF NB101_103.out ?_); (with_reducible repeat (first | apply kN | apply kD | apply kA)); exact BK101.out⟩
      have n1_ : Aside0 (((((w32.setCell ⟨gb103, 0, none⟩ (.string ((rd_T30 l0_0 x10_1).f0))).setCell ⟨gb103, 1, none⟩ (.int .i64 ((rd_T30 l0_0 x10_1).f1))).setCell ⟨gb103, 2, none⟩ (.slice A102_2 ((rd_T30 l0_0 x10_1).f2).length c102_2)).setCell ⟨gb103, 3, none⟩ (.slice A102_3 ((rd_T30 l0_0 x10_1).f3).length c102_3)).heap[gb103]? = some (.cells #[.string ((rd_T30 l0_0 x10_1).f0), .int .i64 ((rd_T30 l0_0 x10_1).f1), .slice A102_2 ((rd_T30 l0_0 x10_1).f2).length c102_2, .slice A102_3 ((rd_T30 l0_0 x10_1).f3).length c102_3] 30 (0, 0))) := ⟨by refine kP (cs := #[.string ((rd_T30 l0_0 x10_1).f0), .int .i64 ((rd_T30 l0_0 x10_1).f1), .slice A102_2 ((rd_T30 l0_0 x10_1).f2).length c102_2, .slice none 0 0]) 3 ?_; refine kP (cs := #[.string ((rd_T30 l0_0 x10_1).f0), .int .i64 ((rd_T30 l0_0 x10_1).f1), .slice none 0 0, .slice none 0 0]) 2 ?_; refine kP (cs := #[.string ((rd_T30 l0_0 x10_1).f0), .int .i64 0, .slice none 0 0, .slice none 0 0]) 1 ?_; refine kP (cs := #[.string (⟨#[]⟩ : ByteArray), .int .i64 0, .slice none 0 0, .slice none 0 0]) 0 ?_; (with_reducible repeat (first | apply kN | apply kD | apply kA)); exact BK103.out⟩
      have n2_ : Aside0 (Below w.heap.size w ((((w32.setCell ⟨gb103, 0, none⟩ (.string ((rd_T30 l0_0 x10_1).f0))).setCell ⟨gb103, 1, none⟩ (.int .i64 ((rd_T30 l0_0 x10_1).f1))).setCell ⟨gb103, 2, none⟩ (.slice A102_2 ((rd_T30 l0_0 x10_1).f2).length c102_2)).setCell ⟨gb103, 3, none⟩ (.slice A102_3 ((rd_T30 l0_0 x10_1).f3).length c102_3))) := ⟨bX HB.out⟩
      (try clear BK101)
      (try clear BK103)
      (try clear HB)
      generalize ((((w32.setCell ⟨gb103, 0, none⟩ (.string ((rd_T30 l0_0 x10_1).f0))).setCell ⟨gb103, 1, none⟩ (.int .i64 ((rd_T30 l0_0 x10_1).f1))).setCell ⟨gb103, 2, none⟩ (.slice A102_2 ((rd_T30 l0_0 x10_1).f2).length c102_2)).setCell ⟨gb103, 3, none⟩ (.slice A102_3 ((rd_T30 l0_0 x10_1).f3).length c102_3)) = w35 at n0_ n1_ n2_ ⊢
      have BK101 := n0_
      have BK103 := n1_
      have HB := n2_
      clear n0_ n1_ n2_
      have _ := AM (kD BK101.out)
      have _ := AM (kD BK103.out)
      have _ := AM (bD HB.out)
      clear BK101 BK103 HB
      rename_i BK101 BK103 HB
      refine start_ (n := 19) (S := fun w' => w'.cell? ⟨gb103, 0, none⟩ = some (.string ((rd_T30 l0_0 x10_1).f0)) ∧ w'.cell? ⟨gb103, 1, none⟩ = some (.int .i64 ((rd_T30 l0_0 x10_1).f1)) ∧ w'.cell? ⟨gb103, 2, none⟩ = some (.slice A102_2 ((rd_T30 l0_0 x10_1).f2).length c102_2) ∧ w'.cell? ⟨gb103, 3, none⟩ = some (.slice A102_3 ((rd_T30 l0_0 x10_1).f3).length c102_3)) (ds := []) (upTo 0 19) (by kernel_rfl) rfl rfl (q4 BK103.out) (fun hHeld => ?_); refine with_tabW impl_isBroker.tab4 impl_isBroker.bits4 (fun HT_ HW_ => ?_)
      generalize w35.drew = w36 at BK101 BK103 HB hHeld ⊢
      refine pT2 0 15 (upTo 1 19) ?_ hHeld
      refine one_ (i := 1) (N := some 16) (upTo 2 19) rfl rfl (one_of HT_.out (by kernel_rfl)) (by decide) (fun K hK => ?_)
      refine goes_ Try.func39 (by kernel_rfl) rfl #[.agg #[.string ((rd_T30 l0_0 x10_1).f0), .int .i64 ((rd_T30 l0_0 x10_1).f1), .slice A102_2 ((rd_T30 l0_0 x10_1).f2).length c102_2, .slice A102_3 ((rd_T30 l0_0 x10_1).f3).length c102_3]] (by rfl) rfl rfl (by (try simp only [mA, mB, mC]); first | done | rfl | (simp only [mD, mE]; rfl)) ?_
      with_reducible refine (impl_isTopic.calls k1 ((rd_T30 l0_0 x10_1).f0) ((rd_T30 l0_0 x10_1).f1) _ _ ((rd_T30 l0_0 x10_1).f2) _ _ ((rd_T30 l0_0 x10_1).f3) false _ ?side1 ?side2 ?side3 ?side4 A7.out).mono ?_
      (case side1 => repeat (first | exact (cB HR102_2.out HB.out) | (with_reducible first | apply cA | apply cN | apply cD)))
      (case side2 => exact HC102_2.out)
      (case side3 => repeat (first | exact (cB HR102_3.out HB.out) | (with_reducible first | apply cA | apply cN | apply cD)))
      (case side4 => exact HC102_3.out)
      rintro e w37 ⟨rfl, hb⟩
      refine ⟨_, rfl, ?_⟩
      have _ := AM (nB BK101.out hb)
      have _ := AM (nB BK103.out hb)
      have _ := AM (below_step (bX HB.out) hb)
      clear BK101 BK103 HB
      rename_i BK101 BK103 HB
      (try clear hb)
      (try clear hk)
      refine hK.out _ _ (q4 BK103.out) (fun hHeld => ?_)
      clear hK K
      refine norm_ (a' := ?_) ?_ ?_
      rotate_left
      ·
       show Act.put _ (some 16) _ = _
       simp only [Act.put, sA, sB, sC, i64_w, i32_w]
       rfl
      refine pF 2 3 19 17 ?_
      refine pF 3 4 19 18 ?_
      refine pU 4 5 19 19 ?_
      refine pU 5 6 19 20 ?_
      refine pU 6 7 19 21 ?_
      refine pU 7 8 19 22 ?_
      refine pU 8 9 19 23 ?_
      refine pU 9 10 19 24 ?_
      refine pU 10 11 19 25 ?_
      refine pU 11 12 19 26 ?_
      refine pU 12 13 19 27 ?_
      refine pU 13 14 19 28 ?_
      refine pU 14 15 19 29 ?_
      refine pU 15 16 19 30 ?_
      refine pU 16 17 19 31 ?_
      refine pU 17 18 19 32 ?_
      refine pF 18 19 19 33 ?_
      refine done_ (done_of HT_.out (by kernel_rfl)) ?_
      try go_wp2
      go_ret
      exact ⟨by first | rfl | (simp [*, errW_none, errW_some] <;> rfl), bX HB.out⟩
     rw [if_neg c6] at H
     exact absurd H (by simp)
    rw [if_neg c5] at H
    exact absurd H (by simp)
   rw [if_neg c4] at H
   have c4b0 : decide (x10_1 < (l0_0.length : Int)) = false := decide_eq_false c4
   clear c4
   have H' := AM H
   clear H
   have hcz38 := q2 BK101.out
   have hfz38 := fZ BK101.out
   go_wp2
   go_loopg [38] k1 (fun kq v38 w' => ∃ (x38_2 : Int), v38 = .int .i64 x38_2 ∧ Aside0 (impl_isBroker.l1 kq l0_1 (l0_1.length : Int) x38_2 l0_0 l0_1 = some r) ∧ Aside0 (kq ≤ k1) ∧ Aside0 (w'.heap[gb101]? = some (.cells #[(.slice A0_0 l0_0.length c0_0), (.slice A0_1 l0_1.length c0_1)] 35 (0, 0))) ∧ Aside0 (Below w.heap.size w w'))
   case atStart => exact ⟨(0), (by first | rfl | (simp; done) | (simp [*]; done)), H', ⟨Nat.le_refl _⟩, ⟨kX BK101.out⟩, ⟨bX HB.out⟩⟩
   case round =>
    clear H'
    (try clear c1); (try clear p1); (try clear q1); (try clear hx1); (try clear c2); (try clear p2); (try clear c3); (try clear c4); (try clear c4b0); (try clear c5); (try clear c6); (try clear p6); (try clear c8); (try clear c9); (try clear c9b0); (try clear c10); (try clear p10); (try clear q10); (try clear hx10); (try clear c11); (try clear c12); (try clear c21); (try clear c27); (try clear c33); (try clear hcz22); (try clear hcz28); (try clear hcz34); (try clear hcz38); (try clear hfz22); (try clear hfz28); (try clear hfz34); (try clear hfz38); (try clear hx102_0); (try clear hx102_1); (try clear hx102_2); (try clear hx102_3); (try clear hx105_0); (try clear hx105_1); (try clear hx105_2); (try clear hx105_3); (try clear p102); (try clear p105); (try clear q102); (try clear q105)
    obtain ⟨x38_2, rfl, HA, HK2, BK101, HB⟩ := hrel
    cases gk with
    | zero => exact absurd HA.out (by simp [impl_isBroker.l1])
    | succ k2 =>
     have H := HA.out
     clear HA
     simp only [impl_isBroker.l1] at H
     by_cases c39 : x38_2 < (l0_1.length : Int)
     ·
      rw [if_pos c39] at H
      have c39b0 : decide (x38_2 < (l0_1.length : Int)) = true := decide_eq_true c39
      clear c39
      by_cases c40 : 0 ≤ x38_2
      ·
       rw [if_pos c40] at H
       have c40b0 : decide (0 ≤ x38_2) = true := decide_eq_true c40
       clear c40
       by_cases c41 : x38_2 < (l0_1.length : Int)
       ·
        rw [if_pos c41] at H
        have c41b0 : decide (x38_2 < (l0_1.length : Int)) = true := decide_eq_true c41
        clear c41
        replace H := Option.bind_eq_some_iff.mp H
        obtain ⟨t108, A420, H⟩ := H
        replace H : (if t108 = true then (if x38_2 > 0 then (if 0 ≤ (wrap64 (x38_2 - 1)) then (if (wrap64 (x38_2 - 1)) < (l0_1.length : Int) then (if ((rd_T67 l0_1 (wrap64 (x38_2 - 1))).f0) ≥ ((rd_T67 l0_1 x38_2).f0) then (some false) else ((impl_within.f ((rd_T67 l0_1 x38_2).f1) 1 1000000000).bind fun t110 => (if t110 = true then (if (((rd_T67 l0_1 x38_2).f2).size : Int) > 900 then (some false) else (impl_isBroker.l1 k2 l0_1 (l0_1.length : Int) (wrap64 (x38_2 + 1)) l0_0 l0_1)) else (some false)))) else (none)) else (none)) else ((impl_within.f ((rd_T67 l0_1 x38_2).f1) 1 1000000000).bind fun t111 => (if t111 = true then (if (((rd_T67 l0_1 x38_2).f2).size : Int) > 900 then (some false) else (impl_isBroker.l1 k2 l0_1 (l0_1.length : Int) (wrap64 (x38_2 + 1)) l0_0 l0_1)) else (some false)))) else (some false)) = some r := H
        have A42 := AM A420
        clear A420
        by_cases c43 : t108 = true
        ·
         subst c43
         have H1 : (if x38_2 > 0 then (if 0 ≤ (wrap64 (x38_2 - 1)) then (if (wrap64 (x38_2 - 1)) < (l0_1.length : Int) then (if ((rd_T67 l0_1 (wrap64 (x38_2 - 1))).f0) ≥ ((rd_T67 l0_1 x38_2).f0) then (some false) else ((impl_within.f ((rd_T67 l0_1 x38_2).f1) 1 1000000000).bind fun t110 => (if t110 = true then (if (((rd_T67 l0_1 x38_2).f2).size : Int) > 900 then (some false) else (impl_isBroker.l1 k2 l0_1 (l0_1.length : Int) (wrap64 (x38_2 + 1)) l0_0 l0_1)) else (some false)))) else (none)) else (none)) else ((impl_within.f ((rd_T67 l0_1 x38_2).f1) 1 1000000000).bind fun t111 => (if t111 = true then (if (((rd_T67 l0_1 x38_2).f2).size : Int) > 900 then (some false) else (impl_isBroker.l1 k2 l0_1 (l0_1.length : Int) (wrap64 (x38_2 + 1)) l0_0 l0_1)) else (some false)))) = some r := by rw [if_pos rfl] at H; exact H
         clear H
         have H := H1
         clear H1
         by_cases c44 : x38_2 > 0
         ·
          rw [if_pos c44] at H
          have c44b0 : decide (0 < x38_2) = true := decide_eq_true c44
          clear c44
          obtain ⟨ji45, hji45⟩ : ∃ j_ : Int, (wrap64 (x38_2 - 1)) = j_ := ⟨_, rfl⟩
          replace H : (if 0 ≤ (ji45) then (if (ji45) < (l0_1.length : Int) then (if ((rd_T67 l0_1 (ji45)).f0) ≥ ((rd_T67 l0_1 x38_2).f0) then (some false) else ((impl_within.f ((rd_T67 l0_1 x38_2).f1) 1 1000000000).bind fun t110 => (if t110 = true then (if (((rd_T67 l0_1 x38_2).f2).size : Int) > 900 then (some false) else (impl_isBroker.l1 k2 l0_1 (l0_1.length : Int) (wrap64 (x38_2 + 1)) l0_0 l0_1)) else (some false)))) else (none)) else (none)) = some r := by first | (rw [hji45] at H; exact H) | (simp only [hji45] at H ⊢; exact H)
          (try rw [hji45] at A42)
          have hji45w : (IntKind.i64.wrap (x38_2 - 1)) = ji45 := (i64_w _).trans hji45
          by_cases c46 : 0 ≤ (ji45)
          ·
           rw [if_pos c46] at H
           have c46b0 : decide (0 ≤ (ji45)) = true := decide_eq_true c46
           clear c46
           by_cases c47 : (ji45) < (l0_1.length : Int)
           ·
            rw [if_pos c47] at H
            have c47b0 : decide ((ji45) < (l0_1.length : Int)) = true := decide_eq_true c47
            clear c47
            by_cases c48 : ((rd_T67 l0_1 (ji45)).f0) ≥ ((rd_T67 l0_1 x38_2).f0)
            ·
             rw [if_pos c48] at H
             have c48b0 : decide (((rd_T67 l0_1 x38_2).f0) ≤ ((rd_T67 l0_1 (ji45)).f0)) = true := decide_eq_true c48
             clear c48
             obtain rfl := Option.some.inj H
             have p106 : 0 ≤ (x38_2 : Int) := of_decide_eq_true (by assumption)
             have q106 : x38_2 < (l0_1.length : Int) := of_decide_eq_true (by assumption)
             obtain ⟨ad106, e106, hx106_0, hx106_1, hx106_2⟩ := at_T67 HR0_1.out x38_2 p106 q106
             cases e106
             replace hx106_0 := pw_cell_below HB.out hx106_0
             replace hx106_1 := pw_cell_below HB.out hx106_1
             replace hx106_2 := pw_cell_below HB.out hx106_2
             replace p106 := eq_true p106
             replace q106 := eq_true q106
             try go_wp2_with (first | ((with_reducible refine gate_dst (N := 6) rfl ?_); (try (refine gate_guard (by rfl) ?_; dsimp only)); refine box_event (by rfl) (N := 6) (by rfl) (cs := #[.int .i64 0, .int .i64 0, .string (⟨#[]⟩ : ByteArray)]) (t := 67) (by first | (go_simp; done) | (go_simp; rfl)) ?_; intro gb107 hg w49 hbox hb; have _ := AM (nB BK101.out hb); have _ := AM (below_step (bX HB.out) hb); have _ := AM (hbox); have n3_ := AM ((by rw [hg]; exact (bZ (bX HB.out)) : w.heap.size ≤ gb107)); have _ := AM (lX hg BK101.out); have _ := AM (lX hg BK101.out).symm; clear BK101 HB; rename_i BK101 HB BK107 NB101_107 NB107_101; have GW107 := n3_; have GE107 := n3_; clear n3_; clear hb hbox hg; have hnb50 := NB107_101.out; have hnc50 := NB101_107.out; have hcz51 := q3 BK107.out; have hfz51 := fZ BK107.out))
             have n0_ : Aside0 ((((w49.setCell ⟨gb107, 0, none⟩ (.int .i64 ((rd_T67 l0_1 x38_2).f0))).setCell ⟨gb107, 1, none⟩ (.int .i64 ((rd_T67 l0_1 x38_2).f1))).setCell ⟨gb107, 2, none⟩ (.string ((rd_T67 l0_1 x38_2).f2))).heap[gb101]? = some (.cells #[.slice A0_0 l0_0.length c0_0, .slice (some ad106) l0_1.length c0_1] 35 (0, 0))) := ⟨by (iterate 3 refine kF NB101_107.out ?_); (with_reducible repeat (first | apply kN | apply kD | apply kA)); exact BK101.out⟩
             have n1_ : Aside0 ((((w49.setCell ⟨gb107, 0, none⟩ (.int .i64 ((rd_T67 l0_1 x38_2).f0))).setCell ⟨gb107, 1, none⟩ (.int .i64 ((rd_T67 l0_1 x38_2).f1))).setCell ⟨gb107, 2, none⟩ (.string ((rd_T67 l0_1 x38_2).f2))).heap[gb107]? = some (.cells #[.int .i64 ((rd_T67 l0_1 x38_2).f0), .int .i64 ((rd_T67 l0_1 x38_2).f1), .string ((rd_T67 l0_1 x38_2).f2)] 67 (0, 0))) := ⟨by refine kP (cs := #[.int .i64 ((rd_T67 l0_1 x38_2).f0), .int .i64 ((rd_T67 l0_1 x38_2).f1), .string (⟨#[]⟩ : ByteArray)]) 2 ?_; refine kP (cs := #[.int .i64 ((rd_T67 l0_1 x38_2).f0), .int .i64 0, .string (⟨#[]⟩ : ByteArray)]) 1 ?_; refine kP (cs := #[.int .i64 0, .int .i64 0, .string (⟨#[]⟩ : ByteArray)]) 0 ?_; (with_reducible repeat (first | apply kN | apply kD | apply kA)); exact BK107.out⟩
             have n2_ : Aside0 (Below w.heap.size w (((w49.setCell ⟨gb107, 0, none⟩ (.int .i64 ((rd_T67 l0_1 x38_2).f0))).setCell ⟨gb107, 1, none⟩ (.int .i64 ((rd_T67 l0_1 x38_2).f1))).setCell ⟨gb107, 2, none⟩ (.string ((rd_T67 l0_1 x38_2).f2)))) := ⟨bX HB.out⟩
             (try clear BK101)
             (try clear BK107)
             (try clear HB)
             generalize (((w49.setCell ⟨gb107, 0, none⟩ (.int .i64 ((rd_T67 l0_1 x38_2).f0))).setCell ⟨gb107, 1, none⟩ (.int .i64 ((rd_T67 l0_1 x38_2).f1))).setCell ⟨gb107, 2, none⟩ (.string ((rd_T67 l0_1 x38_2).f2))) = w52 at n0_ n1_ n2_ ⊢
             have BK101 := n0_
             have BK107 := n1_
             have HB := n2_
             clear n0_ n1_ n2_
             have _ := AM (kD BK101.out)
             have _ := AM (kD BK107.out)
             have _ := AM (bD HB.out)
             clear BK101 BK107 HB
             rename_i BK101 BK107 HB
             have p109 : 0 ≤ ((ji45) : Int) := of_decide_eq_true (by assumption)
             have q109 : (ji45) < (l0_1.length : Int) := of_decide_eq_true (by assumption)
             obtain ⟨ad109, e109, hx109_0, hx109_1, hx109_2⟩ := at_T67 HR0_1.out (ji45) p109 q109
             have hw109_2 := hx109_2
             have hw109_1 := hx109_1
             have hw109_0 := hx109_0
             obtain rfl : ad106 = ad109 := (by injection e109)
             replace hx109_0 := pw_cell_below HB.out hx109_0
             replace hx109_1 := pw_cell_below HB.out hx109_1
             replace hx109_2 := pw_cell_below HB.out hx109_2
             replace p109 := eq_true p109
             replace q109 := eq_true q109
             refine start_ (n := 32) (S := fun w' => w'.cell? ⟨gb107, 0, none⟩ = some (.int .i64 ((rd_T67 l0_1 x38_2).f0)) ∧ w'.cell? ⟨gb107, 1, none⟩ = some (.int .i64 ((rd_T67 l0_1 x38_2).f1)) ∧ w'.cell? ⟨gb107, 2, none⟩ = some (.string ((rd_T67 l0_1 x38_2).f2)) ∧ w'.cell? ⟨gb101, 0, none⟩ = some (.slice A0_0 l0_0.length c0_0) ∧ w'.cell? ⟨gb101, 1, none⟩ = some (.slice (some ad106) l0_1.length c0_1) ∧ w'.cell? (ad106.add (((ji45)).toNat * 3)) = some (.int .i64 ((rd_T67 l0_1 (ji45)).f0)) ∧ w'.cell? ⟨(ad106.add (((ji45)).toNat * 3)).block, (ad106.add (((ji45)).toNat * 3)).off + 1, none⟩ = some (.int .i64 ((rd_T67 l0_1 (ji45)).f1)) ∧ w'.cell? ⟨(ad106.add (((ji45)).toNat * 3)).block, (ad106.add (((ji45)).toNat * 3)).off + 2, none⟩ = some (.string ((rd_T67 l0_1 (ji45)).f2))) (ds := []) (upTo 0 32) (by kernel_rfl) rfl rfl ⟨(kC BK107.out 0).trans rfl, (kC BK107.out 1).trans rfl, (kC BK107.out 2).trans rfl, (kC BK101.out 0).trans rfl, (kC BK101.out 1).trans rfl, (pw_cell_below HB.out hw109_0), (pw_cell_below HB.out hw109_1), (pw_cell_below HB.out hw109_2)⟩ (fun hHeld => ?_); refine with_tabW impl_isBroker.tab10 impl_isBroker.bits10 (fun HT_ HW_ => ?_)
             generalize w52.drew = w53 at BK101 BK107 HB hx109_0 hx109_1 hx109_2 hHeld ⊢
             refine pF 0 1 32 43 ?_
             refine pT2 1 44 (upTo 2 32) ?_ hHeld
             refine one_ (i := 2) (N := some 45) (upTo 3 32) rfl rfl (one_of HT_.out (by kernel_rfl)) (by decide) (fun K hK => ?_)
             refine goes_ Try.func40 (by kernel_rfl) rfl #[.int .i64 ((rd_T67 l0_1 x38_2).f0), .int .i64 1, .int .i64 9] (by rfl) rfl rfl (by (try simp only [mA, mB, mC]); first | done | rfl | (simp only [mD, mE]; rfl)) ?_
             with_reducible refine (impl_within.calls ((rd_T67 l0_1 x38_2).f0) 1 9 true _ A42.out).mono ?_
             rintro e w' ⟨rfl, ⟨nd, rfl⟩⟩
             refine ⟨_, rfl, ?_⟩
             refine hK.out _ _ ⟨(kC BK107.out 0).trans rfl, (kC BK107.out 1).trans rfl, (kC BK107.out 2).trans rfl, (kC BK101.out 0).trans rfl, (kC BK101.out 1).trans rfl, (pw_cell_below HB.out hw109_0), (pw_cell_below HB.out hw109_1), (pw_cell_below HB.out hw109_2)⟩ (fun hHeld => ?_)
             clear hK K
             refine norm_ (a' := ?_) ?_ ?_
             rotate_left
             ·
              show Act.put _ (some 45) _ = _
              simp only [Act.put, sA, sB, sC, i64_w, i32_w]
              rfl
             refine pF 3 4 32 46 ?_
             refine pF 4 5 32 47 ?_
             refine pF 5 6 32 48 ?_
             refine pF 6 7 32 49 ?_
             refine pF 7 8 32 50 ?_
             refine pF 8 9 32 51 ?_
             refine pF2 10 53 impl_isBroker.b6 ?_
             refine pF2 11 54 impl_isBroker.b7 ?_
             refine pF2 15 58 impl_isBroker.b8 ?_
             refine pT2 9 52 impl_isBroker.b9 ?_ hHeld
             refine pF2 12 55 impl_isBroker.b10 ?_
             refine pF2 13 56 impl_isBroker.b11 ?_
             refine pT2 14 57 (upTo 16 32) ?_ hHeld
             refine pT2 16 59 (upTo 17 32) ?_ hHeld
             refine pF 17 18 32 60 ?_
             refine pF 18 19 32 61 ?_
             refine pF 19 20 32 62 ?_
             refine pF 20 21 32 63 ?_
             refine pU 21 22 32 64 ?_
             refine pU 22 23 32 65 ?_
             refine pU 23 24 32 66 ?_
             refine pU 24 25 32 67 ?_
             refine pF 25 26 32 68 ?_
             refine pF 26 27 32 69 ?_
             refine pU 27 28 32 70 ?_
             refine pU 28 29 32 71 ?_
             refine pU 29 30 32 72 ?_
             refine pU 30 31 32 73 ?_
             refine pF 31 32 32 74 ?_
             refine done_ (done_of HT_.out (by kernel_rfl)) ?_
             try go_wp2
             go_ret
             exact ⟨by first | rfl | (simp [errW_none, errW_some] <;> rfl) | (simp only [← hji45]; first | rfl | (simp [errW_none, errW_some] <;> rfl)) | (simp [*, errW_none, errW_some] <;> rfl), bX HB.out⟩
            rw [if_neg c48] at H
            have c48b0 : decide (((rd_T67 l0_1 x38_2).f0) ≤ ((rd_T67 l0_1 (ji45)).f0)) = false := decide_eq_false c48
            clear c48
            replace H := Option.bind_eq_some_iff.mp H
            obtain ⟨t110, A540, H⟩ := H
            replace H : (if t110 = true then (if (((rd_T67 l0_1 x38_2).f2).size : Int) > 900 then (some false) else (impl_isBroker.l1 k2 l0_1 (l0_1.length : Int) (wrap64 (x38_2 + 1)) l0_0 l0_1)) else (some false)) = some r := H
            have A54 := AM A540
            clear A540
            by_cases c55 : t110 = true
            ·
             subst c55
             have H1 : (if (((rd_T67 l0_1 x38_2).f2).size : Int) > 900 then (some false) else (impl_isBroker.l1 k2 l0_1 (l0_1.length : Int) (wrap64 (x38_2 + 1)) l0_0 l0_1)) = some r := by rw [if_pos rfl] at H; exact H
             clear H
             have H := H1
             clear H1
             by_cases c56 : (((rd_T67 l0_1 x38_2).f2).size : Int) > 900
             ·
              rw [if_pos c56] at H
              have c56b0 : decide (900 < (((rd_T67 l0_1 x38_2).f2).size : Int)) = true := decide_eq_true c56
              have c56b1 : decide (900 < ((rd_T67 l0_1 x38_2).f2).size) = true := decide_eq_true (by omega)
              clear c56
              obtain rfl := Option.some.inj H
              have p106 : 0 ≤ (x38_2 : Int) := of_decide_eq_true (by assumption)
              have q106 : x38_2 < (l0_1.length : Int) := of_decide_eq_true (by assumption)
              obtain ⟨ad106, e106, hx106_0, hx106_1, hx106_2⟩ := at_T67 HR0_1.out x38_2 p106 q106
              cases e106
              replace hx106_0 := pw_cell_below HB.out hx106_0
              replace hx106_1 := pw_cell_below HB.out hx106_1
              replace hx106_2 := pw_cell_below HB.out hx106_2
              replace p106 := eq_true p106
              replace q106 := eq_true q106
              try go_wp2_with (first | ((with_reducible refine gate_dst (N := 6) rfl ?_); (try (refine gate_guard (by rfl) ?_; dsimp only)); refine box_event (by rfl) (N := 6) (by rfl) (cs := #[.int .i64 0, .int .i64 0, .string (⟨#[]⟩ : ByteArray)]) (t := 67) (by first | (go_simp; done) | (go_simp; rfl)) ?_; intro gb107 hg w57 hbox hb; have _ := AM (nB BK101.out hb); have _ := AM (below_step (bX HB.out) hb); have _ := AM (hbox); have n3_ := AM ((by rw [hg]; exact (bZ (bX HB.out)) : w.heap.size ≤ gb107)); have _ := AM (lX hg BK101.out); have _ := AM (lX hg BK101.out).symm; clear BK101 HB; rename_i BK101 HB BK107 NB101_107 NB107_101; have GW107 := n3_; have GE107 := n3_; clear n3_; clear hb hbox hg; have hnb58 := NB107_101.out; have hnc58 := NB101_107.out; have hcz59 := q3 BK107.out; have hfz59 := fZ BK107.out))
              have n0_ : Aside0 ((((w57.setCell ⟨gb107, 0, none⟩ (.int .i64 ((rd_T67 l0_1 x38_2).f0))).setCell ⟨gb107, 1, none⟩ (.int .i64 ((rd_T67 l0_1 x38_2).f1))).setCell ⟨gb107, 2, none⟩ (.string ((rd_T67 l0_1 x38_2).f2))).heap[gb101]? = some (.cells #[.slice A0_0 l0_0.length c0_0, .slice (some ad106) l0_1.length c0_1] 35 (0, 0))) := ⟨by (iterate 3 refine kF NB101_107.out ?_); (with_reducible repeat (first | apply kN | apply kD | apply kA)); exact BK101.out⟩
              have n1_ : Aside0 ((((w57.setCell ⟨gb107, 0, none⟩ (.int .i64 ((rd_T67 l0_1 x38_2).f0))).setCell ⟨gb107, 1, none⟩ (.int .i64 ((rd_T67 l0_1 x38_2).f1))).setCell ⟨gb107, 2, none⟩ (.string ((rd_T67 l0_1 x38_2).f2))).heap[gb107]? = some (.cells #[.int .i64 ((rd_T67 l0_1 x38_2).f0), .int .i64 ((rd_T67 l0_1 x38_2).f1), .string ((rd_T67 l0_1 x38_2).f2)] 67 (0, 0))) := ⟨by refine kP (cs := #[.int .i64 ((rd_T67 l0_1 x38_2).f0), .int .i64 ((rd_T67 l0_1 x38_2).f1), .string (⟨#[]⟩ : ByteArray)]) 2 ?_; refine kP (cs := #[.int .i64 ((rd_T67 l0_1 x38_2).f0), .int .i64 0, .string (⟨#[]⟩ : ByteArray)]) 1 ?_; refine kP (cs := #[.int .i64 0, .int .i64 0, .string (⟨#[]⟩ : ByteArray)]) 0 ?_; (with_reducible repeat (first | apply kN | apply kD | apply kA)); exact BK107.out⟩
              have n2_ : Aside0 (Below w.heap.size w (((w57.setCell ⟨gb107, 0, none⟩ (.int .i64 ((rd_T67 l0_1 x38_2).f0))).setCell ⟨gb107, 1, none⟩ (.int .i64 ((rd_T67 l0_1 x38_2).f1))).setCell ⟨gb107, 2, none⟩ (.string ((rd_T67 l0_1 x38_2).f2)))) := ⟨bX HB.out⟩
              (try clear BK101)
              (try clear BK107)
              (try clear HB)
              generalize (((w57.setCell ⟨gb107, 0, none⟩ (.int .i64 ((rd_T67 l0_1 x38_2).f0))).setCell ⟨gb107, 1, none⟩ (.int .i64 ((rd_T67 l0_1 x38_2).f1))).setCell ⟨gb107, 2, none⟩ (.string ((rd_T67 l0_1 x38_2).f2))) = w60 at n0_ n1_ n2_ ⊢
              have BK101 := n0_
              have BK107 := n1_
              have HB := n2_
              clear n0_ n1_ n2_
              have _ := AM (kD BK101.out)
              have _ := AM (kD BK107.out)
              have _ := AM (bD HB.out)
              clear BK101 BK107 HB
              rename_i BK101 BK107 HB
              have p109 : 0 ≤ ((ji45) : Int) := of_decide_eq_true (by assumption)
              have q109 : (ji45) < (l0_1.length : Int) := of_decide_eq_true (by assumption)
              obtain ⟨ad109, e109, hx109_0, hx109_1, hx109_2⟩ := at_T67 HR0_1.out (ji45) p109 q109
              have hw109_2 := hx109_2
              have hw109_1 := hx109_1
              have hw109_0 := hx109_0
              obtain rfl : ad106 = ad109 := (by injection e109)
              replace hx109_0 := pw_cell_below HB.out hx109_0
              replace hx109_1 := pw_cell_below HB.out hx109_1
              replace hx109_2 := pw_cell_below HB.out hx109_2
              replace p109 := eq_true p109
              replace q109 := eq_true q109
              refine start_ (n := 32) (S := fun w' => w'.cell? ⟨gb107, 0, none⟩ = some (.int .i64 ((rd_T67 l0_1 x38_2).f0)) ∧ w'.cell? ⟨gb107, 1, none⟩ = some (.int .i64 ((rd_T67 l0_1 x38_2).f1)) ∧ w'.cell? ⟨gb107, 2, none⟩ = some (.string ((rd_T67 l0_1 x38_2).f2)) ∧ w'.cell? ⟨gb101, 0, none⟩ = some (.slice A0_0 l0_0.length c0_0) ∧ w'.cell? ⟨gb101, 1, none⟩ = some (.slice (some ad106) l0_1.length c0_1) ∧ w'.cell? (ad106.add (((ji45)).toNat * 3)) = some (.int .i64 ((rd_T67 l0_1 (ji45)).f0)) ∧ w'.cell? ⟨(ad106.add (((ji45)).toNat * 3)).block, (ad106.add (((ji45)).toNat * 3)).off + 1, none⟩ = some (.int .i64 ((rd_T67 l0_1 (ji45)).f1)) ∧ w'.cell? ⟨(ad106.add (((ji45)).toNat * 3)).block, (ad106.add (((ji45)).toNat * 3)).off + 2, none⟩ = some (.string ((rd_T67 l0_1 (ji45)).f2))) (ds := []) (upTo 0 32) (by kernel_rfl) rfl rfl ⟨(kC BK107.out 0).trans rfl, (kC BK107.out 1).trans rfl, (kC BK107.out 2).trans rfl, (kC BK101.out 0).trans rfl, (kC BK101.out 1).trans rfl, (pw_cell_below HB.out hw109_0), (pw_cell_below HB.out hw109_1), (pw_cell_below HB.out hw109_2)⟩ (fun hHeld => ?_); refine with_tabW impl_isBroker.tab10 impl_isBroker.bits10 (fun HT_ HW_ => ?_)
              generalize w60.drew = w61 at BK101 BK107 HB hx109_0 hx109_1 hx109_2 hHeld ⊢
              refine pF 0 1 32 43 ?_
              refine pT2 1 44 (upTo 2 32) ?_ hHeld
              refine one_ (i := 2) (N := some 45) (upTo 3 32) rfl rfl (one_of HT_.out (by kernel_rfl)) (by decide) (fun K hK => ?_)
              refine goes_ Try.func40 (by kernel_rfl) rfl #[.int .i64 ((rd_T67 l0_1 x38_2).f0), .int .i64 1, .int .i64 9] (by rfl) rfl rfl (by (try simp only [mA, mB, mC]); first | done | rfl | (simp only [mD, mE]; rfl)) ?_
              with_reducible refine (impl_within.calls ((rd_T67 l0_1 x38_2).f0) 1 9 true _ A42.out).mono ?_
              rintro e w' ⟨rfl, ⟨nd, rfl⟩⟩
              refine ⟨_, rfl, ?_⟩
              refine hK.out _ _ ⟨(kC BK107.out 0).trans rfl, (kC BK107.out 1).trans rfl, (kC BK107.out 2).trans rfl, (kC BK101.out 0).trans rfl, (kC BK101.out 1).trans rfl, (pw_cell_below HB.out hw109_0), (pw_cell_below HB.out hw109_1), (pw_cell_below HB.out hw109_2)⟩ (fun hHeld => ?_)
              clear hK K
              refine norm_ (a' := ?_) ?_ ?_
              rotate_left
              ·
               show Act.put _ (some 45) _ = _
               simp only [Act.put, sA, sB, sC, i64_w, i32_w]
               rfl
              refine pF 3 4 32 46 ?_
              refine pF 4 5 32 47 ?_
              refine pF 5 6 32 48 ?_
              refine pF 6 7 32 49 ?_
              refine pF 7 8 32 50 ?_
              refine pF 8 9 32 51 ?_
              refine pF2 10 53 impl_isBroker.b6 ?_
              refine pF2 11 54 impl_isBroker.b7 ?_
              refine pF2 15 58 impl_isBroker.b8 ?_
              refine pT2 9 52 impl_isBroker.b9 ?_ hHeld
              refine pF2 12 55 impl_isBroker.b10 ?_
              refine pF2 13 56 impl_isBroker.b11 ?_
              refine pT2 14 57 (upTo 16 32) ?_ hHeld
              refine pT2 16 59 (upTo 17 32) ?_ hHeld
              refine pF 17 18 32 60 ?_
              refine pF 18 19 32 61 ?_
              refine pF 19 20 32 62 ?_
              refine pF 20 21 32 63 ?_
              refine pF 21 22 32 64 ?_
              refine pT2 22 65 (upTo 23 32) ?_ hHeld
              refine one_ (i := 23) (N := some 66) (upTo 24 32) rfl rfl (one_of HT_.out (by kernel_rfl)) (by decide) (fun K hK => ?_)
              refine goes_ Try.func40 (by kernel_rfl) rfl #[.int .i64 ((rd_T67 l0_1 x38_2).f1), .int .i64 1, .int .i64 1000000000] (by rfl) rfl rfl (by (try simp only [mA, mB, mC]); first | done | rfl | (simp only [mD, mE]; rfl)) ?_
              with_reducible refine (impl_within.calls ((rd_T67 l0_1 x38_2).f1) 1 1000000000 true _ A54.out).mono ?_
              rintro e w' ⟨rfl, ⟨nd, rfl⟩⟩
              refine ⟨_, rfl, ?_⟩
              refine hK.out _ _ ⟨(kC BK107.out 0).trans rfl, (kC BK107.out 1).trans rfl, (kC BK107.out 2).trans rfl, (kC BK101.out 0).trans rfl, (kC BK101.out 1).trans rfl, (pw_cell_below HB.out hw109_0), (pw_cell_below HB.out hw109_1), (pw_cell_below HB.out hw109_2)⟩ (fun hHeld => ?_)
              clear hK K
              refine norm_ (a' := ?_) ?_ ?_
              rotate_left
              ·
               show Act.put _ (some 66) _ = _
               simp only [Act.put, sA, sB, sC, i64_w, i32_w]
               rfl
              refine pF 24 25 32 67 ?_
              refine pF 25 26 32 68 ?_
              refine pF 26 27 32 69 ?_
              refine pF 27 28 32 70 ?_
              refine pT2 28 71 (upTo 29 32) ?_ hHeld
              refine pF 29 30 32 72 ?_
              refine pF 30 31 32 73 ?_
              refine pF 31 32 32 74 ?_
              refine done_ (done_of HT_.out (by kernel_rfl)) ?_
              try go_wp2
              go_ret
              exact ⟨by first | rfl | (simp [errW_none, errW_some] <;> rfl) | (simp only [← hji45]; first | rfl | (simp [errW_none, errW_some] <;> rfl)) | (simp [*, errW_none, errW_some] <;> rfl), bX HB.out⟩
             rw [if_neg c56] at H
             have c56b0 : decide (900 < (((rd_T67 l0_1 x38_2).f2).size : Int)) = false := decide_eq_false c56
             have c56b1 : decide (900 < ((rd_T67 l0_1 x38_2).f2).size) = false := decide_eq_false (by omega)
             clear c56
             have H' := AM H
             clear H
             have p106 : 0 ≤ (x38_2 : Int) := of_decide_eq_true (by assumption)
             have q106 : x38_2 < (l0_1.length : Int) := of_decide_eq_true (by assumption)
             obtain ⟨ad106, e106, hx106_0, hx106_1, hx106_2⟩ := at_T67 HR0_1.out x38_2 p106 q106
             cases e106
             replace hx106_0 := pw_cell_below HB.out hx106_0
             replace hx106_1 := pw_cell_below HB.out hx106_1
             replace hx106_2 := pw_cell_below HB.out hx106_2
             replace p106 := eq_true p106
             replace q106 := eq_true q106
             try go_wp2_with (first | ((with_reducible refine gate_dst (N := 6) rfl ?_); (try (refine gate_guard (by rfl) ?_; dsimp only)); refine box_event (by rfl) (N := 6) (by rfl) (cs := #[.int .i64 0, .int .i64 0, .string (⟨#[]⟩ : ByteArray)]) (t := 67) (by first | (go_simp; done) | (go_simp; rfl)) ?_; intro gb107 hg w62 hbox hb; have _ := AM (nB BK101.out hb); have _ := AM (below_step (bX HB.out) hb); have _ := AM (hbox); have n3_ := AM ((by rw [hg]; exact (bZ (bX HB.out)) : w.heap.size ≤ gb107)); have _ := AM (lX hg BK101.out); have _ := AM (lX hg BK101.out).symm; clear BK101 HB; rename_i BK101 HB BK107 NB101_107 NB107_101; have GW107 := n3_; have GE107 := n3_; clear n3_; clear hb hbox hg; have hnb63 := NB107_101.out; have hnc63 := NB101_107.out; have hcz64 := q3 BK107.out; have hfz64 := fZ BK107.out))
             have n0_ : Aside0 ((((w62.setCell ⟨gb107, 0, none⟩ (.int .i64 ((rd_T67 l0_1 x38_2).f0))).setCell ⟨gb107, 1, none⟩ (.int .i64 ((rd_T67 l0_1 x38_2).f1))).setCell ⟨gb107, 2, none⟩ (.string ((rd_T67 l0_1 x38_2).f2))).heap[gb101]? = some (.cells #[.slice A0_0 l0_0.length c0_0, .slice (some ad106) l0_1.length c0_1] 35 (0, 0))) := ⟨by (iterate 3 refine kF NB101_107.out ?_); (with_reducible repeat (first | apply kN | apply kD | apply kA)); exact BK101.out⟩
             have n1_ : Aside0 ((((w62.setCell ⟨gb107, 0, none⟩ (.int .i64 ((rd_T67 l0_1 x38_2).f0))).setCell ⟨gb107, 1, none⟩ (.int .i64 ((rd_T67 l0_1 x38_2).f1))).setCell ⟨gb107, 2, none⟩ (.string ((rd_T67 l0_1 x38_2).f2))).heap[gb107]? = some (.cells #[.int .i64 ((rd_T67 l0_1 x38_2).f0), .int .i64 ((rd_T67 l0_1 x38_2).f1), .string ((rd_T67 l0_1 x38_2).f2)] 67 (0, 0))) := ⟨by refine kP (cs := #[.int .i64 ((rd_T67 l0_1 x38_2).f0), .int .i64 ((rd_T67 l0_1 x38_2).f1), .string (⟨#[]⟩ : ByteArray)]) 2 ?_; refine kP (cs := #[.int .i64 ((rd_T67 l0_1 x38_2).f0), .int .i64 0, .string (⟨#[]⟩ : ByteArray)]) 1 ?_; refine kP (cs := #[.int .i64 0, .int .i64 0, .string (⟨#[]⟩ : ByteArray)]) 0 ?_; (with_reducible repeat (first | apply kN | apply kD | apply kA)); exact BK107.out⟩
             have n2_ : Aside0 (Below w.heap.size w (((w62.setCell ⟨gb107, 0, none⟩ (.int .i64 ((rd_T67 l0_1 x38_2).f0))).setCell ⟨gb107, 1, none⟩ (.int .i64 ((rd_T67 l0_1 x38_2).f1))).setCell ⟨gb107, 2, none⟩ (.string ((rd_T67 l0_1 x38_2).f2)))) := ⟨bX HB.out⟩
             (try clear BK101)
             (try clear BK107)
             (try clear HB)
             generalize (((w62.setCell ⟨gb107, 0, none⟩ (.int .i64 ((rd_T67 l0_1 x38_2).f0))).setCell ⟨gb107, 1, none⟩ (.int .i64 ((rd_T67 l0_1 x38_2).f1))).setCell ⟨gb107, 2, none⟩ (.string ((rd_T67 l0_1 x38_2).f2))) = w65 at n0_ n1_ n2_ ⊢
             have BK101 := n0_
             have BK107 := n1_
             have HB := n2_
             clear n0_ n1_ n2_
             have _ := AM (kD BK101.out)
             have _ := AM (kD BK107.out)
             have _ := AM (bD HB.out)
             clear BK101 BK107 HB
             rename_i BK101 BK107 HB
             have p109 : 0 ≤ ((ji45) : Int) := of_decide_eq_true (by assumption)
             have q109 : (ji45) < (l0_1.length : Int) := of_decide_eq_true (by assumption)
             obtain ⟨ad109, e109, hx109_0, hx109_1, hx109_2⟩ := at_T67 HR0_1.out (ji45) p109 q109
             have hw109_2 := hx109_2
             have hw109_1 := hx109_1
             have hw109_0 := hx109_0
             obtain rfl : ad106 = ad109 := (by injection e109)
             replace hx109_0 := pw_cell_below HB.out hx109_0
             replace hx109_1 := pw_cell_below HB.out hx109_1
             replace hx109_2 := pw_cell_below HB.out hx109_2
             replace p109 := eq_true p109
             replace q109 := eq_true q109
             refine start_ (n := 32) (S := fun w' => w'.cell? ⟨gb107, 0, none⟩ = some (.int .i64 ((rd_T67 l0_1 x38_2).f0)) ∧ w'.cell? ⟨gb107, 1, none⟩ = some (.int .i64 ((rd_T67 l0_1 x38_2).f1)) ∧ w'.cell? ⟨gb107, 2, none⟩ = some (.string ((rd_T67 l0_1 x38_2).f2)) ∧ w'.cell? ⟨gb101, 0, none⟩ = some (.slice A0_0 l0_0.length c0_0) ∧ w'.cell? ⟨gb101, 1, none⟩ = some (.slice (some ad106) l0_1.length c0_1) ∧ w'.cell? (ad106.add (((ji45)).toNat * 3)) = some (.int .i64 ((rd_T67 l0_1 (ji45)).f0)) ∧ w'.cell? ⟨(ad106.add (((ji45)).toNat * 3)).block, (ad106.add (((ji45)).toNat * 3)).off + 1, none⟩ = some (.int .i64 ((rd_T67 l0_1 (ji45)).f1)) ∧ w'.cell? ⟨(ad106.add (((ji45)).toNat * 3)).block, (ad106.add (((ji45)).toNat * 3)).off + 2, none⟩ = some (.string ((rd_T67 l0_1 (ji45)).f2))) (ds := []) (upTo 0 32) (by kernel_rfl) rfl rfl ⟨(kC BK107.out 0).trans rfl, (kC BK107.out 1).trans rfl, (kC BK107.out 2).trans rfl, (kC BK101.out 0).trans rfl, (kC BK101.out 1).trans rfl, (pw_cell_below HB.out hw109_0), (pw_cell_below HB.out hw109_1), (pw_cell_below HB.out hw109_2)⟩ (fun hHeld => ?_); refine with_tabW impl_isBroker.tab10 impl_isBroker.bits10 (fun HT_ HW_ => ?_)
             generalize w65.drew = w66 at BK101 BK107 HB hx109_0 hx109_1 hx109_2 hHeld ⊢
             refine pF 0 1 32 43 ?_
             refine pT2 1 44 (upTo 2 32) ?_ hHeld
             refine one_ (i := 2) (N := some 45) (upTo 3 32) rfl rfl (one_of HT_.out (by kernel_rfl)) (by decide) (fun K hK => ?_)
             refine goes_ Try.func40 (by kernel_rfl) rfl #[.int .i64 ((rd_T67 l0_1 x38_2).f0), .int .i64 1, .int .i64 9] (by rfl) rfl rfl (by (try simp only [mA, mB, mC]); first | done | rfl | (simp only [mD, mE]; rfl)) ?_
             with_reducible refine (impl_within.calls ((rd_T67 l0_1 x38_2).f0) 1 9 true _ A42.out).mono ?_
             rintro e w' ⟨rfl, ⟨nd, rfl⟩⟩
             refine ⟨_, rfl, ?_⟩
             refine hK.out _ _ ⟨(kC BK107.out 0).trans rfl, (kC BK107.out 1).trans rfl, (kC BK107.out 2).trans rfl, (kC BK101.out 0).trans rfl, (kC BK101.out 1).trans rfl, (pw_cell_below HB.out hw109_0), (pw_cell_below HB.out hw109_1), (pw_cell_below HB.out hw109_2)⟩ (fun hHeld => ?_)
             clear hK K
             refine norm_ (a' := ?_) ?_ ?_
             rotate_left
             ·
              show Act.put _ (some 45) _ = _
              simp only [Act.put, sA, sB, sC, i64_w, i32_w]
              rfl
             refine pF 3 4 32 46 ?_
             refine pF 4 5 32 47 ?_
             refine pF 5 6 32 48 ?_
             refine pF 6 7 32 49 ?_
             refine pF 7 8 32 50 ?_
             refine pF 8 9 32 51 ?_
             refine pF2 10 53 impl_isBroker.b6 ?_
             refine pF2 11 54 impl_isBroker.b7 ?_
             refine pF2 15 58 impl_isBroker.b8 ?_
             refine pT2 9 52 impl_isBroker.b9 ?_ hHeld
             refine pF2 12 55 impl_isBroker.b10 ?_
             refine pF2 13 56 impl_isBroker.b11 ?_
             refine pT2 14 57 (upTo 16 32) ?_ hHeld
             refine pT2 16 59 (upTo 17 32) ?_ hHeld
             refine pF 17 18 32 60 ?_
             refine pF 18 19 32 61 ?_
             refine pF 19 20 32 62 ?_
             refine pF 20 21 32 63 ?_
             refine pF 21 22 32 64 ?_
             refine pT2 22 65 (upTo 23 32) ?_ hHeld
             refine one_ (i := 23) (N := some 66) (upTo 24 32) rfl rfl (one_of HT_.out (by kernel_rfl)) (by decide) (fun K hK => ?_)
             refine goes_ Try.func40 (by kernel_rfl) rfl #[.int .i64 ((rd_T67 l0_1 x38_2).f1), .int .i64 1, .int .i64 1000000000] (by rfl) rfl rfl (by (try simp only [mA, mB, mC]); first | done | rfl | (simp only [mD, mE]; rfl)) ?_
             with_reducible refine (impl_within.calls ((rd_T67 l0_1 x38_2).f1) 1 1000000000 true _ A54.out).mono ?_
             rintro e w' ⟨rfl, ⟨nd, rfl⟩⟩
             refine ⟨_, rfl, ?_⟩
             refine hK.out _ _ ⟨(kC BK107.out 0).trans rfl, (kC BK107.out 1).trans rfl, (kC BK107.out 2).trans rfl, (kC BK101.out 0).trans rfl, (kC BK101.out 1).trans rfl, (pw_cell_below HB.out hw109_0), (pw_cell_below HB.out hw109_1), (pw_cell_below HB.out hw109_2)⟩ (fun hHeld => ?_)
             clear hK K
             refine norm_ (a' := ?_) ?_ ?_
             rotate_left
             ·
              show Act.put _ (some 66) _ = _
              simp only [Act.put, sA, sB, sC, i64_w, i32_w]
              rfl
             refine pF 24 25 32 67 ?_
             refine pF 25 26 32 68 ?_
             refine pF 26 27 32 69 ?_
             refine pF 27 28 32 70 ?_
             refine pT2 28 71 (upTo 29 32) ?_ hHeld
             refine pF 29 30 32 72 ?_
             refine pF 30 31 32 73 ?_
             refine pF 31 32 32 74 ?_
             refine done_ (done_of HT_.out (by kernel_rfl)) ?_
             try go_wp2
             go_roundg k2
             case measure => have := HK1.out; have := HK2.out; omega
             case rel => exact ⟨(wrap64 (x38_2 + 1)), (by first | rfl | (simp; done) | (simp [*]; done)), H', ⟨by have := HK1.out; have := HK2.out; omega⟩, ⟨kX BK101.out⟩, ⟨bX HB.out⟩⟩
            replace c55 := Bool.eq_false_iff.mpr c55
            subst c55
            have H1 : (some false) = some r := by rw [if_neg (show ¬ (false = true) by decide)] at H; exact H
            clear H
            have H := H1
            clear H1
            obtain rfl := Option.some.inj H
            have p106 : 0 ≤ (x38_2 : Int) := of_decide_eq_true (by assumption)
            have q106 : x38_2 < (l0_1.length : Int) := of_decide_eq_true (by assumption)
            obtain ⟨ad106, e106, hx106_0, hx106_1, hx106_2⟩ := at_T67 HR0_1.out x38_2 p106 q106
            cases e106
            replace hx106_0 := pw_cell_below HB.out hx106_0
            replace hx106_1 := pw_cell_below HB.out hx106_1
            replace hx106_2 := pw_cell_below HB.out hx106_2
            replace p106 := eq_true p106
            replace q106 := eq_true q106
            try go_wp2_with (first | ((with_reducible refine gate_dst (N := 6) rfl ?_); (try (refine gate_guard (by rfl) ?_; dsimp only)); refine box_event (by rfl) (N := 6) (by rfl) (cs := #[.int .i64 0, .int .i64 0, .string (⟨#[]⟩ : ByteArray)]) (t := 67) (by first | (go_simp; done) | (go_simp; rfl)) ?_; intro gb107 hg w67 hbox hb; have _ := AM (nB BK101.out hb); have _ := AM (below_step (bX HB.out) hb); have _ := AM (hbox); have n3_ := AM ((by rw [hg]; exact (bZ (bX HB.out)) : w.heap.size ≤ gb107)); have _ := AM (lX hg BK101.out); have _ := AM (lX hg BK101.out).symm; clear BK101 HB; rename_i BK101 HB BK107 NB101_107 NB107_101; have GW107 := n3_; have GE107 := n3_; clear n3_; clear hb hbox hg; have hnb68 := NB107_101.out; have hnc68 := NB101_107.out; have hcz69 := q3 BK107.out; have hfz69 := fZ BK107.out))
            have n0_ : Aside0 ((((w67.setCell ⟨gb107, 0, none⟩ (.int .i64 ((rd_T67 l0_1 x38_2).f0))).setCell ⟨gb107, 1, none⟩ (.int .i64 ((rd_T67 l0_1 x38_2).f1))).setCell ⟨gb107, 2, none⟩ (.string ((rd_T67 l0_1 x38_2).f2))).heap[gb101]? = some (.cells #[.slice A0_0 l0_0.length c0_0, .slice (some ad106) l0_1.length c0_1] 35 (0, 0))) := ⟨by (iterate 3 refine kF NB101_107.out ?_); (with_reducible repeat (first | apply kN | apply kD | apply kA)); exact BK101.out⟩
            have n1_ : Aside0 ((((w67.setCell ⟨gb107, 0, none⟩ (.int .i64 ((rd_T67 l0_1 x38_2).f0))).setCell ⟨gb107, 1, none⟩ (.int .i64 ((rd_T67 l0_1 x38_2).f1))).setCell ⟨gb107, 2, none⟩ (.string ((rd_T67 l0_1 x38_2).f2))).heap[gb107]? = some (.cells #[.int .i64 ((rd_T67 l0_1 x38_2).f0), .int .i64 ((rd_T67 l0_1 x38_2).f1), .string ((rd_T67 l0_1 x38_2).f2)] 67 (0, 0))) := ⟨by refine kP (cs := #[.int .i64 ((rd_T67 l0_1 x38_2).f0), .int .i64 ((rd_T67 l0_1 x38_2).f1), .string (⟨#[]⟩ : ByteArray)]) 2 ?_; refine kP (cs := #[.int .i64 ((rd_T67 l0_1 x38_2).f0), .int .i64 0, .string (⟨#[]⟩ : ByteArray)]) 1 ?_; refine kP (cs := #[.int .i64 0, .int .i64 0, .string (⟨#[]⟩ : ByteArray)]) 0 ?_; (with_reducible repeat (first | apply kN | apply kD | apply kA)); exact BK107.out⟩
            have n2_ : Aside0 (Below w.heap.size w (((w67.setCell ⟨gb107, 0, none⟩ (.int .i64 ((rd_T67 l0_1 x38_2).f0))).setCell ⟨gb107, 1, none⟩ (.int .i64 ((rd_T67 l0_1 x38_2).f1))).setCell ⟨gb107, 2, none⟩ (.string ((rd_T67 l0_1 x38_2).f2)))) := ⟨bX HB.out⟩
            (try clear BK101)
            (try clear BK107)
            (try clear HB)
            generalize (((w67.setCell ⟨gb107, 0, none⟩ (.int .i64 ((rd_T67 l0_1 x38_2).f0))).setCell ⟨gb107, 1, none⟩ (.int .i64 ((rd_T67 l0_1 x38_2).f1))).setCell ⟨gb107, 2, none⟩ (.string ((rd_T67 l0_1 x38_2).f2))) = w70 at n0_ n1_ n2_ ⊢
            have BK101 := n0_
            have BK107 := n1_
            have HB := n2_
            clear n0_ n1_ n2_
            have _ := AM (kD BK101.out)
            have _ := AM (kD BK107.out)
            have _ := AM (bD HB.out)
            clear BK101 BK107 HB
            rename_i BK101 BK107 HB
            have p109 : 0 ≤ ((ji45) : Int) := of_decide_eq_true (by assumption)
            have q109 : (ji45) < (l0_1.length : Int) := of_decide_eq_true (by assumption)
            obtain ⟨ad109, e109, hx109_0, hx109_1, hx109_2⟩ := at_T67 HR0_1.out (ji45) p109 q109
            have hw109_2 := hx109_2
            have hw109_1 := hx109_1
            have hw109_0 := hx109_0
            obtain rfl : ad106 = ad109 := (by injection e109)
            replace hx109_0 := pw_cell_below HB.out hx109_0
            replace hx109_1 := pw_cell_below HB.out hx109_1
            replace hx109_2 := pw_cell_below HB.out hx109_2
            replace p109 := eq_true p109
            replace q109 := eq_true q109
            refine start_ (n := 32) (S := fun w' => w'.cell? ⟨gb107, 0, none⟩ = some (.int .i64 ((rd_T67 l0_1 x38_2).f0)) ∧ w'.cell? ⟨gb107, 1, none⟩ = some (.int .i64 ((rd_T67 l0_1 x38_2).f1)) ∧ w'.cell? ⟨gb107, 2, none⟩ = some (.string ((rd_T67 l0_1 x38_2).f2)) ∧ w'.cell? ⟨gb101, 0, none⟩ = some (.slice A0_0 l0_0.length c0_0) ∧ w'.cell? ⟨gb101, 1, none⟩ = some (.slice (some ad106) l0_1.length c0_1) ∧ w'.cell? (ad106.add (((ji45)).toNat * 3)) = some (.int .i64 ((rd_T67 l0_1 (ji45)).f0)) ∧ w'.cell? ⟨(ad106.add (((ji45)).toNat * 3)).block, (ad106.add (((ji45)).toNat * 3)).off + 1, none⟩ = some (.int .i64 ((rd_T67 l0_1 (ji45)).f1)) ∧ w'.cell? ⟨(ad106.add (((ji45)).toNat * 3)).block, (ad106.add (((ji45)).toNat * 3)).off + 2, none⟩ = some (.string ((rd_T67 l0_1 (ji45)).f2))) (ds := []) (upTo 0 32) (by kernel_rfl) rfl rfl ⟨(kC BK107.out 0).trans rfl, (kC BK107.out 1).trans rfl, (kC BK107.out 2).trans rfl, (kC BK101.out 0).trans rfl, (kC BK101.out 1).trans rfl, (pw_cell_below HB.out hw109_0), (pw_cell_below HB.out hw109_1), (pw_cell_below HB.out hw109_2)⟩ (fun hHeld => ?_); refine with_tabW impl_isBroker.tab10 impl_isBroker.bits10 (fun HT_ HW_ => ?_)
            generalize w70.drew = w71 at BK101 BK107 HB hx109_0 hx109_1 hx109_2 hHeld ⊢
            refine pF 0 1 32 43 ?_
            refine pT2 1 44 (upTo 2 32) ?_ hHeld
            refine one_ (i := 2) (N := some 45) (upTo 3 32) rfl rfl (one_of HT_.out (by kernel_rfl)) (by decide) (fun K hK => ?_)
            refine goes_ Try.func40 (by kernel_rfl) rfl #[.int .i64 ((rd_T67 l0_1 x38_2).f0), .int .i64 1, .int .i64 9] (by rfl) rfl rfl (by (try simp only [mA, mB, mC]); first | done | rfl | (simp only [mD, mE]; rfl)) ?_
            with_reducible refine (impl_within.calls ((rd_T67 l0_1 x38_2).f0) 1 9 true _ A42.out).mono ?_
            rintro e w' ⟨rfl, ⟨nd, rfl⟩⟩
            refine ⟨_, rfl, ?_⟩
            refine hK.out _ _ ⟨(kC BK107.out 0).trans rfl, (kC BK107.out 1).trans rfl, (kC BK107.out 2).trans rfl, (kC BK101.out 0).trans rfl, (kC BK101.out 1).trans rfl, (pw_cell_below HB.out hw109_0), (pw_cell_below HB.out hw109_1), (pw_cell_below HB.out hw109_2)⟩ (fun hHeld => ?_)
            clear hK K
            refine norm_ (a' := ?_) ?_ ?_
            rotate_left
            ·
             show Act.put _ (some 45) _ = _
             simp only [Act.put, sA, sB, sC, i64_w, i32_w]
             rfl
            refine pF 3 4 32 46 ?_
            refine pF 4 5 32 47 ?_
            refine pF 5 6 32 48 ?_
            refine pF 6 7 32 49 ?_
            refine pF 7 8 32 50 ?_
            refine pF 8 9 32 51 ?_
            refine pF2 10 53 impl_isBroker.b6 ?_
            refine pF2 11 54 impl_isBroker.b7 ?_
            refine pF2 15 58 impl_isBroker.b8 ?_
            refine pT2 9 52 impl_isBroker.b9 ?_ hHeld
            refine pF2 12 55 impl_isBroker.b10 ?_
            refine pF2 13 56 impl_isBroker.b11 ?_
            refine pT2 14 57 (upTo 16 32) ?_ hHeld
            refine pT2 16 59 (upTo 17 32) ?_ hHeld
            refine pF 17 18 32 60 ?_
            refine pF 18 19 32 61 ?_
            refine pF 19 20 32 62 ?_
            refine pF 20 21 32 63 ?_
            refine pF 21 22 32 64 ?_
            refine pT2 22 65 (upTo 23 32) ?_ hHeld
            refine one_ (i := 23) (N := some 66) (upTo 24 32) rfl rfl (one_of HT_.out (by kernel_rfl)) (by decide) (fun K hK => ?_)
            refine goes_ Try.func40 (by kernel_rfl) rfl #[.int .i64 ((rd_T67 l0_1 x38_2).f1), .int .i64 1, .int .i64 1000000000] (by rfl) rfl rfl (by (try simp only [mA, mB, mC]); first | done | rfl | (simp only [mD, mE]; rfl)) ?_
            with_reducible refine (impl_within.calls ((rd_T67 l0_1 x38_2).f1) 1 1000000000 false _ A54.out).mono ?_
            rintro e w' ⟨rfl, ⟨nd, rfl⟩⟩
            refine ⟨_, rfl, ?_⟩
            refine hK.out _ _ ⟨(kC BK107.out 0).trans rfl, (kC BK107.out 1).trans rfl, (kC BK107.out 2).trans rfl, (kC BK101.out 0).trans rfl, (kC BK101.out 1).trans rfl, (pw_cell_below HB.out hw109_0), (pw_cell_below HB.out hw109_1), (pw_cell_below HB.out hw109_2)⟩ (fun hHeld => ?_)
            clear hK K
            refine norm_ (a' := ?_) ?_ ?_
            rotate_left
            ·
             show Act.put _ (some 66) _ = _
             simp only [Act.put, sA, sB, sC, i64_w, i32_w]
             rfl
            refine pF 24 25 32 67 ?_
            refine pF 25 26 32 68 ?_
            refine pF 26 27 32 69 ?_
            refine pU 27 28 32 70 ?_
            refine pU 28 29 32 71 ?_
            refine pU 29 30 32 72 ?_
            refine pU 30 31 32 73 ?_
            refine pF 31 32 32 74 ?_
            refine done_ (done_of HT_.out (by kernel_rfl)) ?_
            try go_wp2
            go_ret
            exact ⟨by first | rfl | (simp [errW_none, errW_some] <;> rfl) | (simp only [← hji45]; first | rfl | (simp [errW_none, errW_some] <;> rfl)) | (simp [*, errW_none, errW_some] <;> rfl), bX HB.out⟩
           rw [if_neg c47] at H
           exact absurd H (by simp)
          rw [if_neg c46] at H
          exact absurd H (by simp)
         rw [if_neg c44] at H
         have c44b0 : decide (0 < x38_2) = false := decide_eq_false c44
         clear c44
         replace H := Option.bind_eq_some_iff.mp H
         obtain ⟨t111, A720, H⟩ := H
         replace H : (if t111 = true then (if (((rd_T67 l0_1 x38_2).f2).size : Int) > 900 then (some false) else (impl_isBroker.l1 k2 l0_1 (l0_1.length : Int) (wrap64 (x38_2 + 1)) l0_0 l0_1)) else (some false)) = some r := H
         have A72 := AM A720
         clear A720
         by_cases c73 : t111 = true
         ·
          subst c73
          have H1 : (if (((rd_T67 l0_1 x38_2).f2).size : Int) > 900 then (some false) else (impl_isBroker.l1 k2 l0_1 (l0_1.length : Int) (wrap64 (x38_2 + 1)) l0_0 l0_1)) = some r := by rw [if_pos rfl] at H; exact H
          clear H
          have H := H1
          clear H1
          by_cases c74 : (((rd_T67 l0_1 x38_2).f2).size : Int) > 900
          ·
           rw [if_pos c74] at H
           have c74b0 : decide (900 < (((rd_T67 l0_1 x38_2).f2).size : Int)) = true := decide_eq_true c74
           have c74b1 : decide (900 < ((rd_T67 l0_1 x38_2).f2).size) = true := decide_eq_true (by omega)
           clear c74
           obtain rfl := Option.some.inj H
           have p106 : 0 ≤ (x38_2 : Int) := of_decide_eq_true (by assumption)
           have q106 : x38_2 < (l0_1.length : Int) := of_decide_eq_true (by assumption)
           obtain ⟨ad106, e106, hx106_0, hx106_1, hx106_2⟩ := at_T67 HR0_1.out x38_2 p106 q106
           cases e106
           replace hx106_0 := pw_cell_below HB.out hx106_0
           replace hx106_1 := pw_cell_below HB.out hx106_1
           replace hx106_2 := pw_cell_below HB.out hx106_2
           replace p106 := eq_true p106
           replace q106 := eq_true q106
           try go_wp2_with (first | ((with_reducible refine gate_dst (N := 6) rfl ?_); (try (refine gate_guard (by rfl) ?_; dsimp only)); refine box_event (by rfl) (N := 6) (by rfl) (cs := #[.int .i64 0, .int .i64 0, .string (⟨#[]⟩ : ByteArray)]) (t := 67) (by first | (go_simp; done) | (go_simp; rfl)) ?_; intro gb107 hg w75 hbox hb; have _ := AM (nB BK101.out hb); have _ := AM (below_step (bX HB.out) hb); have _ := AM (hbox); have n3_ := AM ((by rw [hg]; exact (bZ (bX HB.out)) : w.heap.size ≤ gb107)); have _ := AM (lX hg BK101.out); have _ := AM (lX hg BK101.out).symm; clear BK101 HB; rename_i BK101 HB BK107 NB101_107 NB107_101; have GW107 := n3_; have GE107 := n3_; clear n3_; clear hb hbox hg; have hnb76 := NB107_101.out; have hnc76 := NB101_107.out; have hcz77 := q3 BK107.out; have hfz77 := fZ BK107.out))
           have n0_ : Aside0 ((((w75.setCell ⟨gb107, 0, none⟩ (.int .i64 ((rd_T67 l0_1 x38_2).f0))).setCell ⟨gb107, 1, none⟩ (.int .i64 ((rd_T67 l0_1 x38_2).f1))).setCell ⟨gb107, 2, none⟩ (.string ((rd_T67 l0_1 x38_2).f2))).heap[gb101]? = some (.cells #[.slice A0_0 l0_0.length c0_0, .slice (some ad106) l0_1.length c0_1] 35 (0, 0))) := ⟨by (iterate 3 refine kF NB101_107.out ?_); (with_reducible repeat (first | apply kN | apply kD | apply kA)); exact BK101.out⟩
           have n1_ : Aside0 ((((w75.setCell ⟨gb107, 0, none⟩ (.int .i64 ((rd_T67 l0_1 x38_2).f0))).setCell ⟨gb107, 1, none⟩ (.int .i64 ((rd_T67 l0_1 x38_2).f1))).setCell ⟨gb107, 2, none⟩ (.string ((rd_T67 l0_1 x38_2).f2))).heap[gb107]? = some (.cells #[.int .i64 ((rd_T67 l0_1 x38_2).f0), .int .i64 ((rd_T67 l0_1 x38_2).f1), .string ((rd_T67 l0_1 x38_2).f2)] 67 (0, 0))) := ⟨by refine kP (cs := #[.int .i64 ((rd_T67 l0_1 x38_2).f0), .int .i64 ((rd_T67 l0_1 x38_2).f1), .string (⟨#[]⟩ : ByteArray)]) 2 ?_; refine kP (cs := #[.int .i64 ((rd_T67 l0_1 x38_2).f0), .int .i64 0, .string (⟨#[]⟩ : ByteArray)]) 1 ?_; refine kP (cs := #[.int .i64 0, .int .i64 0, .string (⟨#[]⟩ : ByteArray)]) 0 ?_; (with_reducible repeat (first | apply kN | apply kD | apply kA)); exact BK107.out⟩
           have n2_ : Aside0 (Below w.heap.size w (((w75.setCell ⟨gb107, 0, none⟩ (.int .i64 ((rd_T67 l0_1 x38_2).f0))).setCell ⟨gb107, 1, none⟩ (.int .i64 ((rd_T67 l0_1 x38_2).f1))).setCell ⟨gb107, 2, none⟩ (.string ((rd_T67 l0_1 x38_2).f2)))) := ⟨bX HB.out⟩
           (try clear BK101)
           (try clear BK107)
           (try clear HB)
           generalize (((w75.setCell ⟨gb107, 0, none⟩ (.int .i64 ((rd_T67 l0_1 x38_2).f0))).setCell ⟨gb107, 1, none⟩ (.int .i64 ((rd_T67 l0_1 x38_2).f1))).setCell ⟨gb107, 2, none⟩ (.string ((rd_T67 l0_1 x38_2).f2))) = w78 at n0_ n1_ n2_ ⊢
           have BK101 := n0_
           have BK107 := n1_
           have HB := n2_
           clear n0_ n1_ n2_
           have _ := AM (kD BK101.out)
           have _ := AM (kD BK107.out)
           have _ := AM (bD HB.out)
           clear BK101 BK107 HB
           rename_i BK101 BK107 HB
           refine start_ (n := 32) (S := fun w' => w'.cell? ⟨gb107, 0, none⟩ = some (.int .i64 ((rd_T67 l0_1 x38_2).f0)) ∧ w'.cell? ⟨gb107, 1, none⟩ = some (.int .i64 ((rd_T67 l0_1 x38_2).f1)) ∧ w'.cell? ⟨gb107, 2, none⟩ = some (.string ((rd_T67 l0_1 x38_2).f2))) (ds := []) (upTo 0 32) (by kernel_rfl) rfl rfl ⟨(kC BK107.out 0).trans rfl, (kC BK107.out 1).trans rfl, (kC BK107.out 2).trans rfl⟩ (fun hHeld => ?_); refine with_tabW impl_isBroker.tab10 impl_isBroker.bits10 (fun HT_ HW_ => ?_)
           generalize w78.drew = w79 at BK101 BK107 HB hHeld ⊢
           refine pF 0 1 32 43 ?_
           refine pT2 1 44 (upTo 2 32) ?_ hHeld
           refine one_ (i := 2) (N := some 45) (upTo 3 32) rfl rfl (one_of HT_.out (by kernel_rfl)) (by decide) (fun K hK => ?_)
           refine goes_ Try.func40 (by kernel_rfl) rfl #[.int .i64 ((rd_T67 l0_1 x38_2).f0), .int .i64 1, .int .i64 9] (by rfl) rfl rfl (by (try simp only [mA, mB, mC]); first | done | rfl | (simp only [mD, mE]; rfl)) ?_
           with_reducible refine (impl_within.calls ((rd_T67 l0_1 x38_2).f0) 1 9 true _ A42.out).mono ?_
           rintro e w' ⟨rfl, ⟨nd, rfl⟩⟩
           refine ⟨_, rfl, ?_⟩
           refine hK.out _ _ (q3 BK107.out) (fun hHeld => ?_)
           clear hK K
           refine norm_ (a' := ?_) ?_ ?_
           rotate_left
           ·
            show Act.put _ (some 45) _ = _
            simp only [Act.put, sA, sB, sC, i64_w, i32_w]
            rfl
           refine pF 3 4 32 46 ?_
           refine pF 4 5 32 47 ?_
           refine pF 5 6 32 48 ?_
           refine pF 6 7 32 49 ?_
           refine pF 7 8 32 50 ?_
           refine pU 8 9 32 51 ?_
           refine pU 9 10 32 52 ?_
           refine pU 10 11 32 53 ?_
           refine pU 11 12 32 54 ?_
           refine pU 12 13 32 55 ?_
           refine pU 13 14 32 56 ?_
           refine pU 14 15 32 57 ?_
           refine pU 15 16 32 58 ?_
           refine pU 16 17 32 59 ?_
           refine pU 17 18 32 60 ?_
           refine pF 18 19 32 61 ?_
           refine pF 19 20 32 62 ?_
           refine pF 20 21 32 63 ?_
           refine pF 21 22 32 64 ?_
           refine pT2 22 65 (upTo 23 32) ?_ hHeld
           refine one_ (i := 23) (N := some 66) (upTo 24 32) rfl rfl (one_of HT_.out (by kernel_rfl)) (by decide) (fun K hK => ?_)
           refine goes_ Try.func40 (by kernel_rfl) rfl #[.int .i64 ((rd_T67 l0_1 x38_2).f1), .int .i64 1, .int .i64 1000000000] (by rfl) rfl rfl (by (try simp only [mA, mB, mC]); first | done | rfl | (simp only [mD, mE]; rfl)) ?_
           with_reducible refine (impl_within.calls ((rd_T67 l0_1 x38_2).f1) 1 1000000000 true _ A72.out).mono ?_
           rintro e w' ⟨rfl, ⟨nd, rfl⟩⟩
           refine ⟨_, rfl, ?_⟩
           refine hK.out _ _ (q3 BK107.out) (fun hHeld => ?_)
           clear hK K
           refine norm_ (a' := ?_) ?_ ?_
           rotate_left
           ·
            show Act.put _ (some 66) _ = _
            simp only [Act.put, sA, sB, sC, i64_w, i32_w]
            rfl
           refine pF 24 25 32 67 ?_
           refine pF 25 26 32 68 ?_
           refine pF 26 27 32 69 ?_
           refine pF 27 28 32 70 ?_
           refine pT2 28 71 (upTo 29 32) ?_ hHeld
           refine pF 29 30 32 72 ?_
           refine pF 30 31 32 73 ?_
           refine pF 31 32 32 74 ?_
           refine done_ (done_of HT_.out (by kernel_rfl)) ?_
           try go_wp2
           go_ret
           exact ⟨by first | rfl | (simp [*, errW_none, errW_some] <;> rfl), bX HB.out⟩
          rw [if_neg c74] at H
          have c74b0 : decide (900 < (((rd_T67 l0_1 x38_2).f2).size : Int)) = false := decide_eq_false c74
          have c74b1 : decide (900 < ((rd_T67 l0_1 x38_2).f2).size) = false := decide_eq_false (by omega)
          clear c74
          have H' := AM H
          clear H
          have p106 : 0 ≤ (x38_2 : Int) := of_decide_eq_true (by assumption)
          have q106 : x38_2 < (l0_1.length : Int) := of_decide_eq_true (by assumption)
          obtain ⟨ad106, e106, hx106_0, hx106_1, hx106_2⟩ := at_T67 HR0_1.out x38_2 p106 q106
          cases e106
          replace hx106_0 := pw_cell_below HB.out hx106_0
          replace hx106_1 := pw_cell_below HB.out hx106_1
          replace hx106_2 := pw_cell_below HB.out hx106_2
          replace p106 := eq_true p106
          replace q106 := eq_true q106
          try go_wp2_with (first | ((with_reducible refine gate_dst (N := 6) rfl ?_); (try (refine gate_guard (by rfl) ?_; dsimp only)); refine box_event (by rfl) (N := 6) (by rfl) (cs := #[.int .i64 0, .int .i64 0, .string (⟨#[]⟩ : ByteArray)]) (t := 67) (by first | (go_simp; done) | (go_simp; rfl)) ?_; intro gb107 hg w80 hbox hb; have _ := AM (nB BK101.out hb); have _ := AM (below_step (bX HB.out) hb); have _ := AM (hbox); have n3_ := AM ((by rw [hg]; exact (bZ (bX HB.out)) : w.heap.size ≤ gb107)); have _ := AM (lX hg BK101.out); have _ := AM (lX hg BK101.out).symm; clear BK101 HB; rename_i BK101 HB BK107 NB101_107 NB107_101; have GW107 := n3_; have GE107 := n3_; clear n3_; clear hb hbox hg; have hnb81 := NB107_101.out; have hnc81 := NB101_107.out; have hcz82 := q3 BK107.out; have hfz82 := fZ BK107.out))
          have n0_ : Aside0 ((((w80.setCell ⟨gb107, 0, none⟩ (.int .i64 ((rd_T67 l0_1 x38_2).f0))).setCell ⟨gb107, 1, none⟩ (.int .i64 ((rd_T67 l0_1 x38_2).f1))).setCell ⟨gb107, 2, none⟩ (.string ((rd_T67 l0_1 x38_2).f2))).heap[gb101]? = some (.cells #[.slice A0_0 l0_0.length c0_0, .slice (some ad106) l0_1.length c0_1] 35 (0, 0))) := ⟨by (iterate 3 refine kF NB101_107.out ?_); (with_reducible repeat (first | apply kN | apply kD | apply kA)); exact BK101.out⟩
          have n1_ : Aside0 ((((w80.setCell ⟨gb107, 0, none⟩ (.int .i64 ((rd_T67 l0_1 x38_2).f0))).setCell ⟨gb107, 1, none⟩ (.int .i64 ((rd_T67 l0_1 x38_2).f1))).setCell ⟨gb107, 2, none⟩ (.string ((rd_T67 l0_1 x38_2).f2))).heap[gb107]? = some (.cells #[.int .i64 ((rd_T67 l0_1 x38_2).f0), .int .i64 ((rd_T67 l0_1 x38_2).f1), .string ((rd_T67 l0_1 x38_2).f2)] 67 (0, 0))) := ⟨by refine kP (cs := #[.int .i64 ((rd_T67 l0_1 x38_2).f0), .int .i64 ((rd_T67 l0_1 x38_2).f1), .string (⟨#[]⟩ : ByteArray)]) 2 ?_; refine kP (cs := #[.int .i64 ((rd_T67 l0_1 x38_2).f0), .int .i64 0, .string (⟨#[]⟩ : ByteArray)]) 1 ?_; refine kP (cs := #[.int .i64 0, .int .i64 0, .string (⟨#[]⟩ : ByteArray)]) 0 ?_; (with_reducible repeat (first | apply kN | apply kD | apply kA)); exact BK107.out⟩
          have n2_ : Aside0 (Below w.heap.size w (((w80.setCell ⟨gb107, 0, none⟩ (.int .i64 ((rd_T67 l0_1 x38_2).f0))).setCell ⟨gb107, 1, none⟩ (.int .i64 ((rd_T67 l0_1 x38_2).f1))).setCell ⟨gb107, 2, none⟩ (.string ((rd_T67 l0_1 x38_2).f2)))) := ⟨bX HB.out⟩
          (try clear BK101)
          (try clear BK107)
          (try clear HB)
          generalize (((w80.setCell ⟨gb107, 0, none⟩ (.int .i64 ((rd_T67 l0_1 x38_2).f0))).setCell ⟨gb107, 1, none⟩ (.int .i64 ((rd_T67 l0_1 x38_2).f1))).setCell ⟨gb107, 2, none⟩ (.string ((rd_T67 l0_1 x38_2).f2))) = w83 at n0_ n1_ n2_ ⊢
          have BK101 := n0_
          have BK107 := n1_
          have HB := n2_
          clear n0_ n1_ n2_
          have _ := AM (kD BK101.out)
          have _ := AM (kD BK107.out)
          have _ := AM (bD HB.out)
          clear BK101 BK107 HB
          rename_i BK101 BK107 HB
          refine start_ (n := 32) (S := fun w' => w'.cell? ⟨gb107, 0, none⟩ = some (.int .i64 ((rd_T67 l0_1 x38_2).f0)) ∧ w'.cell? ⟨gb107, 1, none⟩ = some (.int .i64 ((rd_T67 l0_1 x38_2).f1)) ∧ w'.cell? ⟨gb107, 2, none⟩ = some (.string ((rd_T67 l0_1 x38_2).f2))) (ds := []) (upTo 0 32) (by kernel_rfl) rfl rfl ⟨(kC BK107.out 0).trans rfl, (kC BK107.out 1).trans rfl, (kC BK107.out 2).trans rfl⟩ (fun hHeld => ?_); refine with_tabW impl_isBroker.tab10 impl_isBroker.bits10 (fun HT_ HW_ => ?_)
          generalize w83.drew = w84 at BK101 BK107 HB hHeld ⊢
          refine pF 0 1 32 43 ?_
          refine pT2 1 44 (upTo 2 32) ?_ hHeld
          refine one_ (i := 2) (N := some 45) (upTo 3 32) rfl rfl (one_of HT_.out (by kernel_rfl)) (by decide) (fun K hK => ?_)
          refine goes_ Try.func40 (by kernel_rfl) rfl #[.int .i64 ((rd_T67 l0_1 x38_2).f0), .int .i64 1, .int .i64 9] (by rfl) rfl rfl (by (try simp only [mA, mB, mC]); first | done | rfl | (simp only [mD, mE]; rfl)) ?_
          with_reducible refine (impl_within.calls ((rd_T67 l0_1 x38_2).f0) 1 9 true _ A42.out).mono ?_
          rintro e w' ⟨rfl, ⟨nd, rfl⟩⟩
          refine ⟨_, rfl, ?_⟩
          refine hK.out _ _ (q3 BK107.out) (fun hHeld => ?_)
          clear hK K
          refine norm_ (a' := ?_) ?_ ?_
          rotate_left
          ·
           show Act.put _ (some 45) _ = _
           simp only [Act.put, sA, sB, sC, i64_w, i32_w]
           rfl
          refine pF 3 4 32 46 ?_
          refine pF 4 5 32 47 ?_
          refine pF 5 6 32 48 ?_
          refine pF 6 7 32 49 ?_
          refine pF 7 8 32 50 ?_
          refine pU 8 9 32 51 ?_
          refine pU 9 10 32 52 ?_
          refine pU 10 11 32 53 ?_
          refine pU 11 12 32 54 ?_
          refine pU 12 13 32 55 ?_
          refine pU 13 14 32 56 ?_
          refine pU 14 15 32 57 ?_
          refine pU 15 16 32 58 ?_
          refine pU 16 17 32 59 ?_
          refine pU 17 18 32 60 ?_
          refine pF 18 19 32 61 ?_
          refine pF 19 20 32 62 ?_
          refine pF 20 21 32 63 ?_
          refine pF 21 22 32 64 ?_
          refine pT2 22 65 (upTo 23 32) ?_ hHeld
          refine one_ (i := 23) (N := some 66) (upTo 24 32) rfl rfl (one_of HT_.out (by kernel_rfl)) (by decide) (fun K hK => ?_)
          refine goes_ Try.func40 (by kernel_rfl) rfl #[.int .i64 ((rd_T67 l0_1 x38_2).f1), .int .i64 1, .int .i64 1000000000] (by rfl) rfl rfl (by (try simp only [mA, mB, mC]); first | done | rfl | (simp only [mD, mE]; rfl)) ?_
          with_reducible refine (impl_within.calls ((rd_T67 l0_1 x38_2).f1) 1 1000000000 true _ A72.out).mono ?_
          rintro e w' ⟨rfl, ⟨nd, rfl⟩⟩
          refine ⟨_, rfl, ?_⟩
          refine hK.out _ _ (q3 BK107.out) (fun hHeld => ?_)
          clear hK K
          refine norm_ (a' := ?_) ?_ ?_
          rotate_left
          ·
           show Act.put _ (some 66) _ = _
           simp only [Act.put, sA, sB, sC, i64_w, i32_w]
           rfl
          refine pF 24 25 32 67 ?_
          refine pF 25 26 32 68 ?_
          refine pF 26 27 32 69 ?_
          refine pF 27 28 32 70 ?_
          refine pT2 28 71 (upTo 29 32) ?_ hHeld
          refine pF 29 30 32 72 ?_
          refine pF 30 31 32 73 ?_
          refine pF 31 32 32 74 ?_
          refine done_ (done_of HT_.out (by kernel_rfl)) ?_
          try go_wp2
          go_roundg k2
          case measure => have := HK1.out; have := HK2.out; omega
          case rel => exact ⟨(wrap64 (x38_2 + 1)), (by first | rfl | (simp; done) | (simp [*]; done)), H', ⟨by have := HK1.out; have := HK2.out; omega⟩, ⟨kX BK101.out⟩, ⟨bX HB.out⟩⟩
         replace c73 := Bool.eq_false_iff.mpr c73
         subst c73
         have H1 : (some false) = some r := by rw [if_neg (show ¬ (false = true) by decide)] at H; exact H
         clear H
         have H := H1
         clear H1
         obtain rfl := Option.some.inj H
         have p106 : 0 ≤ (x38_2 : Int) := of_decide_eq_true (by assumption)
         have q106 : x38_2 < (l0_1.length : Int) := of_decide_eq_true (by assumption)
         obtain ⟨ad106, e106, hx106_0, hx106_1, hx106_2⟩ := at_T67 HR0_1.out x38_2 p106 q106
         cases e106
         replace hx106_0 := pw_cell_below HB.out hx106_0
         replace hx106_1 := pw_cell_below HB.out hx106_1
         replace hx106_2 := pw_cell_below HB.out hx106_2
         replace p106 := eq_true p106
         replace q106 := eq_true q106
         try go_wp2_with (first | ((with_reducible refine gate_dst (N := 6) rfl ?_); (try (refine gate_guard (by rfl) ?_; dsimp only)); refine box_event (by rfl) (N := 6) (by rfl) (cs := #[.int .i64 0, .int .i64 0, .string (⟨#[]⟩ : ByteArray)]) (t := 67) (by first | (go_simp; done) | (go_simp; rfl)) ?_; intro gb107 hg w85 hbox hb; have _ := AM (nB BK101.out hb); have _ := AM (below_step (bX HB.out) hb); have _ := AM (hbox); have n3_ := AM ((by rw [hg]; exact (bZ (bX HB.out)) : w.heap.size ≤ gb107)); have _ := AM (lX hg BK101.out); have _ := AM (lX hg BK101.out).symm; clear BK101 HB; rename_i BK101 HB BK107 NB101_107 NB107_101; have GW107 := n3_; have GE107 := n3_; clear n3_; clear hb hbox hg; have hnb86 := NB107_101.out; have hnc86 := NB101_107.out; have hcz87 := q3 BK107.out; have hfz87 := fZ BK107.out))
         have n0_ : Aside0 ((((w85.setCell ⟨gb107, 0, none⟩ (.int .i64 ((rd_T67 l0_1 x38_2).f0))).setCell ⟨gb107, 1, none⟩ (.int .i64 ((rd_T67 l0_1 x38_2).f1))).setCell ⟨gb107, 2, none⟩ (.string ((rd_T67 l0_1 x38_2).f2))).heap[gb101]? = some (.cells #[.slice A0_0 l0_0.length c0_0, .slice (some ad106) l0_1.length c0_1] 35 (0, 0))) := ⟨by (iterate 3 refine kF NB101_107.out ?_); (with_reducible repeat (first | apply kN | apply kD | apply kA)); exact BK101.out⟩
         have n1_ : Aside0 ((((w85.setCell ⟨gb107, 0, none⟩ (.int .i64 ((rd_T67 l0_1 x38_2).f0))).setCell ⟨gb107, 1, none⟩ (.int .i64 ((rd_T67 l0_1 x38_2).f1))).setCell ⟨gb107, 2, none⟩ (.string ((rd_T67 l0_1 x38_2).f2))).heap[gb107]? = some (.cells #[.int .i64 ((rd_T67 l0_1 x38_2).f0), .int .i64 ((rd_T67 l0_1 x38_2).f1), .string ((rd_T67 l0_1 x38_2).f2)] 67 (0, 0))) := ⟨by refine kP (cs := #[.int .i64 ((rd_T67 l0_1 x38_2).f0), .int .i64 ((rd_T67 l0_1 x38_2).f1), .string (⟨#[]⟩ : ByteArray)]) 2 ?_; refine kP (cs := #[.int .i64 ((rd_T67 l0_1 x38_2).f0), .int .i64 0, .string (⟨#[]⟩ : ByteArray)]) 1 ?_; refine kP (cs := #[.int .i64 0, .int .i64 0, .string (⟨#[]⟩ : ByteArray)]) 0 ?_; (with_reducible repeat (first | apply kN | apply kD | apply kA)); exact BK107.out⟩
         have n2_ : Aside0 (Below w.heap.size w (((w85.setCell ⟨gb107, 0, none⟩ (.int .i64 ((rd_T67 l0_1 x38_2).f0))).setCell ⟨gb107, 1, none⟩ (.int .i64 ((rd_T67 l0_1 x38_2).f1))).setCell ⟨gb107, 2, none⟩ (.string ((rd_T67 l0_1 x38_2).f2)))) := ⟨bX HB.out⟩
         (try clear BK101)
         (try clear BK107)
         (try clear HB)
         generalize (((w85.setCell ⟨gb107, 0, none⟩ (.int .i64 ((rd_T67 l0_1 x38_2).f0))).setCell ⟨gb107, 1, none⟩ (.int .i64 ((rd_T67 l0_1 x38_2).f1))).setCell ⟨gb107, 2, none⟩ (.string ((rd_T67 l0_1 x38_2).f2))) = w88 at n0_ n1_ n2_ ⊢
         have BK101 := n0_
         have BK107 := n1_
         have HB := n2_
         clear n0_ n1_ n2_
         have _ := AM (kD BK101.out)
         have _ := AM (kD BK107.out)
         have _ := AM (bD HB.out)
         clear BK101 BK107 HB
         rename_i BK101 BK107 HB
         refine start_ (n := 32) (S := fun w' => w'.cell? ⟨gb107, 0, none⟩ = some (.int .i64 ((rd_T67 l0_1 x38_2).f0)) ∧ w'.cell? ⟨gb107, 1, none⟩ = some (.int .i64 ((rd_T67 l0_1 x38_2).f1)) ∧ w'.cell? ⟨gb107, 2, none⟩ = some (.string ((rd_T67 l0_1 x38_2).f2))) (ds := []) (upTo 0 32) (by kernel_rfl) rfl rfl ⟨(kC BK107.out 0).trans rfl, (kC BK107.out 1).trans rfl, (kC BK107.out 2).trans rfl⟩ (fun hHeld => ?_); refine with_tabW impl_isBroker.tab10 impl_isBroker.bits10 (fun HT_ HW_ => ?_)
         generalize w88.drew = w89 at BK101 BK107 HB hHeld ⊢
         refine pF 0 1 32 43 ?_
         refine pT2 1 44 (upTo 2 32) ?_ hHeld
         refine one_ (i := 2) (N := some 45) (upTo 3 32) rfl rfl (one_of HT_.out (by kernel_rfl)) (by decide) (fun K hK => ?_)
         refine goes_ Try.func40 (by kernel_rfl) rfl #[.int .i64 ((rd_T67 l0_1 x38_2).f0), .int .i64 1, .int .i64 9] (by rfl) rfl rfl (by (try simp only [mA, mB, mC]); first | done | rfl | (simp only [mD, mE]; rfl)) ?_
         with_reducible refine (impl_within.calls ((rd_T67 l0_1 x38_2).f0) 1 9 true _ A42.out).mono ?_
         rintro e w' ⟨rfl, ⟨nd, rfl⟩⟩
         refine ⟨_, rfl, ?_⟩
         refine hK.out _ _ (q3 BK107.out) (fun hHeld => ?_)
         clear hK K
         refine norm_ (a' := ?_) ?_ ?_
         rotate_left
         ·
          show Act.put _ (some 45) _ = _
          simp only [Act.put, sA, sB, sC, i64_w, i32_w]
          rfl
         refine pF 3 4 32 46 ?_
         refine pF 4 5 32 47 ?_
         refine pF 5 6 32 48 ?_
         refine pF 6 7 32 49 ?_
         refine pF 7 8 32 50 ?_
         refine pU 8 9 32 51 ?_
         refine pU 9 10 32 52 ?_
         refine pU 10 11 32 53 ?_
         refine pU 11 12 32 54 ?_
         refine pU 12 13 32 55 ?_
         refine pU 13 14 32 56 ?_
         refine pU 14 15 32 57 ?_
         refine pU 15 16 32 58 ?_
         refine pU 16 17 32 59 ?_
         refine pU 17 18 32 60 ?_
         refine pF 18 19 32 61 ?_
         refine pF 19 20 32 62 ?_
         refine pF 20 21 32 63 ?_
         refine pF 21 22 32 64 ?_
         refine pT2 22 65 (upTo 23 32) ?_ hHeld
         refine one_ (i := 23) (N := some 66) (upTo 24 32) rfl rfl (one_of HT_.out (by kernel_rfl)) (by decide) (fun K hK => ?_)
         refine goes_ Try.func40 (by kernel_rfl) rfl #[.int .i64 ((rd_T67 l0_1 x38_2).f1), .int .i64 1, .int .i64 1000000000] (by rfl) rfl rfl (by (try simp only [mA, mB, mC]); first | done | rfl | (simp only [mD, mE]; rfl)) ?_
         with_reducible refine (impl_within.calls ((rd_T67 l0_1 x38_2).f1) 1 1000000000 false _ A72.out).mono ?_
         rintro e w' ⟨rfl, ⟨nd, rfl⟩⟩
         refine ⟨_, rfl, ?_⟩
         refine hK.out _ _ (q3 BK107.out) (fun hHeld => ?_)
         clear hK K
         refine norm_ (a' := ?_) ?_ ?_
         rotate_left
         ·
          show Act.put _ (some 66) _ = _
          simp only [Act.put, sA, sB, sC, i64_w, i32_w]
          rfl
         refine pF 24 25 32 67 ?_
         refine pF 25 26 32 68 ?_
         refine pF 26 27 32 69 ?_
         refine pU 27 28 32 70 ?_
         refine pU 28 29 32 71 ?_
         refine pU 29 30 32 72 ?_
         refine pU 30 31 32 73 ?_
         refine pF 31 32 32 74 ?_
         refine done_ (done_of HT_.out (by kernel_rfl)) ?_
         try go_wp2
         go_ret
         exact ⟨by first | rfl | (simp [*, errW_none, errW_some] <;> rfl), bX HB.out⟩
        replace c43 := Bool.eq_false_iff.mpr c43
        subst c43
        have H1 : (some false) = some r := by rw [if_neg (show ¬ (false = true) by decide)] at H; exact H
        clear H
        have H := H1
        clear H1
        obtain rfl := Option.some.inj H
        have p106 : 0 ≤ (x38_2 : Int) := of_decide_eq_true (by assumption)
        have q106 : x38_2 < (l0_1.length : Int) := of_decide_eq_true (by assumption)
        obtain ⟨ad106, e106, hx106_0, hx106_1, hx106_2⟩ := at_T67 HR0_1.out x38_2 p106 q106
        cases e106
        replace hx106_0 := pw_cell_below HB.out hx106_0
        replace hx106_1 := pw_cell_below HB.out hx106_1
        replace hx106_2 := pw_cell_below HB.out hx106_2
        replace p106 := eq_true p106
        replace q106 := eq_true q106
        try go_wp2_with (first | ((with_reducible refine gate_dst (N := 6) rfl ?_); (try (refine gate_guard (by rfl) ?_; dsimp only)); refine box_event (by rfl) (N := 6) (by rfl) (cs := #[.int .i64 0, .int .i64 0, .string (⟨#[]⟩ : ByteArray)]) (t := 67) (by first | (go_simp; done) | (go_simp; rfl)) ?_; intro gb107 hg w90 hbox hb; have _ := AM (nB BK101.out hb); have _ := AM (below_step (bX HB.out) hb); have _ := AM (hbox); have n3_ := AM ((by rw [hg]; exact (bZ (bX HB.out)) : w.heap.size ≤ gb107)); have _ := AM (lX hg BK101.out); have _ := AM (lX hg BK101.out).symm; clear BK101 HB; rename_i BK101 HB BK107 NB101_107 NB107_101; have GW107 := n3_; have GE107 := n3_; clear n3_; clear hb hbox hg; have hnb91 := NB107_101.out; have hnc91 := NB101_107.out; have hcz92 := q3 BK107.out; have hfz92 := fZ BK107.out))
        have n0_ : Aside0 ((((w90.setCell ⟨gb107, 0, none⟩ (.int .i64 ((rd_T67 l0_1 x38_2).f0))).setCell ⟨gb107, 1, none⟩ (.int .i64 ((rd_T67 l0_1 x38_2).f1))).setCell ⟨gb107, 2, none⟩ (.string ((rd_T67 l0_1 x38_2).f2))).heap[gb101]? = some (.cells #[.slice A0_0 l0_0.length c0_0, .slice (some ad106) l0_1.length c0_1] 35 (0, 0))) := ⟨by (iterate 3 refine kF NB101_107.out ?_); (with_reducible repeat (first | apply kN | apply kD | apply kA)); exact BK101.out⟩
        have n1_ : Aside0 ((((w90.setCell ⟨gb107, 0, none⟩ (.int .i64 ((rd_T67 l0_1 x38_2).f0))).setCell ⟨gb107, 1, none⟩ (.int .i64 ((rd_T67 l0_1 x38_2).f1))).setCell ⟨gb107, 2, none⟩ (.string ((rd_T67 l0_1 x38_2).f2))).heap[gb107]? = some (.cells #[.int .i64 ((rd_T67 l0_1 x38_2).f0), .int .i64 ((rd_T67 l0_1 x38_2).f1), .string ((rd_T67 l0_1 x38_2).f2)] 67 (0, 0))) := ⟨by refine kP (cs := #[.int .i64 ((rd_T67 l0_1 x38_2).f0), .int .i64 ((rd_T67 l0_1 x38_2).f1), .string (⟨#[]⟩ : ByteArray)]) 2 ?_; refine kP (cs := #[.int .i64 ((rd_T67 l0_1 x38_2).f0), .int .i64 0, .string (⟨#[]⟩ : ByteArray)]) 1 ?_; refine kP (cs := #[.int .i64 0, .int .i64 0, .string (⟨#[]⟩ : ByteArray)]) 0 ?_; (with_reducible repeat (first | apply kN | apply kD | apply kA)); exact BK107.out⟩
        have n2_ : Aside0 (Below w.heap.size w (((w90.setCell ⟨gb107, 0, none⟩ (.int .i64 ((rd_T67 l0_1 x38_2).f0))).setCell ⟨gb107, 1, none⟩ (.int .i64 ((rd_T67 l0_1 x38_2).f1))).setCell ⟨gb107, 2, none⟩ (.string ((rd_T67 l0_1 x38_2).f2)))) := ⟨bX HB.out⟩
        (try clear BK101)
        (try clear BK107)
        (try clear HB)
        generalize (((w90.setCell ⟨gb107, 0, none⟩ (.int .i64 ((rd_T67 l0_1 x38_2).f0))).setCell ⟨gb107, 1, none⟩ (.int .i64 ((rd_T67 l0_1 x38_2).f1))).setCell ⟨gb107, 2, none⟩ (.string ((rd_T67 l0_1 x38_2).f2))) = w93 at n0_ n1_ n2_ ⊢
        have BK101 := n0_
        have BK107 := n1_
        have HB := n2_
        clear n0_ n1_ n2_
        have _ := AM (kD BK101.out)
        have _ := AM (kD BK107.out)
        have _ := AM (bD HB.out)
        clear BK101 BK107 HB
        rename_i BK101 BK107 HB
        refine start_ (n := 32) (S := fun w' => w'.cell? ⟨gb107, 0, none⟩ = some (.int .i64 ((rd_T67 l0_1 x38_2).f0)) ∧ w'.cell? ⟨gb107, 1, none⟩ = some (.int .i64 ((rd_T67 l0_1 x38_2).f1)) ∧ w'.cell? ⟨gb107, 2, none⟩ = some (.string ((rd_T67 l0_1 x38_2).f2))) (ds := []) (upTo 0 32) (by kernel_rfl) rfl rfl ⟨(kC BK107.out 0).trans rfl, (kC BK107.out 1).trans rfl, (kC BK107.out 2).trans rfl⟩ (fun hHeld => ?_); refine with_tabW impl_isBroker.tab10 impl_isBroker.bits10 (fun HT_ HW_ => ?_)
        generalize w93.drew = w94 at BK101 BK107 HB hHeld ⊢
        refine pF 0 1 32 43 ?_
        refine pT2 1 44 (upTo 2 32) ?_ hHeld
        refine one_ (i := 2) (N := some 45) (upTo 3 32) rfl rfl (one_of HT_.out (by kernel_rfl)) (by decide) (fun K hK => ?_)
        refine goes_ Try.func40 (by kernel_rfl) rfl #[.int .i64 ((rd_T67 l0_1 x38_2).f0), .int .i64 1, .int .i64 9] (by rfl) rfl rfl (by (try simp only [mA, mB, mC]); first | done | rfl | (simp only [mD, mE]; rfl)) ?_
        with_reducible refine (impl_within.calls ((rd_T67 l0_1 x38_2).f0) 1 9 false _ A42.out).mono ?_
        rintro e w' ⟨rfl, ⟨nd, rfl⟩⟩
        refine ⟨_, rfl, ?_⟩
        refine hK.out _ _ (q3 BK107.out) (fun hHeld => ?_)
        clear hK K
        refine norm_ (a' := ?_) ?_ ?_
        rotate_left
        ·
         show Act.put _ (some 45) _ = _
         simp only [Act.put, sA, sB, sC, i64_w, i32_w]
         rfl
        refine pF 3 4 32 46 ?_
        refine pF 4 5 32 47 ?_
        refine pU 5 6 32 48 ?_
        refine pU 6 7 32 49 ?_
        refine pU 7 8 32 50 ?_
        refine pU 8 9 32 51 ?_
        refine pU 9 10 32 52 ?_
        refine pU 10 11 32 53 ?_
        refine pU 11 12 32 54 ?_
        refine pU 12 13 32 55 ?_
        refine pU 13 14 32 56 ?_
        refine pU 14 15 32 57 ?_
        refine pU 15 16 32 58 ?_
        refine pU 16 17 32 59 ?_
        refine pU 17 18 32 60 ?_
        refine pU 18 19 32 61 ?_
        refine pF 19 20 32 62 ?_
        refine pF 20 21 32 63 ?_
        refine pU 21 22 32 64 ?_
        refine pU 22 23 32 65 ?_
        refine pU 23 24 32 66 ?_
        refine pU 24 25 32 67 ?_
        refine pF 25 26 32 68 ?_
        refine pF 26 27 32 69 ?_
        refine pU 27 28 32 70 ?_
        refine pU 28 29 32 71 ?_
        refine pU 29 30 32 72 ?_
        refine pU 30 31 32 73 ?_
        refine pF 31 32 32 74 ?_
        refine done_ (done_of HT_.out (by kernel_rfl)) ?_
        try go_wp2
        go_ret
        exact ⟨by first | rfl | (simp [*, errW_none, errW_some] <;> rfl), bX HB.out⟩
       rw [if_neg c41] at H
       exact absurd H (by simp)
      rw [if_neg c40] at H
      exact absurd H (by simp)
     rw [if_neg c39] at H
     have c39b0 : decide (x38_2 < (l0_1.length : Int)) = false := decide_eq_false c39
     clear c39
     by_cases c95 : (l0_0.length : Int) ≤ 4
     ·
      rw [if_pos c95] at H
      have c95b0 : decide ((l0_0.length : Int) ≤ 4) = true := decide_eq_true c95
      have c95b1 : decide (l0_0.length ≤ 4) = true := decide_eq_true (by omega)
      clear c95
      obtain rfl := Option.some.inj H
      have hcz96 := q2 BK101.out
      have hfz96 := fZ BK101.out
      go_wp2
      go_ret
      exact ⟨by first | rfl | (simp [*, errW_none, errW_some] <;> rfl), bX HB.out⟩
     rw [if_neg c95] at H
     have c95b0 : decide ((l0_0.length : Int) ≤ 4) = false := decide_eq_false c95
     have c95b1 : decide (l0_0.length ≤ 4) = false := decide_eq_false (by omega)
     clear c95
     obtain rfl := Option.some.inj H
     have hcz97 := q2 BK101.out
     have hfz97 := fZ BK101.out
     go_wp2
     go_ret
     exact ⟨by first | rfl | (simp [*, errW_none, errW_some] <;> rfl), bX HB.out⟩

end Go.Proofs.Ytokgloeondfkiaa.Q
