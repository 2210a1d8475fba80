/- Printed by a program of this session (wip/mp.py over the kit's print.py): functions of the translation as plain Lean functions, and that the machine's calls do what these say. -/
import Derived.Test.YtlkpjekalidkdaaQx0
import Derived.Test.YtlkpjekalidkdaaQx5
import Derived.Test.YtlkpjekalidkdaaQx7
import Derived.Test.YtlkpjekalidkdaaQx8
namespace Go.Proofs.Ytlkpjekalidkdaa.Q
open Go.RowKit Go.Proofs.Ytlkpjekalidkdaa.HB Go.Proofs.YtlkpjekalidkdaaW.PrintWords Go.Proofs.YtlkpjekalidkdaaW.PrintLast Go.Proofs.YtlkpjekalidkdaaW.PrintMore
attribute [local go_sem] max2_int min2_int max_two min_two max_three min_three max_four min_four   -- for this text's walks alone
set_option linter.unusedVariables false
set_option linter.unusedSimpArgs false

/-! ### impl_isSay: function 24 -/
abbrev impl_isSay.b0 : Array Bool := #[true, true, true, true, true, false, true, false, false, false, false, false, false, false, false, false, false, false, false, false, false, false, false, false, false, false]
abbrev impl_isSay.b1 : Array Bool := #[true, true, true, true, true, true, true, true, true, true, true, true, true, true, true, false, true, false, false, false, false, false, false, false, false, false]
abbrev impl_isSay.b2 : Array Bool := #[true, true, true, true, true, true, true, true, true, true, true, true, true, true, true, false, true, true, false, false, false, false, false, false, false, false]
abbrev impl_isSay.b3 : Array Bool := #[true, true, true, true, true, true, true, true, true, true, true, true, true, true, true, false, true, true, false, false, false, true, false, false, false, false]
abbrev impl_isSay.b4 : Array Bool := #[true, true, true, true, true, true, true, true, true, true, true, true, true, true, true, true, true, true, false, false, false, true, false, false, false, false]
abbrev impl_isSay.b5 : Array Bool := #[true, true, true, true, true, true, true, true, true, true, true, true, true, true, true, true, true, true, true, false, false, true, false, false, false, false]
abbrev impl_isSay.b6 : Array Bool := #[true, true, true, true, true, true, true, true, true, true, true, true, true, true, true, true, true, true, true, true, false, true, false, false, false, false]
abbrev impl_isSay.b7 : Array Bool := #[true, true, true, true, true, true, true, true, true, true, true, true, true, true, true, true, true, true, true, true, true, true, true, true, true, false, true, false, false, false, false, false, false]
abbrev impl_isSay.b8 : Array Bool := #[true, true, true, true, true, true, true, true, true, true, true, true, true, true, true, true, true, true, true, true, true, false, false, false, false, true, false, false, false, false]
abbrev impl_isSay.b9 : Array Bool := #[true, true, true, true, true, true, true, true, true, true, true, true, true, true, true, true, true, true, true, true, true, true, false, false, false, true, false, false, false, false]
abbrev impl_isSay.b10 : Array Bool := #[true, true, true, true, true, true, true, true, true, true, true, true, true, true, true, true, true, true, true, true, true, true, true, false, false, true, false, false, false, false]
abbrev impl_isSay.b11 : Array Bool := #[true, true, true, true, true, true, true, true, true, true, true, true, true, true, true, true, true, true, true, true, true, true, true, true, false, true, false, false, false, false]
abbrev impl_isSay.b12 : Array Bool := #[true, true, true, true, true, false, true, false, false, false, false, false, false, false, false, false, false, false, false, false, false, false, false, false, false, false, false, false]
mutual
def impl_isSay.l0 : Nat → List (S41) → Int → Int → Int → Int → Int → Int → ByteArray → List (S41) → Option (Bool)
  | 0, _, _, _, _, _, _, _, _, _ => none
  | k + 1, x10, x11, x12, x102000, x102001, x102002, x102003, x102004, x102005 => if x12 < x11 then (if 0 ≤ x12 then (if x12 < (x10.length : Int) then ((impl_isChange.f k ((rd_T41 x10 x12).f0) ((rd_T41 x10 x12).f1) ((rd_T41 x10 x12).f2)).bind fun t105 => (if t105 = true then (if ((rd_T41 x10 x12).f1) = x102002 then (if x12 > 0 then (if 0 ≤ (wrap64 (x12 - 1)) then (if (wrap64 (x12 - 1)) < (x102005.length : Int) then (if ((rd_T41 x102005 (wrap64 (x12 - 1))).f0) ≥ ((rd_T41 x10 x12).f0) then (some false) else (impl_isSay.l0 k x10 x11 (wrap64 (x12 + 1)) x102000 x102001 x102002 x102003 x102004 x102005)) else (none)) else (none)) else (impl_isSay.l0 k x10 x11 (wrap64 (x12 + 1)) x102000 x102001 x102002 x102003 x102004 x102005)) else (some false)) else (some false))) else (none)) else (none)) else (if x102000 = 1 then (impl_isSay.j1 k x102000 (x102000 == 1) x102000 x102001 x102002 x102003 x102004 x102005) else (if x102000 = 2 then (impl_isSay.j1 k x102000 (x102000 == 2) x102000 x102001 x102002 x102003 x102004 x102005) else (impl_isSay.j1 k x102000 (x102000 == 3) x102000 x102001 x102002 x102003 x102004 x102005)))
def impl_isSay.j1 : Nat → Int → Bool → Int → Int → Int → Int → ByteArray → List (S41) → Option (Bool)
  | 0, _, _, _, _, _, _, _, _ => none
  | k + 1, x45, x46, x102000, x102001, x102002, x102003, x102004, x102005 => if x46 = true then ((impl_isView.f x102002 0).bind fun t107 => (if t107 = true then ((impl_isSeq.f x102003).bind fun t108 => (if t108 = true then ((impl_isOp.f x102004).bind fun t109 => (if t109 = true then (if (x102005.length : Int) = 0 then (if x102000 = 1 then ((impl_leader.f x102002).bind fun t110 => (some (x102001 == t110))) else (some true)) else (some false)) else (some false))) else (some false))) else (some false))) else (if x45 = 4 then ((impl_isView.f x102002 1).bind fun t111 => (if t111 = true then (if x102003 = 0 then (if x102004.toList = ([] : List UInt8) then (if (x102005.length : Int) = 1 then (if 0 < (x102005.length : Int) then (some (((rd_T41 x102005 0).f0) == x102001)) else (none)) else (some false)) else (some false)) else (some false)) else (some false))) else (if x45 = 5 then ((impl_isView.f x102002 1).bind fun t113 => (if t113 = true then ((impl_leader.f x102002).bind fun t114 => (if x102001 = t114 then (if x102003 = 0 then (if x102004.toList = ([] : List UInt8) then ((impl_Change.f x102005).bind fun t115 => ((impl_within.f t115 3 4).bind fun t116 => (some t116))) else (some false)) else (some false)) else (some false))) else (some false))) else (some false)))
end
def impl_isSay.f (k : Nat) (a0_0 : Int) (a0_1 : Int) (a0_2 : Int) (a0_3 : Int) (a0_4 : ByteArray) (l0_5 : List (S41)) : Option (Bool) := (impl_isReplica.f a0_1).bind fun t102 => (if t102 = true then (impl_isSay.l0 k l0_5 (l0_5.length : Int) 0 a0_0 a0_1 a0_2 a0_3 a0_4 l0_5) else (some false))
theorem impl_isSay.mono_l : ∀ k, (∀ y0 y1 y2 y3 y4 y5 y6 y7 y8, LeO (impl_isSay.l0 k y0 y1 y2 y3 y4 y5 y6 y7 y8) (impl_isSay.l0 (k + 1) y0 y1 y2 y3 y4 y5 y6 y7 y8)) ∧ (∀ y0 y1 y2 y3 y4 y5 y6 y7, LeO (impl_isSay.j1 k y0 y1 y2 y3 y4 y5 y6 y7) (impl_isSay.j1 (k + 1) y0 y1 y2 y3 y4 y5 y6 y7))
  | 0 => ⟨fun _ _ _ _ _ _ _ _ _ r h => by simp [impl_isSay.l0] at h, fun _ _ _ _ _ _ _ _ r h => by simp [impl_isSay.j1] at h⟩
  | k + 1 => by
    obtain ⟨ih0, ih1⟩ := impl_isSay.mono_l k
    refine ⟨?_, ?_⟩
    · intro y0 y1 y2 y3 y4 y5 y6 y7 y8
      unfold impl_isSay.l0
      repeat' first
      | (with_reducible exact ih0 _ _ _ _ _ _ _ _ _)
      | (with_reducible exact ih1 _ _ _ _ _ _ _ _)
      | (with_reducible exact impl_isChange.mono _ _ _ _)
      | (with_reducible exact LeO.refl _)
      | (with_reducible exact LeO.none _)
      | (with_reducible refine LeO.ite ?_ ?_)
      | (with_reducible refine LeO.bind ?_ (fun _ => ?_))
      | exact ih0 _ _ _ _ _ _ _ _ _
      | exact ih1 _ _ _ _ _ _ _ _
      | exact impl_isChange.mono _ _ _ _
      | exact LeO.none _
      | refine LeO.ite ?_ ?_
      | refine LeO.bind ?_ (fun _ => ?_)
    · intro y0 y1 y2 y3 y4 y5 y6 y7
      unfold impl_isSay.j1
      repeat' first
      | (with_reducible exact ih0 _ _ _ _ _ _ _ _ _)
      | (with_reducible exact ih1 _ _ _ _ _ _ _ _)
      | (with_reducible exact impl_isChange.mono _ _ _ _)
      | (with_reducible exact LeO.refl _)
      | (with_reducible exact LeO.none _)
      | (with_reducible refine LeO.ite ?_ ?_)
      | (with_reducible refine LeO.bind ?_ (fun _ => ?_))
      | exact ih0 _ _ _ _ _ _ _ _ _
      | exact ih1 _ _ _ _ _ _ _ _
      | exact impl_isChange.mono _ _ _ _
      | exact LeO.none _
      | refine LeO.ite ?_ ?_
      | refine LeO.bind ?_ (fun _ => ?_)
theorem impl_isSay.mono : ∀ a0 a1 a2 a3 a4 a5 k, LeO (impl_isSay.f k a0 a1 a2 a3 a4 a5) (impl_isSay.f (k + 1) a0 a1 a2 a3 a4 a5) := by
  intro a0 a1 a2 a3 a4 a5 k
  obtain ⟨ih0, ih1⟩ := impl_isSay.mono_l k
  unfold impl_isSay.f
  repeat' first
      | (with_reducible exact ih0 _ _ _ _ _ _ _ _ _)
      | (with_reducible exact ih1 _ _ _ _ _ _ _ _)
      | (with_reducible exact impl_isChange.mono _ _ _ _)
      | (with_reducible exact LeO.refl _)
      | (with_reducible exact LeO.none _)
      | (with_reducible refine LeO.ite ?_ ?_)
      | (with_reducible refine LeO.bind ?_ (fun _ => ?_))
      | exact ih0 _ _ _ _ _ _ _ _ _
      | exact ih1 _ _ _ _ _ _ _ _
      | exact impl_isChange.mono _ _ _ _
      | exact LeO.none _
      | refine LeO.ite ?_ ?_
      | refine LeO.bind ?_ (fun _ => ?_)
def impl_isSay.T6 : Bool × List (List Nat × List Nat) := (true, [([], []), ([0], [0]), ([1], [1]), ([2, 1], [2]), ([3], [3]), ([4, 3], [3, 4]), ([3], [3]), ([6, 3], [3, 6]), ([5, 7, 3], [3, 5, 7]), ([3, 8], [3, 8]), ([9, 3], [9]), ([10], [10]), ([11, 10], [10, 11]), ([12, 10, 10], [10, 12]), ([13], [13]), ([14, 13], [13, 14]), ([13], [13]), ([16, 13], [13, 16]), ([15, 17, 13], [13, 15, 17]), ([18, 13], [13, 18]), ([19, 13], [13, 19]), ([13], [13]), ([21, 13], [13, 21]), ([20, 22, 13], [13, 20, 22]), ([13, 23, 10], [10, 13, 23]), ([10, 24], [10, 24])])
def impl_isSay.B6 : List Nat := [0, 1, 3, 7, 15, 31, 15, 79, 255, 511, 1023, 2047, 4095, 8191, 16383, 32767, 16383, 81919, 262143, 524287, 1048575, 16383, 2113535, 8388607, 16777215, 33554431]
theorem impl_isSay.tab6 : rtab .any (opsOf Try.f24 6) = impl_isSay.T6 := by kernel_rfl
theorem impl_isSay.bits6 : waitsOk impl_isSay.T6.2 impl_isSay.B6 = true := by kernel_rfl
def impl_isSay.T13 : Bool × List (List Nat × List Nat) := (true, [([], []), ([0], [0]), ([1], [1]), ([2, 2], [2]), ([3], [3]), ([4, 3], [3, 4]), ([5, 3, 3], [3, 5]), ([3, 6], [3, 6]), ([7, 6], [7]), ([8], [8]), ([9, 8], [8, 9]), ([10, 8, 8], [8, 10]), ([8, 11], [8, 11]), ([12, 11], [12]), ([13], [13]), ([14, 13], [13, 14]), ([15, 13], [13, 15]), ([16, 13], [13, 16]), ([13, 17], [13, 17]), ([18, 13], [18]), ([19], [19]), ([20, 19], [19, 20]), ([21, 19], [19, 21]), ([22, 19, 19], [19, 22]), ([23], [23]), ([24, 23], [23, 24]), ([23], [23]), ([26, 23], [23, 26]), ([27, 23, 23], [23, 27]), ([25, 28, 23], [23, 25, 28]), ([23, 29, 19], [19, 23, 29]), ([19, 30], [19, 30]), ([31, 28, 0, 1, 2, 3, 4, 5, 6, 7, 8, 9, 10, 11, 12, 13, 14, 15, 16, 17, 18, 19, 20, 21, 22, 23, 24, 25, 26, 27, 28, 29, 30, 31], [31])])
def impl_isSay.B13 : List Nat := [0, 1, 3, 7, 15, 31, 63, 127, 255, 511, 1023, 2047, 4095, 8191, 16383, 32767, 65535, 131071, 262143, 524287, 1048575, 2097151, 4194303, 8388607, 16777215, 33554431, 16777215, 83886079, 218103807, 536870911, 1073741823, 2147483647, 4294967295]
theorem impl_isSay.tab13 : rtab .any (opsOf Try.f24 13) = impl_isSay.T13 := by kernel_rfl
theorem impl_isSay.bits13 : waitsOk impl_isSay.T13.2 impl_isSay.B13 = true := by kernel_rfl
def impl_isSay.T15 : Bool × List (List Nat × List Nat) := (true, [([], []), ([0], [0]), ([1], [1]), ([2, 2], [2]), ([3], [3]), ([4, 3], [3, 4]), ([5, 3], [3, 5]), ([3, 6], [3, 6]), ([7, 3], [7]), ([8], [8]), ([9, 8], [8, 9]), ([10, 8], [8, 10]), ([8, 11], [8, 11]), ([12, 8], [12]), ([13], [13]), ([14, 13], [13, 14]), ([15, 13], [13, 15]), ([16, 13], [13, 16]), ([13, 17], [13, 17]), ([18, 13], [18]), ([19], [19]), ([20, 19], [19, 20]), ([21, 19], [19, 21]), ([22, 19], [19, 22]), ([23, 19], [19, 23]), ([19], [19]), ([25, 19], [19, 25]), ([24, 26, 19], [19, 24, 26]), ([19, 27], [19, 27]), ([28, 19, 0, 1, 2, 3, 4, 5, 6, 7, 8, 9, 10, 11, 12, 13, 14, 15, 16, 17, 18, 19, 20, 21, 22, 23, 24, 25, 26, 27, 28], [28])])
def impl_isSay.B15 : List Nat := [0, 1, 3, 7, 15, 31, 63, 127, 255, 511, 1023, 2047, 4095, 8191, 16383, 32767, 65535, 131071, 262143, 524287, 1048575, 2097151, 4194303, 8388607, 16777215, 1048575, 34603007, 134217727, 268435455, 536870911]
theorem impl_isSay.tab15 : rtab .any (opsOf Try.f24 15) = impl_isSay.T15 := by kernel_rfl
theorem impl_isSay.bits15 : waitsOk impl_isSay.T15.2 impl_isSay.B15 = true := by kernel_rfl
def impl_isSay.T17 : Bool × List (List Nat × List Nat) := (true, [([], []), ([0], [0]), ([1], [1]), ([2, 2], [2]), ([3], [3]), ([4, 3], [3, 4]), ([3], [3]), ([6, 3], [3, 6]), ([7, 3, 3], [3, 7]), ([5, 8, 3], [3, 5, 8]), ([3, 9], [3, 9]), ([10, 8], [10]), ([11], [11]), ([12, 11], [11, 12]), ([13, 11], [11, 13]), ([11, 14], [11, 14]), ([15, 11], [15]), ([16], [16]), ([17, 16], [16, 17]), ([18, 16], [16, 18]), ([16, 19], [16, 19]), ([20, 16], [20]), ([21], [21]), ([22, 21], [21, 22]), ([23, 21, 21], [21, 23]), ([24, 24, 21], [21, 24]), ([21, 25], [21, 25]), ([26, 25, 0, 1, 2, 3, 4, 5, 6, 7, 8, 9, 10, 11, 12, 13, 14, 15, 16, 17, 18, 19, 20, 21, 22, 23, 24, 25, 26], [26])])
def impl_isSay.B17 : List Nat := [0, 1, 3, 7, 15, 31, 15, 79, 207, 511, 1023, 2047, 4095, 8191, 16383, 32767, 65535, 131071, 262143, 524287, 1048575, 2097151, 4194303, 8388607, 16777215, 33554431, 67108863, 134217727]
theorem impl_isSay.tab17 : rtab .any (opsOf Try.f24 17) = impl_isSay.T17 := by kernel_rfl
theorem impl_isSay.bits17 : waitsOk impl_isSay.T17.2 impl_isSay.B17 = true := by kernel_rfl
set_option maxHeartbeats 60000000 in
set_option maxRecDepth 100000 in
theorem impl_isSay.calls (k : Nat) (a0_0 : Int) (a0_1 : Int) (a0_2 : Int) (a0_3 : Int) (a0_4 : ByteArray) (A0_5 : Option Addr) (c0_5 : Nat) (l0_5 : List (S41)) (r : Bool) (w : World) (hr0_5 : Kd.C k41 w A0_5 l0_5.length l0_5) (hc0_5 : l0_5.length ≤ c0_5) (h : impl_isSay.f k a0_0 a0_1 a0_2 a0_3 a0_4 l0_5 = some r) :
    Calls Try.prog 24 #[.agg #[.int .i64 a0_0, .int .i64 a0_1, .int .i64 a0_2, .int .i64 a0_3, .string a0_4, .slice A0_5 l0_5.length c0_5]] w fun e w' => e = .returned (.bool r) ∧ Below w.heap.size w w' := by
 have hu29 := Try.underlying29
 have hu41 := Try.underlying41
 have HR0_5 := AM hr0_5
 have HC0_5 := AM hc0_5
 clear hr0_5 hc0_5
 have HB := AM (Below.refl w.heap.size w)
 have H : ((impl_isReplica.f a0_1).bind fun t102 => (if t102 = true then (impl_isSay.l0 k l0_5 (l0_5.length : Int) 0 a0_0 a0_1 a0_2 a0_3 a0_4 l0_5) else (some false))) = some r := h
 clear h
 replace H := Option.bind_eq_some_iff.mp H
 obtain ⟨t102, A20, H⟩ := H
 replace H : (if t102 = true then (impl_isSay.l0 k l0_5 (l0_5.length : Int) 0 a0_0 a0_1 a0_2 a0_3 a0_4 l0_5) else (some false)) = some r := H
 have A2 := AM A20
 clear A20
 by_cases c3 : t102 = true
 ·
  subst c3
  have H1 : (impl_isSay.l0 k l0_5 (l0_5.length : Int) 0 a0_0 a0_1 a0_2 a0_3 a0_4 l0_5) = some r := by rw [if_pos rfl] at H; exact H
  clear H
  have H := H1
  clear H1
  have H' := AM H
  clear H
  go_enter Try.func24, Try.ntmps24
  go_wp2_with (first | ((with_reducible refine gate_dst (N := 1) rfl ?_); (try (refine gate_guard (by rfl) ?_; dsimp only)); refine box_event (by rfl) (N := 1) (by rfl) (cs := #[.int .i64 a0_0, .int .i64 a0_1, .int .i64 a0_2, .int .i64 a0_3, .string a0_4, .slice A0_5 l0_5.length c0_5]) (t := 29) (by first | (go_simp; done) | (go_simp; rfl)) ?_; intro gb101 hg w4 hbox hb; have n0_ := AM (below_step (by repeat (first | (with_reducible first | exact HB.out | apply bA | apply bN | apply bD) | exact HB.out)) hb); have n1_ := AM (hbox); have n2_ := AM ((by rw [hg]; exact (bZ (by repeat (first | (with_reducible first | exact HB.out | apply bA | apply bN | apply bD) | exact HB.out))) : w.heap.size ≤ gb101)); have n3_ := n2_; clear HB; have HB := n0_; have BK101 := n1_; have GW101 := n2_; have GE101 := n3_; clear n0_ n1_ n2_ n3_; clear hb hbox hg; have hcz5_0 : w4.cell? ⟨gb101, 0, none⟩ = some (.int .i64 a0_0) := (kC BK101.out 0).trans rfl; have hcz5_1 : w4.cell? ⟨gb101, 1, none⟩ = some (.int .i64 a0_1) := (kC BK101.out 1).trans rfl; have hcz5_2 : w4.cell? ⟨gb101, 2, none⟩ = some (.int .i64 a0_2) := (kC BK101.out 2).trans rfl; have hcz5_3 : w4.cell? ⟨gb101, 3, none⟩ = some (.int .i64 a0_3) := (kC BK101.out 3).trans rfl; have hcz5_4 : w4.cell? ⟨gb101, 4, none⟩ = some (.string a0_4) := (kC BK101.out 4).trans rfl; have hcz5_5 : w4.cell? ⟨gb101, 5, none⟩ = some (.slice A0_5 l0_5.length c0_5) := (kC BK101.out 5).trans rfl; have hfz5_0 := fZ BK101.out 0; have hfz5_1 := fZ BK101.out 1; have hfz5_2 := fZ BK101.out 2; have hfz5_3 := fZ BK101.out 3; have hfz5_4 := fZ BK101.out 4; have hfz5_5 := fZ BK101.out 5) | ((with_reducible refine gate_callee (f := 32) rfl ?_); refine goesL_ (some 7) rfl rfl Try.func32 (by kernel_rfl) rfl #[.int .i64 a0_1] rfl (by (try simp only [mA, mB, mC]); first | done | rfl | (simp only [mD, mE]; rfl)) ?_; (with_reducible refine (impl_isReplica.calls a0_1 true _ A2.out).mono ?_); rintro e w' ⟨rfl, ⟨nd, rfl⟩⟩; refine ⟨_, rfl, ?_⟩))
  go_loopg [12] k (fun kq v12 w' => ∃ (x12_1 : Int), v12 = .int .i64 x12_1 ∧ Aside0 (impl_isSay.l0 kq l0_5 (l0_5.length : Int) x12_1 a0_0 a0_1 a0_2 a0_3 a0_4 l0_5 = some r) ∧ Aside0 (kq ≤ k) ∧ Aside0 (w'.heap[gb101]? = some (.cells #[.int .i64 a0_0, .int .i64 a0_1, .int .i64 a0_2, .int .i64 a0_3, .string a0_4, (.slice A0_5 l0_5.length c0_5)] 29 (0, 0))) ∧ Aside0 (Below w.heap.size w w'))
  case atStart => exact ⟨(0), (by first | rfl | (simp; done) | (simp [*]; done)), H', ⟨Nat.le_refl _⟩, ⟨by (with_reducible repeat (first | apply kN | apply kD | apply kA)); exact BK101.out⟩, ⟨by repeat (first | (with_reducible first | exact HB.out | apply bA | apply bN | apply bD | refine bS ?_ GE101.out) | exact HB.out)⟩⟩
  case round =>
   clear H'
   try clear c2
   try clear p2
   try clear c3
   try clear hcz5_0
   try clear hcz5_1
   try clear hcz5_2
   try clear hcz5_3
   try clear hcz5_4
   try clear hcz5_5
   try clear hfz5_0
   try clear hfz5_1
   try clear hfz5_2
   try clear hfz5_3
   try clear hfz5_4
   try clear hfz5_5
   obtain ⟨x12_1, rfl, HA, HK1, BK101, HB⟩ := hrel
   cases gk with
   | zero => exact absurd HA.out (by simp [impl_isSay.l0])
   | succ k1 =>
    have H := HA.out
    clear HA
    simp only [impl_isSay.l0] at H
    by_cases c6 : x12_1 < (l0_5.length : Int)
    ·
     rw [if_pos c6] at H
     have c6b0 : decide (x12_1 < (l0_5.length : Int)) = true := decide_eq_true c6
     clear c6
     by_cases c7 : 0 ≤ x12_1
     ·
      rw [if_pos c7] at H
      have c7b0 : decide (0 ≤ x12_1) = true := decide_eq_true c7
      clear c7
      by_cases c8 : x12_1 < (l0_5.length : Int)
      ·
       rw [if_pos c8] at H
       have c8b0 : decide (x12_1 < (l0_5.length : Int)) = true := decide_eq_true c8
       clear c8
       replace H := Option.bind_eq_some_iff.mp H
       obtain ⟨t105, A90, H⟩ := H
       replace H : (if t105 = true then (if ((rd_T41 l0_5 x12_1).f1) = a0_2 then (if x12_1 > 0 then (if 0 ≤ (wrap64 (x12_1 - 1)) then (if (wrap64 (x12_1 - 1)) < (l0_5.length : Int) then (if ((rd_T41 l0_5 (wrap64 (x12_1 - 1))).f0) ≥ ((rd_T41 l0_5 x12_1).f0) then (some false) else (impl_isSay.l0 k1 l0_5 (l0_5.length : Int) (wrap64 (x12_1 + 1)) a0_0 a0_1 a0_2 a0_3 a0_4 l0_5)) else (none)) else (none)) else (impl_isSay.l0 k1 l0_5 (l0_5.length : Int) (wrap64 (x12_1 + 1)) a0_0 a0_1 a0_2 a0_3 a0_4 l0_5)) else (some false)) else (some false)) = some r := H
       have A9 := AM A90
       clear A90
       by_cases c10 : t105 = true
       ·
        subst c10
        have H1 : (if ((rd_T41 l0_5 x12_1).f1) = a0_2 then (if x12_1 > 0 then (if 0 ≤ (wrap64 (x12_1 - 1)) then (if (wrap64 (x12_1 - 1)) < (l0_5.length : Int) then (if ((rd_T41 l0_5 (wrap64 (x12_1 - 1))).f0) ≥ ((rd_T41 l0_5 x12_1).f0) then (some false) else (impl_isSay.l0 k1 l0_5 (l0_5.length : Int) (wrap64 (x12_1 + 1)) a0_0 a0_1 a0_2 a0_3 a0_4 l0_5)) else (none)) else (none)) else (impl_isSay.l0 k1 l0_5 (l0_5.length : Int) (wrap64 (x12_1 + 1)) a0_0 a0_1 a0_2 a0_3 a0_4 l0_5)) else (some false)) = some r := by rw [if_pos rfl] at H; exact H
        clear H
        have H := H1
        clear H1
        by_cases c11 : ((rd_T41 l0_5 x12_1).f1) = a0_2
        ·
         rw [if_pos c11] at H
         have c11b0 : (((rd_T41 l0_5 x12_1).f1) == a0_2) = true := beq_iff_eq.mpr c11
         have c11b1 : (((rd_T41 l0_5 x12_1).f1) != a0_2) = false := bne_eq_false_iff_eq.mpr c11
         clear c11
         by_cases c12 : x12_1 > 0
         ·
          rw [if_pos c12] at H
          have c12b0 : decide (0 < x12_1) = true := decide_eq_true c12
          clear c12
          obtain ⟨ji13, hji13⟩ : ∃ j_ : Int, (wrap64 (x12_1 - 1)) = j_ := ⟨_, rfl⟩
          replace H : (if 0 ≤ (ji13) then (if (ji13) < (l0_5.length : Int) then (if ((rd_T41 l0_5 (ji13)).f0) ≥ ((rd_T41 l0_5 x12_1).f0) then (some false) else (impl_isSay.l0 k1 l0_5 (l0_5.length : Int) (wrap64 (x12_1 + 1)) a0_0 a0_1 a0_2 a0_3 a0_4 l0_5)) else (none)) else (none)) = some r := by first | (rw [hji13] at H; exact H) | (simp only [hji13] at H ⊢; exact H)
          (try rw [hji13] at A9)
          have hji13w : (IntKind.i64.wrap (x12_1 - 1)) = ji13 := (i64_w _).trans hji13
          by_cases c14 : 0 ≤ (ji13)
          ·
           rw [if_pos c14] at H
           have c14b0 : decide (0 ≤ (ji13)) = true := decide_eq_true c14
           clear c14
           by_cases c15 : (ji13) < (l0_5.length : Int)
           ·
            rw [if_pos c15] at H
            have c15b0 : decide ((ji13) < (l0_5.length : Int)) = true := decide_eq_true c15
            clear c15
            by_cases c16 : ((rd_T41 l0_5 (ji13)).f0) ≥ ((rd_T41 l0_5 x12_1).f0)
            ·
             rw [if_pos c16] at H
             have c16b0 : decide (((rd_T41 l0_5 x12_1).f0) ≤ ((rd_T41 l0_5 (ji13)).f0)) = true := decide_eq_true c16
             clear c16
             obtain rfl := Option.some.inj H
             have p103 : 0 ≤ (x12_1 : Int) := of_decide_eq_true (by assumption)
             have q103 : x12_1 < (l0_5.length : Int) := of_decide_eq_true (by assumption)
             obtain ⟨ad103, A103_2, c103_2, e103, hx103_0, hx103_1, hx103_2, hl103_2, hi103_2⟩ := at_T41 HR0_5.out x12_1 p103 q103
             cases e103
             replace hx103_0 := pw_cell_below HB.out hx103_0
             replace hx103_1 := pw_cell_below HB.out hx103_1
             replace hx103_2 := pw_cell_below HB.out hx103_2
             have HR103_2 := AM hi103_2
             have HC103_2 := AM hl103_2
             clear hi103_2 hl103_2
             replace p103 := eq_true p103
             replace q103 := eq_true q103
             try go_wp2_with (first | ((with_reducible refine gate_dst (N := 4) rfl ?_); (try (refine gate_guard (by rfl) ?_; dsimp only)); refine box_event (by rfl) (N := 4) (by rfl) (cs := #[.int .i64 0, .int .i64 0, .slice none 0 0]) (t := 41) (by first | (go_simp; done) | (go_simp; rfl)) ?_; intro gb104 hg w17 hbox hb; have n0_ := AM (blk_below (g := gb101) (o := .cells #[.int .i64 a0_0, .int .i64 a0_1, .int .i64 a0_2, .int .i64 a0_3, .string a0_4, .slice (some ad103) l0_5.length c0_5] 29 (0, 0)) (by (with_reducible repeat (first | apply kN | apply kD | apply kA)); exact BK101.out) hb); have n1_ := AM (below_step (by repeat (first | (with_reducible first | exact HB.out | apply bA | apply bN | apply bD | refine bS ?_ GE101.out) | exact HB.out)) hb); have n2_ := AM (hbox); have n3_ := AM ((by rw [hg]; exact (bZ (by repeat (first | (with_reducible first | exact HB.out | apply bA | apply bN | apply bD | refine bS ?_ GE101.out) | exact HB.out))) : w.heap.size ≤ gb104)); have n4_ := n3_; have n5_ := AM ((by rw [hg]; exact Nat.ne_of_lt (blk_lt (g := gb101) (o := .cells #[.int .i64 a0_0, .int .i64 a0_1, .int .i64 a0_2, .int .i64 a0_3, .string a0_4, .slice (some ad103) l0_5.length c0_5] 29 (0, 0)) (by (with_reducible repeat (first | apply kN | apply kD | apply kA)); exact BK101.out)) : gb101 ≠ gb104)); have n6_ := AM ((by rw [hg]; exact Nat.ne_of_gt (blk_lt (g := gb101) (o := .cells #[.int .i64 a0_0, .int .i64 a0_1, .int .i64 a0_2, .int .i64 a0_3, .string a0_4, .slice (some ad103) l0_5.length c0_5] 29 (0, 0)) (by (with_reducible repeat (first | apply kN | apply kD | apply kA)); exact BK101.out)) : gb104 ≠ gb101)); clear BK101; clear HB; have BK101 := n0_; have HB := n1_; have BK104 := n2_; have GW104 := n3_; have GE104 := n4_; have NB101_104 := n5_; have NB104_101 := n6_; clear n0_ n1_ n2_ n3_ n4_ n5_ n6_; clear hb hbox hg; have hnb18 := NB104_101.out; have hnc18 := NB101_104.out; have hcz19_0 : w17.cell? ⟨gb104, 0, none⟩ = some (.int .i64 0) := (kC BK104.out 0).trans rfl; have hcz19_1 : w17.cell? ⟨gb104, 1, none⟩ = some (.int .i64 0) := (kC BK104.out 1).trans rfl; have hcz19_2 : w17.cell? ⟨gb104, 2, none⟩ = some (.slice none 0 0) := (kC BK104.out 2).trans rfl; have hfz19_0 := fZ BK104.out 0; have hfz19_1 := fZ BK104.out 1; have hfz19_2 := fZ BK104.out 2))
             have n0_ : Aside0 ((((w17.setCell ⟨gb104, 0, none⟩ (.int .i64 ((rd_T41 l0_5 x12_1).f0))).setCell ⟨gb104, 1, none⟩ (.int .i64 ((rd_T41 l0_5 x12_1).f1))).setCell ⟨gb104, 2, none⟩ (.slice A103_2 ((rd_T41 l0_5 x12_1).f2).length c103_2)).heap[gb101]? = some (.cells #[.int .i64 a0_0, .int .i64 a0_1, .int .i64 a0_2, .int .i64 a0_3, .string a0_4, .slice (some ad103) l0_5.length c0_5] 29 (0, 0))) := ⟨by (with_reducible repeat (first | apply kN | apply kD | apply kA)); refine blk_far ?_ NB101_104.out _; (with_reducible repeat (first | apply kN | apply kD | apply kA)); refine blk_far ?_ NB101_104.out _; (with_reducible repeat (first | apply kN | apply kD | apply kA)); refine blk_far ?_ NB101_104.out _; (with_reducible repeat (first | apply kN | apply kD | apply kA)); exact BK101.out⟩
             have n1_ : Aside0 ((((w17.setCell ⟨gb104, 0, none⟩ (.int .i64 ((rd_T41 l0_5 x12_1).f0))).setCell ⟨gb104, 1, none⟩ (.int .i64 ((rd_T41 l0_5 x12_1).f1))).setCell ⟨gb104, 2, none⟩ (.slice A103_2 ((rd_T41 l0_5 x12_1).f2).length c103_2)).heap[gb104]? = some (.cells #[.int .i64 ((rd_T41 l0_5 x12_1).f0), .int .i64 ((rd_T41 l0_5 x12_1).f1), .slice A103_2 ((rd_T41 l0_5 x12_1).f2).length c103_2] 41 (0, 0))) := ⟨by (with_reducible repeat (first | apply kN | apply kD | apply kA)); refine blk_put (cs := #[.int .i64 ((rd_T41 l0_5 x12_1).f0), .int .i64 ((rd_T41 l0_5 x12_1).f1), .slice none 0 0]) ?_ 2 _ rfl; (with_reducible repeat (first | apply kN | apply kD | apply kA)); refine blk_put (cs := #[.int .i64 ((rd_T41 l0_5 x12_1).f0), .int .i64 0, .slice none 0 0]) ?_ 1 _ rfl; (with_reducible repeat (first | apply kN | apply kD | apply kA)); refine blk_put (cs := #[.int .i64 0, .int .i64 0, .slice none 0 0]) ?_ 0 _ rfl; (with_reducible repeat (first | apply kN | apply kD | apply kA)); exact BK104.out⟩
             have n2_ : Aside0 (Below w.heap.size w (((w17.setCell ⟨gb104, 0, none⟩ (.int .i64 ((rd_T41 l0_5 x12_1).f0))).setCell ⟨gb104, 1, none⟩ (.int .i64 ((rd_T41 l0_5 x12_1).f1))).setCell ⟨gb104, 2, none⟩ (.slice A103_2 ((rd_T41 l0_5 x12_1).f2).length c103_2))) := ⟨by repeat (first | (with_reducible first | exact HB.out | apply bA | apply bN | apply bD | refine bS ?_ GE101.out | refine bS ?_ GE104.out) | exact HB.out)⟩
             (try clear BK101)
             (try clear BK104)
             (try clear HB)
             generalize (((w17.setCell ⟨gb104, 0, none⟩ (.int .i64 ((rd_T41 l0_5 x12_1).f0))).setCell ⟨gb104, 1, none⟩ (.int .i64 ((rd_T41 l0_5 x12_1).f1))).setCell ⟨gb104, 2, none⟩ (.slice A103_2 ((rd_T41 l0_5 x12_1).f2).length c103_2)) = w20 at n0_ n1_ n2_ ⊢
             have BK101 := n0_
             have BK104 := n1_
             have HB := n2_
             clear n0_ n1_ n2_
             have n0_ := AM (kD BK101.out)
             have n1_ := AM (kD BK104.out)
             have n2_ := AM (bD HB.out)
             clear BK101
             clear BK104
             clear HB
             have BK101 := n0_
             have BK104 := n1_
             have HB := n2_
             clear n0_ n1_ n2_
             have p106 : 0 ≤ ((ji13) : Int) := of_decide_eq_true (by assumption)
             have q106 : (ji13) < (l0_5.length : Int) := of_decide_eq_true (by assumption)
             obtain ⟨ad106, A106_2, c106_2, e106, hx106_0, hx106_1, hx106_2, hl106_2, hi106_2⟩ := at_T41 HR0_5.out (ji13) p106 q106
             have hw106_2 := hx106_2
             have hw106_1 := hx106_1
             have hw106_0 := hx106_0
             obtain rfl : ad103 = ad106 := (by injection e106)
             replace hx106_0 := pw_cell_below HB.out hx106_0
             replace hx106_1 := pw_cell_below HB.out hx106_1
             replace hx106_2 := pw_cell_below HB.out hx106_2
             have HR106_2 := AM hi106_2
             have HC106_2 := AM hl106_2
             clear hi106_2 hl106_2
             replace p106 := eq_true p106
             replace q106 := eq_true q106
             refine start_ (n := 26) (S := fun w' => w'.cell? ⟨gb104, 0, none⟩ = some (.int .i64 ((rd_T41 l0_5 x12_1).f0)) ∧ w'.cell? ⟨gb104, 1, none⟩ = some (.int .i64 ((rd_T41 l0_5 x12_1).f1)) ∧ w'.cell? ⟨gb104, 2, none⟩ = some (.slice A103_2 ((rd_T41 l0_5 x12_1).f2).length c103_2) ∧ w'.cell? ⟨gb101, 0, none⟩ = some (.int .i64 a0_0) ∧ w'.cell? ⟨gb101, 1, none⟩ = some (.int .i64 a0_1) ∧ w'.cell? ⟨gb101, 2, none⟩ = some (.int .i64 a0_2) ∧ w'.cell? ⟨gb101, 3, none⟩ = some (.int .i64 a0_3) ∧ w'.cell? ⟨gb101, 4, none⟩ = some (.string a0_4) ∧ w'.cell? ⟨gb101, 5, none⟩ = some (.slice (some ad103) l0_5.length c0_5) ∧ w'.cell? (ad103.add (((ji13)).toNat * 3)) = some (.int .i64 ((rd_T41 l0_5 (ji13)).f0)) ∧ w'.cell? ⟨(ad103.add (((ji13)).toNat * 3)).block, (ad103.add (((ji13)).toNat * 3)).off + 1, none⟩ = some (.int .i64 ((rd_T41 l0_5 (ji13)).f1)) ∧ w'.cell? ⟨(ad103.add (((ji13)).toNat * 3)).block, (ad103.add (((ji13)).toNat * 3)).off + 2, none⟩ = some (.slice A106_2 ((rd_T41 l0_5 (ji13)).f2).length c106_2)) (ds := []) (upTo 0 26) (by kernel_rfl) rfl rfl ⟨(kC BK104.out 0).trans rfl, (kC BK104.out 1).trans rfl, (kC BK104.out 2).trans rfl, (kC BK101.out 0).trans rfl, (kC BK101.out 1).trans rfl, (kC BK101.out 2).trans rfl, (kC BK101.out 3).trans rfl, (kC BK101.out 4).trans rfl, (kC BK101.out 5).trans rfl, ((HB.out.cell (World.block_lt_of_cell? w _ hw106_0)).trans hw106_0), ((HB.out.cell (World.block_lt_of_cell? w _ hw106_1)).trans hw106_1), ((HB.out.cell (World.block_lt_of_cell? w _ hw106_2)).trans hw106_2)⟩ (fun hHeld => ?_); refine with_tabW impl_isSay.tab6 impl_isSay.bits6 (fun HT_ HW_ => ?_)
             generalize w20.drew = w21 at BK101 BK104 HB HR106_2 hx106_0 hx106_1 hx106_2 hHeld ⊢
             refine pT2 0 17 (upTo 1 26) ?_ hHeld
             refine one_ (i := 1) (N := some 18) (upTo 2 26) rfl rfl (one_of HT_.out (by kernel_rfl)) (by decide) (fun K hK => ?_)
             refine goes_ Try.func33 (by kernel_rfl) rfl #[.agg #[.int .i64 ((rd_T41 l0_5 x12_1).f0), .int .i64 ((rd_T41 l0_5 x12_1).f1), .slice A103_2 ((rd_T41 l0_5 x12_1).f2).length c103_2]] (by rfl) rfl rfl (by (try simp only [mA, mB, mC]); first | done | rfl | (simp only [mD, mE]; rfl)) ?_
             with_reducible refine (impl_isChange.calls k1 ((rd_T41 l0_5 x12_1).f0) ((rd_T41 l0_5 x12_1).f1) _ _ ((rd_T41 l0_5 x12_1).f2) true _ ?side1 ?side2 A9.out).mono ?_
             (case side1 => repeat (first | exact (cB HR103_2.out HB.out) | (with_reducible refine cA ?_ _) | (with_reducible refine cN ?_ _) | (with_reducible refine cD ?_)))
             (case side2 => exact HC103_2.out)
             rintro e w22 ⟨rfl, hb⟩
             refine ⟨_, rfl, ?_⟩
             have n0_ := AM (blk_below (g := gb101) (o := .cells #[.int .i64 a0_0, .int .i64 a0_1, .int .i64 a0_2, .int .i64 a0_3, .string a0_4, .slice (some ad103) l0_5.length c0_5] 29 (0, 0)) (by (with_reducible repeat (first | apply kN | apply kD | apply kA)); exact BK101.out) hb)
             have n1_ := AM (blk_below (g := gb104) (o := .cells #[.int .i64 ((rd_T41 l0_5 x12_1).f0), .int .i64 ((rd_T41 l0_5 x12_1).f1), .slice A103_2 ((rd_T41 l0_5 x12_1).f2).length c103_2] 41 (0, 0)) (by (with_reducible repeat (first | apply kN | apply kD | apply kA)); exact BK104.out) hb)
             have n2_ := AM (below_step (by repeat (first | (with_reducible first | exact HB.out | apply bA | apply bN | apply bD | refine bS ?_ GE101.out | refine bS ?_ GE104.out) | exact HB.out)) hb)
             clear BK101
             clear BK104
             clear HB
             have BK101 := n0_
             have BK104 := n1_
             have HB := n2_
             clear n0_ n1_ n2_
             (try clear hb)
             (try clear hb2)
             (try clear hk)
             (try clear hi)
             refine hK.out _ _ ⟨(kC BK104.out 0).trans rfl, (kC BK104.out 1).trans rfl, (kC BK104.out 2).trans rfl, (kC BK101.out 0).trans rfl, (kC BK101.out 1).trans rfl, (kC BK101.out 2).trans rfl, (kC BK101.out 3).trans rfl, (kC BK101.out 4).trans rfl, (kC BK101.out 5).trans rfl, ((HB.out.cell (World.block_lt_of_cell? w _ hw106_0)).trans hw106_0), ((HB.out.cell (World.block_lt_of_cell? w _ hw106_1)).trans hw106_1), ((HB.out.cell (World.block_lt_of_cell? w _ hw106_2)).trans hw106_2)⟩ (fun hHeld => ?_)
             clear hK K
             refine norm_ (a' := ?_) ?_ ?_
             rotate_left
             ·
              show Act.put _ (some 18) _ = _
              simp only [Act.put, sA, sB, sC, i64_w, i32_w]
              rfl
             refine pF 2 3 26 19 ?_
             refine pF 3 4 26 20 ?_
             refine pF 4 5 26 21 ?_
             refine pF2 6 23 impl_isSay.b0 ?_
             refine pT2 5 22 (upTo 7 26) ?_ hHeld
             refine pT2 7 24 (upTo 8 26) ?_ hHeld
             refine pF 8 9 26 25 ?_
             refine pF 9 10 26 26 ?_
             refine pF 10 11 26 27 ?_
             refine pF 11 12 26 28 ?_
             refine pF 12 13 26 29 ?_
             refine pF 13 14 26 30 ?_
             refine pF 14 15 26 31 ?_
             refine pF2 16 33 impl_isSay.b1 ?_
             refine pF2 17 34 impl_isSay.b2 ?_
             refine pF2 21 38 impl_isSay.b3 ?_
             refine pT2 15 32 impl_isSay.b4 ?_ hHeld
             refine pF2 18 35 impl_isSay.b5 ?_
             refine pF2 19 36 impl_isSay.b6 ?_
             refine pT2 20 37 (upTo 22 26) ?_ hHeld
             refine pT2 22 39 (upTo 23 26) ?_ hHeld
             refine pF 23 24 26 40 ?_
             refine pF 24 25 26 41 ?_
             refine pF 25 26 26 42 ?_
             refine done_ (done_of HT_.out (by kernel_rfl)) ?_
             try go_wp2
             go_ret
             exact ⟨by first | rfl | (simp [errW_none, errW_some] <;> rfl) | (simp only [← hji13]; first | rfl | (simp [errW_none, errW_some] <;> rfl)) | (simp [*, errW_none, errW_some] <;> rfl), by repeat (first | (with_reducible first | exact HB.out | apply bA | apply bN | apply bD | refine bS ?_ GE101.out | refine bS ?_ GE104.out) | exact HB.out)⟩
            ·
             rw [if_neg c16] at H
             have c16b0 : decide (((rd_T41 l0_5 x12_1).f0) ≤ ((rd_T41 l0_5 (ji13)).f0)) = false := decide_eq_false c16
             clear c16
             have H' := AM H
             clear H
             have p103 : 0 ≤ (x12_1 : Int) := of_decide_eq_true (by assumption)
             have q103 : x12_1 < (l0_5.length : Int) := of_decide_eq_true (by assumption)
             obtain ⟨ad103, A103_2, c103_2, e103, hx103_0, hx103_1, hx103_2, hl103_2, hi103_2⟩ := at_T41 HR0_5.out x12_1 p103 q103
             cases e103
             replace hx103_0 := pw_cell_below HB.out hx103_0
             replace hx103_1 := pw_cell_below HB.out hx103_1
             replace hx103_2 := pw_cell_below HB.out hx103_2
             have HR103_2 := AM hi103_2
             have HC103_2 := AM hl103_2
             clear hi103_2 hl103_2
             replace p103 := eq_true p103
             replace q103 := eq_true q103
             try go_wp2_with (first | ((with_reducible refine gate_dst (N := 4) rfl ?_); (try (refine gate_guard (by rfl) ?_; dsimp only)); refine box_event (by rfl) (N := 4) (by rfl) (cs := #[.int .i64 0, .int .i64 0, .slice none 0 0]) (t := 41) (by first | (go_simp; done) | (go_simp; rfl)) ?_; intro gb104 hg w23 hbox hb; have n0_ := AM (blk_below (g := gb101) (o := .cells #[.int .i64 a0_0, .int .i64 a0_1, .int .i64 a0_2, .int .i64 a0_3, .string a0_4, .slice (some ad103) l0_5.length c0_5] 29 (0, 0)) (by (with_reducible repeat (first | apply kN | apply kD | apply kA)); exact BK101.out) hb); have n1_ := AM (below_step (by repeat (first | (with_reducible first | exact HB.out | apply bA | apply bN | apply bD | refine bS ?_ GE101.out) | exact HB.out)) hb); have n2_ := AM (hbox); have n3_ := AM ((by rw [hg]; exact (bZ (by repeat (first | (with_reducible first | exact HB.out | apply bA | apply bN | apply bD | refine bS ?_ GE101.out) | exact HB.out))) : w.heap.size ≤ gb104)); have n4_ := n3_; have n5_ := AM ((by rw [hg]; exact Nat.ne_of_lt (blk_lt (g := gb101) (o := .cells #[.int .i64 a0_0, .int .i64 a0_1, .int .i64 a0_2, .int .i64 a0_3, .string a0_4, .slice (some ad103) l0_5.length c0_5] 29 (0, 0)) (by (with_reducible repeat (first | apply kN | apply kD | apply kA)); exact BK101.out)) : gb101 ≠ gb104)); have n6_ := AM ((by rw [hg]; exact Nat.ne_of_gt (blk_lt (g := gb101) (o := .cells #[.int .i64 a0_0, .int .i64 a0_1, .int .i64 a0_2, .int .i64 a0_3, .string a0_4, .slice (some ad103) l0_5.length c0_5] 29 (0, 0)) (by (with_reducible repeat (first | apply kN | apply kD | apply kA)); exact BK101.out)) : gb104 ≠ gb101)); clear BK101; clear HB; have BK101 := n0_; have HB := n1_; have BK104 := n2_; have GW104 := n3_; have GE104 := n4_; have NB101_104 := n5_; have NB104_101 := n6_; clear n0_ n1_ n2_ n3_ n4_ n5_ n6_; clear hb hbox hg; have hnb24 := NB104_101.out; have hnc24 := NB101_104.out; have hcz25_0 : w23.cell? ⟨gb104, 0, none⟩ = some (.int .i64 0) := (kC BK104.out 0).trans rfl; have hcz25_1 : w23.cell? ⟨gb104, 1, none⟩ = some (.int .i64 0) := (kC BK104.out 1).trans rfl; have hcz25_2 : w23.cell? ⟨gb104, 2, none⟩ = some (.slice none 0 0) := (kC BK104.out 2).trans rfl; have hfz25_0 := fZ BK104.out 0; have hfz25_1 := fZ BK104.out 1; have hfz25_2 := fZ BK104.out 2))
             have n0_ : Aside0 ((((w23.setCell ⟨gb104, 0, none⟩ (.int .i64 ((rd_T41 l0_5 x12_1).f0))).setCell ⟨gb104, 1, none⟩ (.int .i64 ((rd_T41 l0_5 x12_1).f1))).setCell ⟨gb104, 2, none⟩ (.slice A103_2 ((rd_T41 l0_5 x12_1).f2).length c103_2)).heap[gb101]? = some (.cells #[.int .i64 a0_0, .int .i64 a0_1, .int .i64 a0_2, .int .i64 a0_3, .string a0_4, .slice (some ad103) l0_5.length c0_5] 29 (0, 0))) := ⟨by (with_reducible repeat (first | apply kN | apply kD | apply kA)); refine blk_far ?_ NB101_104.out _; (with_reducible repeat (first | apply kN | apply kD | apply kA)); refine blk_far ?_ NB101_104.out _; (with_reducible repeat (first | apply kN | apply kD | apply kA)); refine blk_far ?_ NB101_104.out _; (with_reducible repeat (first | apply kN | apply kD | apply kA)); exact BK101.out⟩
             have n1_ : Aside0 ((((w23.setCell ⟨gb104, 0, none⟩ (.int .i64 ((rd_T41 l0_5 x12_1).f0))).setCell ⟨gb104, 1, none⟩ (.int .i64 ((rd_T41 l0_5 x12_1).f1))).setCell ⟨gb104, 2, none⟩ (.slice A103_2 ((rd_T41 l0_5 x12_1).f2).length c103_2)).heap[gb104]? = some (.cells #[.int .i64 ((rd_T41 l0_5 x12_1).f0), .int .i64 ((rd_T41 l0_5 x12_1).f1), .slice A103_2 ((rd_T41 l0_5 x12_1).f2).length c103_2] 41 (0, 0))) := ⟨by (with_reducible repeat (first | apply kN | apply kD | apply kA)); refine blk_put (cs := #[.int .i64 ((rd_T41 l0_5 x12_1).f0), .int .i64 ((rd_T41 l0_5 x12_1).f1), .slice none 0 0]) ?_ 2 _ rfl; (with_reducible repeat (first | apply kN | apply kD | apply kA)); refine blk_put (cs := #[.int .i64 ((rd_T41 l0_5 x12_1).f0), .int .i64 0, .slice none 0 0]) ?_ 1 _ rfl; (with_reducible repeat (first | apply kN | apply kD | apply kA)); refine blk_put (cs := #[.int .i64 0, .int .i64 0, .slice none 0 0]) ?_ 0 _ rfl; (with_reducible repeat (first | apply kN | apply kD | apply kA)); exact BK104.out⟩
             have n2_ : Aside0 (Below w.heap.size w (((w23.setCell ⟨gb104, 0, none⟩ (.int .i64 ((rd_T41 l0_5 x12_1).f0))).setCell ⟨gb104, 1, none⟩ (.int .i64 ((rd_T41 l0_5 x12_1).f1))).setCell ⟨gb104, 2, none⟩ (.slice A103_2 ((rd_T41 l0_5 x12_1).f2).length c103_2))) := ⟨by repeat (first | (with_reducible first | exact HB.out | apply bA | apply bN | apply bD | refine bS ?_ GE101.out | refine bS ?_ GE104.out) | exact HB.out)⟩
             (try clear BK101)
             (try clear BK104)
             (try clear HB)
             generalize (((w23.setCell ⟨gb104, 0, none⟩ (.int .i64 ((rd_T41 l0_5 x12_1).f0))).setCell ⟨gb104, 1, none⟩ (.int .i64 ((rd_T41 l0_5 x12_1).f1))).setCell ⟨gb104, 2, none⟩ (.slice A103_2 ((rd_T41 l0_5 x12_1).f2).length c103_2)) = w26 at n0_ n1_ n2_ ⊢
             have BK101 := n0_
             have BK104 := n1_
             have HB := n2_
             clear n0_ n1_ n2_
             have n0_ := AM (kD BK101.out)
             have n1_ := AM (kD BK104.out)
             have n2_ := AM (bD HB.out)
             clear BK101
             clear BK104
             clear HB
             have BK101 := n0_
             have BK104 := n1_
             have HB := n2_
             clear n0_ n1_ n2_
             have p106 : 0 ≤ ((ji13) : Int) := of_decide_eq_true (by assumption)
             have q106 : (ji13) < (l0_5.length : Int) := of_decide_eq_true (by assumption)
             obtain ⟨ad106, A106_2, c106_2, e106, hx106_0, hx106_1, hx106_2, hl106_2, hi106_2⟩ := at_T41 HR0_5.out (ji13) p106 q106
             have hw106_2 := hx106_2
             have hw106_1 := hx106_1
             have hw106_0 := hx106_0
             obtain rfl : ad103 = ad106 := (by injection e106)
             replace hx106_0 := pw_cell_below HB.out hx106_0
             replace hx106_1 := pw_cell_below HB.out hx106_1
             replace hx106_2 := pw_cell_below HB.out hx106_2
             have HR106_2 := AM hi106_2
             have HC106_2 := AM hl106_2
             clear hi106_2 hl106_2
             replace p106 := eq_true p106
             replace q106 := eq_true q106
             refine start_ (n := 26) (S := fun w' => w'.cell? ⟨gb104, 0, none⟩ = some (.int .i64 ((rd_T41 l0_5 x12_1).f0)) ∧ w'.cell? ⟨gb104, 1, none⟩ = some (.int .i64 ((rd_T41 l0_5 x12_1).f1)) ∧ w'.cell? ⟨gb104, 2, none⟩ = some (.slice A103_2 ((rd_T41 l0_5 x12_1).f2).length c103_2) ∧ w'.cell? ⟨gb101, 0, none⟩ = some (.int .i64 a0_0) ∧ w'.cell? ⟨gb101, 1, none⟩ = some (.int .i64 a0_1) ∧ w'.cell? ⟨gb101, 2, none⟩ = some (.int .i64 a0_2) ∧ w'.cell? ⟨gb101, 3, none⟩ = some (.int .i64 a0_3) ∧ w'.cell? ⟨gb101, 4, none⟩ = some (.string a0_4) ∧ w'.cell? ⟨gb101, 5, none⟩ = some (.slice (some ad103) l0_5.length c0_5) ∧ w'.cell? (ad103.add (((ji13)).toNat * 3)) = some (.int .i64 ((rd_T41 l0_5 (ji13)).f0)) ∧ w'.cell? ⟨(ad103.add (((ji13)).toNat * 3)).block, (ad103.add (((ji13)).toNat * 3)).off + 1, none⟩ = some (.int .i64 ((rd_T41 l0_5 (ji13)).f1)) ∧ w'.cell? ⟨(ad103.add (((ji13)).toNat * 3)).block, (ad103.add (((ji13)).toNat * 3)).off + 2, none⟩ = some (.slice A106_2 ((rd_T41 l0_5 (ji13)).f2).length c106_2)) (ds := []) (upTo 0 26) (by kernel_rfl) rfl rfl ⟨(kC BK104.out 0).trans rfl, (kC BK104.out 1).trans rfl, (kC BK104.out 2).trans rfl, (kC BK101.out 0).trans rfl, (kC BK101.out 1).trans rfl, (kC BK101.out 2).trans rfl, (kC BK101.out 3).trans rfl, (kC BK101.out 4).trans rfl, (kC BK101.out 5).trans rfl, ((HB.out.cell (World.block_lt_of_cell? w _ hw106_0)).trans hw106_0), ((HB.out.cell (World.block_lt_of_cell? w _ hw106_1)).trans hw106_1), ((HB.out.cell (World.block_lt_of_cell? w _ hw106_2)).trans hw106_2)⟩ (fun hHeld => ?_); refine with_tabW impl_isSay.tab6 impl_isSay.bits6 (fun HT_ HW_ => ?_)
             generalize w26.drew = w27 at BK101 BK104 HB HR106_2 hx106_0 hx106_1 hx106_2 hHeld ⊢
             refine pT2 0 17 (upTo 1 26) ?_ hHeld
             refine one_ (i := 1) (N := some 18) (upTo 2 26) rfl rfl (one_of HT_.out (by kernel_rfl)) (by decide) (fun K hK => ?_)
             refine goes_ Try.func33 (by kernel_rfl) rfl #[.agg #[.int .i64 ((rd_T41 l0_5 x12_1).f0), .int .i64 ((rd_T41 l0_5 x12_1).f1), .slice A103_2 ((rd_T41 l0_5 x12_1).f2).length c103_2]] (by rfl) rfl rfl (by (try simp only [mA, mB, mC]); first | done | rfl | (simp only [mD, mE]; rfl)) ?_
             with_reducible refine (impl_isChange.calls k1 ((rd_T41 l0_5 x12_1).f0) ((rd_T41 l0_5 x12_1).f1) _ _ ((rd_T41 l0_5 x12_1).f2) true _ ?side1 ?side2 A9.out).mono ?_
             (case side1 => repeat (first | exact (cB HR103_2.out HB.out) | (with_reducible refine cA ?_ _) | (with_reducible refine cN ?_ _) | (with_reducible refine cD ?_)))
             (case side2 => exact HC103_2.out)
             rintro e w28 ⟨rfl, hb⟩
             refine ⟨_, rfl, ?_⟩
             have n0_ := AM (blk_below (g := gb101) (o := .cells #[.int .i64 a0_0, .int .i64 a0_1, .int .i64 a0_2, .int .i64 a0_3, .string a0_4, .slice (some ad103) l0_5.length c0_5] 29 (0, 0)) (by (with_reducible repeat (first | apply kN | apply kD | apply kA)); exact BK101.out) hb)
             have n1_ := AM (blk_below (g := gb104) (o := .cells #[.int .i64 ((rd_T41 l0_5 x12_1).f0), .int .i64 ((rd_T41 l0_5 x12_1).f1), .slice A103_2 ((rd_T41 l0_5 x12_1).f2).length c103_2] 41 (0, 0)) (by (with_reducible repeat (first | apply kN | apply kD | apply kA)); exact BK104.out) hb)
             have n2_ := AM (below_step (by repeat (first | (with_reducible first | exact HB.out | apply bA | apply bN | apply bD | refine bS ?_ GE101.out | refine bS ?_ GE104.out) | exact HB.out)) hb)
             clear BK101
             clear BK104
             clear HB
             have BK101 := n0_
             have BK104 := n1_
             have HB := n2_
             clear n0_ n1_ n2_
             (try clear hb)
             (try clear hb2)
             (try clear hk)
             (try clear hi)
             refine hK.out _ _ ⟨(kC BK104.out 0).trans rfl, (kC BK104.out 1).trans rfl, (kC BK104.out 2).trans rfl, (kC BK101.out 0).trans rfl, (kC BK101.out 1).trans rfl, (kC BK101.out 2).trans rfl, (kC BK101.out 3).trans rfl, (kC BK101.out 4).trans rfl, (kC BK101.out 5).trans rfl, ((HB.out.cell (World.block_lt_of_cell? w _ hw106_0)).trans hw106_0), ((HB.out.cell (World.block_lt_of_cell? w _ hw106_1)).trans hw106_1), ((HB.out.cell (World.block_lt_of_cell? w _ hw106_2)).trans hw106_2)⟩ (fun hHeld => ?_)
             clear hK K
             refine norm_ (a' := ?_) ?_ ?_
             rotate_left
             ·
              show Act.put _ (some 18) _ = _
              simp only [Act.put, sA, sB, sC, i64_w, i32_w]
              rfl
             refine pF 2 3 26 19 ?_
             refine pF 3 4 26 20 ?_
             refine pF 4 5 26 21 ?_
             refine pF2 6 23 impl_isSay.b0 ?_
             refine pT2 5 22 (upTo 7 26) ?_ hHeld
             refine pT2 7 24 (upTo 8 26) ?_ hHeld
             refine pF 8 9 26 25 ?_
             refine pF 9 10 26 26 ?_
             refine pF 10 11 26 27 ?_
             refine pF 11 12 26 28 ?_
             refine pF 12 13 26 29 ?_
             refine pF 13 14 26 30 ?_
             refine pF 14 15 26 31 ?_
             refine pF2 16 33 impl_isSay.b1 ?_
             refine pF2 17 34 impl_isSay.b2 ?_
             refine pF2 21 38 impl_isSay.b3 ?_
             refine pT2 15 32 impl_isSay.b4 ?_ hHeld
             refine pF2 18 35 impl_isSay.b5 ?_
             refine pF2 19 36 impl_isSay.b6 ?_
             refine pT2 20 37 (upTo 22 26) ?_ hHeld
             refine pT2 22 39 (upTo 23 26) ?_ hHeld
             refine pF 23 24 26 40 ?_
             refine pF 24 25 26 41 ?_
             refine pF 25 26 26 42 ?_
             refine done_ (done_of HT_.out (by kernel_rfl)) ?_
             try go_wp2
             go_roundg k1
             case measure => have := HK1.out; omega
             case rel => exact ⟨(wrap64 (x12_1 + 1)), (by first | rfl | (simp; done) | (simp [*]; done)), H', ⟨by have := HK1.out; omega⟩, ⟨by (with_reducible repeat (first | apply kN | apply kD | apply kA)); exact BK101.out⟩, ⟨by repeat (first | (with_reducible first | exact HB.out | apply bA | apply bN | apply bD | refine bS ?_ GE101.out | refine bS ?_ GE104.out) | exact HB.out)⟩⟩
           ·
            rw [if_neg c15] at H
            exact absurd H (by simp)
          ·
           rw [if_neg c14] at H
           exact absurd H (by simp)
         ·
          rw [if_neg c12] at H
          have c12b0 : decide (0 < x12_1) = false := decide_eq_false c12
          clear c12
          have H' := AM H
          clear H
          have p103 : 0 ≤ (x12_1 : Int) := of_decide_eq_true (by assumption)
          have q103 : x12_1 < (l0_5.length : Int) := of_decide_eq_true (by assumption)
          obtain ⟨ad103, A103_2, c103_2, e103, hx103_0, hx103_1, hx103_2, hl103_2, hi103_2⟩ := at_T41 HR0_5.out x12_1 p103 q103
          cases e103
          replace hx103_0 := pw_cell_below HB.out hx103_0
          replace hx103_1 := pw_cell_below HB.out hx103_1
          replace hx103_2 := pw_cell_below HB.out hx103_2
          have HR103_2 := AM hi103_2
          have HC103_2 := AM hl103_2
          clear hi103_2 hl103_2
          replace p103 := eq_true p103
          replace q103 := eq_true q103
          try go_wp2_with (first | ((with_reducible refine gate_dst (N := 4) rfl ?_); (try (refine gate_guard (by rfl) ?_; dsimp only)); refine box_event (by rfl) (N := 4) (by rfl) (cs := #[.int .i64 0, .int .i64 0, .slice none 0 0]) (t := 41) (by first | (go_simp; done) | (go_simp; rfl)) ?_; intro gb104 hg w29 hbox hb; have n0_ := AM (blk_below (g := gb101) (o := .cells #[.int .i64 a0_0, .int .i64 a0_1, .int .i64 a0_2, .int .i64 a0_3, .string a0_4, .slice (some ad103) l0_5.length c0_5] 29 (0, 0)) (by (with_reducible repeat (first | apply kN | apply kD | apply kA)); exact BK101.out) hb); have n1_ := AM (below_step (by repeat (first | (with_reducible first | exact HB.out | apply bA | apply bN | apply bD | refine bS ?_ GE101.out) | exact HB.out)) hb); have n2_ := AM (hbox); have n3_ := AM ((by rw [hg]; exact (bZ (by repeat (first | (with_reducible first | exact HB.out | apply bA | apply bN | apply bD | refine bS ?_ GE101.out) | exact HB.out))) : w.heap.size ≤ gb104)); have n4_ := n3_; have n5_ := AM ((by rw [hg]; exact Nat.ne_of_lt (blk_lt (g := gb101) (o := .cells #[.int .i64 a0_0, .int .i64 a0_1, .int .i64 a0_2, .int .i64 a0_3, .string a0_4, .slice (some ad103) l0_5.length c0_5] 29 (0, 0)) (by (with_reducible repeat (first | apply kN | apply kD | apply kA)); exact BK101.out)) : gb101 ≠ gb104)); have n6_ := AM ((by rw [hg]; exact Nat.ne_of_gt (blk_lt (g := gb101) (o := .cells #[.int .i64 a0_0, .int .i64 a0_1, .int .i64 a0_2, .int .i64 a0_3, .string a0_4, .slice (some ad103) l0_5.length c0_5] 29 (0, 0)) (by (with_reducible repeat (first | apply kN | apply kD | apply kA)); exact BK101.out)) : gb104 ≠ gb101)); clear BK101; clear HB; have BK101 := n0_; have HB := n1_; have BK104 := n2_; have GW104 := n3_; have GE104 := n4_; have NB101_104 := n5_; have NB104_101 := n6_; clear n0_ n1_ n2_ n3_ n4_ n5_ n6_; clear hb hbox hg; have hnb30 := NB104_101.out; have hnc30 := NB101_104.out; have hcz31_0 : w29.cell? ⟨gb104, 0, none⟩ = some (.int .i64 0) := (kC BK104.out 0).trans rfl; have hcz31_1 : w29.cell? ⟨gb104, 1, none⟩ = some (.int .i64 0) := (kC BK104.out 1).trans rfl; have hcz31_2 : w29.cell? ⟨gb104, 2, none⟩ = some (.slice none 0 0) := (kC BK104.out 2).trans rfl; have hfz31_0 := fZ BK104.out 0; have hfz31_1 := fZ BK104.out 1; have hfz31_2 := fZ BK104.out 2))
          have n0_ : Aside0 ((((w29.setCell ⟨gb104, 0, none⟩ (.int .i64 ((rd_T41 l0_5 x12_1).f0))).setCell ⟨gb104, 1, none⟩ (.int .i64 ((rd_T41 l0_5 x12_1).f1))).setCell ⟨gb104, 2, none⟩ (.slice A103_2 ((rd_T41 l0_5 x12_1).f2).length c103_2)).heap[gb101]? = some (.cells #[.int .i64 a0_0, .int .i64 a0_1, .int .i64 a0_2, .int .i64 a0_3, .string a0_4, .slice (some ad103) l0_5.length c0_5] 29 (0, 0))) := ⟨by (with_reducible repeat (first | apply kN | apply kD | apply kA)); refine blk_far ?_ NB101_104.out _; (with_reducible repeat (first | apply kN | apply kD | apply kA)); refine blk_far ?_ NB101_104.out _; (with_reducible repeat (first | apply kN | apply kD | apply kA)); refine blk_far ?_ NB101_104.out _; (with_reducible repeat (first | apply kN | apply kD | apply kA)); exact BK101.out⟩
          have n1_ : Aside0 ((((w29.setCell ⟨gb104, 0, none⟩ (.int .i64 ((rd_T41 l0_5 x12_1).f0))).setCell ⟨gb104, 1, none⟩ (.int .i64 ((rd_T41 l0_5 x12_1).f1))).setCell ⟨gb104, 2, none⟩ (.slice A103_2 ((rd_T41 l0_5 x12_1).f2).length c103_2)).heap[gb104]? = some (.cells #[.int .i64 ((rd_T41 l0_5 x12_1).f0), .int .i64 ((rd_T41 l0_5 x12_1).f1), .slice A103_2 ((rd_T41 l0_5 x12_1).f2).length c103_2] 41 (0, 0))) := ⟨by (with_reducible repeat (first | apply kN | apply kD | apply kA)); refine blk_put (cs := #[.int .i64 ((rd_T41 l0_5 x12_1).f0), .int .i64 ((rd_T41 l0_5 x12_1).f1), .slice none 0 0]) ?_ 2 _ rfl; (with_reducible repeat (first | apply kN | apply kD | apply kA)); refine blk_put (cs := #[.int .i64 ((rd_T41 l0_5 x12_1).f0), .int .i64 0, .slice none 0 0]) ?_ 1 _ rfl; (with_reducible repeat (first | apply kN | apply kD | apply kA)); refine blk_put (cs := #[.int .i64 0, .int .i64 0, .slice none 0 0]) ?_ 0 _ rfl; (with_reducible repeat (first | apply kN | apply kD | apply kA)); exact BK104.out⟩
          have n2_ : Aside0 (Below w.heap.size w (((w29.setCell ⟨gb104, 0, none⟩ (.int .i64 ((rd_T41 l0_5 x12_1).f0))).setCell ⟨gb104, 1, none⟩ (.int .i64 ((rd_T41 l0_5 x12_1).f1))).setCell ⟨gb104, 2, none⟩ (.slice A103_2 ((rd_T41 l0_5 x12_1).f2).length c103_2))) := ⟨by repeat (first | (with_reducible first | exact HB.out | apply bA | apply bN | apply bD | refine bS ?_ GE101.out | refine bS ?_ GE104.out) | exact HB.out)⟩
          (try clear BK101)
          (try clear BK104)
          (try clear HB)
          generalize (((w29.setCell ⟨gb104, 0, none⟩ (.int .i64 ((rd_T41 l0_5 x12_1).f0))).setCell ⟨gb104, 1, none⟩ (.int .i64 ((rd_T41 l0_5 x12_1).f1))).setCell ⟨gb104, 2, none⟩ (.slice A103_2 ((rd_T41 l0_5 x12_1).f2).length c103_2)) = w32 at n0_ n1_ n2_ ⊢
          have BK101 := n0_
          have BK104 := n1_
          have HB := n2_
          clear n0_ n1_ n2_
          have n0_ := AM (kD BK101.out)
          have n1_ := AM (kD BK104.out)
          have n2_ := AM (bD HB.out)
          clear BK101
          clear BK104
          clear HB
          have BK101 := n0_
          have BK104 := n1_
          have HB := n2_
          clear n0_ n1_ n2_
          refine start_ (n := 26) (S := fun w' => w'.cell? ⟨gb104, 0, none⟩ = some (.int .i64 ((rd_T41 l0_5 x12_1).f0)) ∧ w'.cell? ⟨gb104, 1, none⟩ = some (.int .i64 ((rd_T41 l0_5 x12_1).f1)) ∧ w'.cell? ⟨gb104, 2, none⟩ = some (.slice A103_2 ((rd_T41 l0_5 x12_1).f2).length c103_2) ∧ w'.cell? ⟨gb101, 0, none⟩ = some (.int .i64 a0_0) ∧ w'.cell? ⟨gb101, 1, none⟩ = some (.int .i64 a0_1) ∧ w'.cell? ⟨gb101, 2, none⟩ = some (.int .i64 a0_2) ∧ w'.cell? ⟨gb101, 3, none⟩ = some (.int .i64 a0_3) ∧ w'.cell? ⟨gb101, 4, none⟩ = some (.string a0_4) ∧ w'.cell? ⟨gb101, 5, none⟩ = some (.slice (some ad103) l0_5.length c0_5)) (ds := []) (upTo 0 26) (by kernel_rfl) rfl rfl ⟨(kC BK104.out 0).trans rfl, (kC BK104.out 1).trans rfl, (kC BK104.out 2).trans rfl, (kC BK101.out 0).trans rfl, (kC BK101.out 1).trans rfl, (kC BK101.out 2).trans rfl, (kC BK101.out 3).trans rfl, (kC BK101.out 4).trans rfl, (kC BK101.out 5).trans rfl⟩ (fun hHeld => ?_); refine with_tabW impl_isSay.tab6 impl_isSay.bits6 (fun HT_ HW_ => ?_)
          generalize w32.drew = w33 at BK101 BK104 HB hHeld ⊢
          refine pT2 0 17 (upTo 1 26) ?_ hHeld
          refine one_ (i := 1) (N := some 18) (upTo 2 26) rfl rfl (one_of HT_.out (by kernel_rfl)) (by decide) (fun K hK => ?_)
          refine goes_ Try.func33 (by kernel_rfl) rfl #[.agg #[.int .i64 ((rd_T41 l0_5 x12_1).f0), .int .i64 ((rd_T41 l0_5 x12_1).f1), .slice A103_2 ((rd_T41 l0_5 x12_1).f2).length c103_2]] (by rfl) rfl rfl (by (try simp only [mA, mB, mC]); first | done | rfl | (simp only [mD, mE]; rfl)) ?_
          with_reducible refine (impl_isChange.calls k1 ((rd_T41 l0_5 x12_1).f0) ((rd_T41 l0_5 x12_1).f1) _ _ ((rd_T41 l0_5 x12_1).f2) true _ ?side1 ?side2 A9.out).mono ?_
          (case side1 => repeat (first | exact (cB HR103_2.out HB.out) | (with_reducible refine cA ?_ _) | (with_reducible refine cN ?_ _) | (with_reducible refine cD ?_)))
          (case side2 => exact HC103_2.out)
          rintro e w34 ⟨rfl, hb⟩
          refine ⟨_, rfl, ?_⟩
          have n0_ := AM (blk_below (g := gb101) (o := .cells #[.int .i64 a0_0, .int .i64 a0_1, .int .i64 a0_2, .int .i64 a0_3, .string a0_4, .slice (some ad103) l0_5.length c0_5] 29 (0, 0)) (by (with_reducible repeat (first | apply kN | apply kD | apply kA)); exact BK101.out) hb)
          have n1_ := AM (blk_below (g := gb104) (o := .cells #[.int .i64 ((rd_T41 l0_5 x12_1).f0), .int .i64 ((rd_T41 l0_5 x12_1).f1), .slice A103_2 ((rd_T41 l0_5 x12_1).f2).length c103_2] 41 (0, 0)) (by (with_reducible repeat (first | apply kN | apply kD | apply kA)); exact BK104.out) hb)
          have n2_ := AM (below_step (by repeat (first | (with_reducible first | exact HB.out | apply bA | apply bN | apply bD | refine bS ?_ GE101.out | refine bS ?_ GE104.out) | exact HB.out)) hb)
          clear BK101
          clear BK104
          clear HB
          have BK101 := n0_
          have BK104 := n1_
          have HB := n2_
          clear n0_ n1_ n2_
          (try clear hb)
          (try clear hb2)
          (try clear hk)
          (try clear hi)
          refine hK.out _ _ ⟨(kC BK104.out 0).trans rfl, (kC BK104.out 1).trans rfl, (kC BK104.out 2).trans rfl, (kC BK101.out 0).trans rfl, (kC BK101.out 1).trans rfl, (kC BK101.out 2).trans rfl, (kC BK101.out 3).trans rfl, (kC BK101.out 4).trans rfl, (kC BK101.out 5).trans rfl⟩ (fun hHeld => ?_)
          clear hK K
          refine norm_ (a' := ?_) ?_ ?_
          rotate_left
          ·
           show Act.put _ (some 18) _ = _
           simp only [Act.put, sA, sB, sC, i64_w, i32_w]
           rfl
          refine pF 2 3 26 19 ?_
          refine pF 3 4 26 20 ?_
          refine pF 4 5 26 21 ?_
          refine pF2 6 23 impl_isSay.b0 ?_
          refine pT2 5 22 (upTo 7 26) ?_ hHeld
          refine pT2 7 24 (upTo 8 26) ?_ hHeld
          refine pF 8 9 26 25 ?_
          refine pF 9 10 26 26 ?_
          refine pF 10 11 26 27 ?_
          refine pF 11 12 26 28 ?_
          refine pF 12 13 26 29 ?_
          refine pF 13 14 26 30 ?_
          refine pU 14 15 26 31 ?_
          refine pU 15 16 26 32 ?_
          refine pU 16 17 26 33 ?_
          refine pU 17 18 26 34 ?_
          refine pU 18 19 26 35 ?_
          refine pU 19 20 26 36 ?_
          refine pU 20 21 26 37 ?_
          refine pU 21 22 26 38 ?_
          refine pU 22 23 26 39 ?_
          refine pU 23 24 26 40 ?_
          refine pF 24 25 26 41 ?_
          refine pF 25 26 26 42 ?_
          refine done_ (done_of HT_.out (by kernel_rfl)) ?_
          try go_wp2
          go_roundg k1
          case measure => have := HK1.out; omega
          case rel => exact ⟨(wrap64 (x12_1 + 1)), (by first | rfl | (simp; done) | (simp [*]; done)), H', ⟨by have := HK1.out; omega⟩, ⟨by (with_reducible repeat (first | apply kN | apply kD | apply kA)); exact BK101.out⟩, ⟨by repeat (first | (with_reducible first | exact HB.out | apply bA | apply bN | apply bD | refine bS ?_ GE101.out | refine bS ?_ GE104.out) | exact HB.out)⟩⟩
        ·
         rw [if_neg c11] at H
         have c11b0 : (((rd_T41 l0_5 x12_1).f1) == a0_2) = false := beq_eq_false_iff_ne.mpr c11
         have c11b1 : (((rd_T41 l0_5 x12_1).f1) != a0_2) = true := bne_iff_ne.mpr c11
         obtain rfl := Option.some.inj H
         have p103 : 0 ≤ (x12_1 : Int) := of_decide_eq_true (by assumption)
         have q103 : x12_1 < (l0_5.length : Int) := of_decide_eq_true (by assumption)
         obtain ⟨ad103, A103_2, c103_2, e103, hx103_0, hx103_1, hx103_2, hl103_2, hi103_2⟩ := at_T41 HR0_5.out x12_1 p103 q103
         cases e103
         replace hx103_0 := pw_cell_below HB.out hx103_0
         replace hx103_1 := pw_cell_below HB.out hx103_1
         replace hx103_2 := pw_cell_below HB.out hx103_2
         have HR103_2 := AM hi103_2
         have HC103_2 := AM hl103_2
         clear hi103_2 hl103_2
         replace p103 := eq_true p103
         replace q103 := eq_true q103
         try go_wp2_with (first | ((with_reducible refine gate_dst (N := 4) rfl ?_); (try (refine gate_guard (by rfl) ?_; dsimp only)); refine box_event (by rfl) (N := 4) (by rfl) (cs := #[.int .i64 0, .int .i64 0, .slice none 0 0]) (t := 41) (by first | (go_simp; done) | (go_simp; rfl)) ?_; intro gb104 hg w35 hbox hb; have n0_ := AM (blk_below (g := gb101) (o := .cells #[.int .i64 a0_0, .int .i64 a0_1, .int .i64 a0_2, .int .i64 a0_3, .string a0_4, .slice (some ad103) l0_5.length c0_5] 29 (0, 0)) (by (with_reducible repeat (first | apply kN | apply kD | apply kA)); exact BK101.out) hb); have n1_ := AM (below_step (by repeat (first | (with_reducible first | exact HB.out | apply bA | apply bN | apply bD | refine bS ?_ GE101.out) | exact HB.out)) hb); have n2_ := AM (hbox); have n3_ := AM ((by rw [hg]; exact (bZ (by repeat (first | (with_reducible first | exact HB.out | apply bA | apply bN | apply bD | refine bS ?_ GE101.out) | exact HB.out))) : w.heap.size ≤ gb104)); have n4_ := n3_; have n5_ := AM ((by rw [hg]; exact Nat.ne_of_lt (blk_lt (g := gb101) (o := .cells #[.int .i64 a0_0, .int .i64 a0_1, .int .i64 a0_2, .int .i64 a0_3, .string a0_4, .slice (some ad103) l0_5.length c0_5] 29 (0, 0)) (by (with_reducible repeat (first | apply kN | apply kD | apply kA)); exact BK101.out)) : gb101 ≠ gb104)); have n6_ := AM ((by rw [hg]; exact Nat.ne_of_gt (blk_lt (g := gb101) (o := .cells #[.int .i64 a0_0, .int .i64 a0_1, .int .i64 a0_2, .int .i64 a0_3, .string a0_4, .slice (some ad103) l0_5.length c0_5] 29 (0, 0)) (by (with_reducible repeat (first | apply kN | apply kD | apply kA)); exact BK101.out)) : gb104 ≠ gb101)); clear BK101; clear HB; have BK101 := n0_; have HB := n1_; have BK104 := n2_; have GW104 := n3_; have GE104 := n4_; have NB101_104 := n5_; have NB104_101 := n6_; clear n0_ n1_ n2_ n3_ n4_ n5_ n6_; clear hb hbox hg; have hnb36 := NB104_101.out; have hnc36 := NB101_104.out; have hcz37_0 : w35.cell? ⟨gb104, 0, none⟩ = some (.int .i64 0) := (kC BK104.out 0).trans rfl; have hcz37_1 : w35.cell? ⟨gb104, 1, none⟩ = some (.int .i64 0) := (kC BK104.out 1).trans rfl; have hcz37_2 : w35.cell? ⟨gb104, 2, none⟩ = some (.slice none 0 0) := (kC BK104.out 2).trans rfl; have hfz37_0 := fZ BK104.out 0; have hfz37_1 := fZ BK104.out 1; have hfz37_2 := fZ BK104.out 2))
         have n0_ : Aside0 ((((w35.setCell ⟨gb104, 0, none⟩ (.int .i64 ((rd_T41 l0_5 x12_1).f0))).setCell ⟨gb104, 1, none⟩ (.int .i64 ((rd_T41 l0_5 x12_1).f1))).setCell ⟨gb104, 2, none⟩ (.slice A103_2 ((rd_T41 l0_5 x12_1).f2).length c103_2)).heap[gb101]? = some (.cells #[.int .i64 a0_0, .int .i64 a0_1, .int .i64 a0_2, .int .i64 a0_3, .string a0_4, .slice (some ad103) l0_5.length c0_5] 29 (0, 0))) := ⟨by (with_reducible repeat (first | apply kN | apply kD | apply kA)); refine blk_far ?_ NB101_104.out _; (with_reducible repeat (first | apply kN | apply kD | apply kA)); refine blk_far ?_ NB101_104.out _; (with_reducible repeat (first | apply kN | apply kD | apply kA)); refine blk_far ?_ NB101_104.out _; (with_reducible repeat (first | apply kN | apply kD | apply kA)); exact BK101.out⟩
         have n1_ : Aside0 ((((w35.setCell ⟨gb104, 0, none⟩ (.int .i64 ((rd_T41 l0_5 x12_1).f0))).setCell ⟨gb104, 1, none⟩ (.int .i64 ((rd_T41 l0_5 x12_1).f1))).setCell ⟨gb104, 2, none⟩ (.slice A103_2 ((rd_T41 l0_5 x12_1).f2).length c103_2)).heap[gb104]? = some (.cells #[.int .i64 ((rd_T41 l0_5 x12_1).f0), .int .i64 ((rd_T41 l0_5 x12_1).f1), .slice A103_2 ((rd_T41 l0_5 x12_1).f2).length c103_2] 41 (0, 0))) := ⟨by (with_reducible repeat (first | apply kN | apply kD | apply kA)); refine blk_put (cs := #[.int .i64 ((rd_T41 l0_5 x12_1).f0), .int .i64 ((rd_T41 l0_5 x12_1).f1), .slice none 0 0]) ?_ 2 _ rfl; (with_reducible repeat (first | apply kN | apply kD | apply kA)); refine blk_put (cs := #[.int .i64 ((rd_T41 l0_5 x12_1).f0), .int .i64 0, .slice none 0 0]) ?_ 1 _ rfl; (with_reducible repeat (first | apply kN | apply kD | apply kA)); refine blk_put (cs := #[.int .i64 0, .int .i64 0, .slice none 0 0]) ?_ 0 _ rfl; (with_reducible repeat (first | apply kN | apply kD | apply kA)); exact BK104.out⟩
         have n2_ : Aside0 (Below w.heap.size w (((w35.setCell ⟨gb104, 0, none⟩ (.int .i64 ((rd_T41 l0_5 x12_1).f0))).setCell ⟨gb104, 1, none⟩ (.int .i64 ((rd_T41 l0_5 x12_1).f1))).setCell ⟨gb104, 2, none⟩ (.slice A103_2 ((rd_T41 l0_5 x12_1).f2).length c103_2))) := ⟨by repeat (first | (with_reducible first | exact HB.out | apply bA | apply bN | apply bD | refine bS ?_ GE101.out | refine bS ?_ GE104.out) | exact HB.out)⟩
         (try clear BK101)
         (try clear BK104)
         (try clear HB)
         generalize (((w35.setCell ⟨gb104, 0, none⟩ (.int .i64 ((rd_T41 l0_5 x12_1).f0))).setCell ⟨gb104, 1, none⟩ (.int .i64 ((rd_T41 l0_5 x12_1).f1))).setCell ⟨gb104, 2, none⟩ (.slice A103_2 ((rd_T41 l0_5 x12_1).f2).length c103_2)) = w38 at n0_ n1_ n2_ ⊢
         have BK101 := n0_
         have BK104 := n1_
         have HB := n2_
         clear n0_ n1_ n2_
         have n0_ := AM (kD BK101.out)
         have n1_ := AM (kD BK104.out)
         have n2_ := AM (bD HB.out)
         clear BK101
         clear BK104
         clear HB
         have BK101 := n0_
         have BK104 := n1_
         have HB := n2_
         clear n0_ n1_ n2_
         refine start_ (n := 26) (S := fun w' => w'.cell? ⟨gb104, 0, none⟩ = some (.int .i64 ((rd_T41 l0_5 x12_1).f0)) ∧ w'.cell? ⟨gb104, 1, none⟩ = some (.int .i64 ((rd_T41 l0_5 x12_1).f1)) ∧ w'.cell? ⟨gb104, 2, none⟩ = some (.slice A103_2 ((rd_T41 l0_5 x12_1).f2).length c103_2) ∧ w'.cell? ⟨gb101, 0, none⟩ = some (.int .i64 a0_0) ∧ w'.cell? ⟨gb101, 1, none⟩ = some (.int .i64 a0_1) ∧ w'.cell? ⟨gb101, 2, none⟩ = some (.int .i64 a0_2) ∧ w'.cell? ⟨gb101, 3, none⟩ = some (.int .i64 a0_3) ∧ w'.cell? ⟨gb101, 4, none⟩ = some (.string a0_4) ∧ w'.cell? ⟨gb101, 5, none⟩ = some (.slice (some ad103) l0_5.length c0_5)) (ds := []) (upTo 0 26) (by kernel_rfl) rfl rfl ⟨(kC BK104.out 0).trans rfl, (kC BK104.out 1).trans rfl, (kC BK104.out 2).trans rfl, (kC BK101.out 0).trans rfl, (kC BK101.out 1).trans rfl, (kC BK101.out 2).trans rfl, (kC BK101.out 3).trans rfl, (kC BK101.out 4).trans rfl, (kC BK101.out 5).trans rfl⟩ (fun hHeld => ?_); refine with_tabW impl_isSay.tab6 impl_isSay.bits6 (fun HT_ HW_ => ?_)
         generalize w38.drew = w39 at BK101 BK104 HB hHeld ⊢
         refine pT2 0 17 (upTo 1 26) ?_ hHeld
         refine one_ (i := 1) (N := some 18) (upTo 2 26) rfl rfl (one_of HT_.out (by kernel_rfl)) (by decide) (fun K hK => ?_)
         refine goes_ Try.func33 (by kernel_rfl) rfl #[.agg #[.int .i64 ((rd_T41 l0_5 x12_1).f0), .int .i64 ((rd_T41 l0_5 x12_1).f1), .slice A103_2 ((rd_T41 l0_5 x12_1).f2).length c103_2]] (by rfl) rfl rfl (by (try simp only [mA, mB, mC]); first | done | rfl | (simp only [mD, mE]; rfl)) ?_
         with_reducible refine (impl_isChange.calls k1 ((rd_T41 l0_5 x12_1).f0) ((rd_T41 l0_5 x12_1).f1) _ _ ((rd_T41 l0_5 x12_1).f2) true _ ?side1 ?side2 A9.out).mono ?_
         (case side1 => repeat (first | exact (cB HR103_2.out HB.out) | (with_reducible refine cA ?_ _) | (with_reducible refine cN ?_ _) | (with_reducible refine cD ?_)))
         (case side2 => exact HC103_2.out)
         rintro e w40 ⟨rfl, hb⟩
         refine ⟨_, rfl, ?_⟩
         have n0_ := AM (blk_below (g := gb101) (o := .cells #[.int .i64 a0_0, .int .i64 a0_1, .int .i64 a0_2, .int .i64 a0_3, .string a0_4, .slice (some ad103) l0_5.length c0_5] 29 (0, 0)) (by (with_reducible repeat (first | apply kN | apply kD | apply kA)); exact BK101.out) hb)
         have n1_ := AM (blk_below (g := gb104) (o := .cells #[.int .i64 ((rd_T41 l0_5 x12_1).f0), .int .i64 ((rd_T41 l0_5 x12_1).f1), .slice A103_2 ((rd_T41 l0_5 x12_1).f2).length c103_2] 41 (0, 0)) (by (with_reducible repeat (first | apply kN | apply kD | apply kA)); exact BK104.out) hb)
         have n2_ := AM (below_step (by repeat (first | (with_reducible first | exact HB.out | apply bA | apply bN | apply bD | refine bS ?_ GE101.out | refine bS ?_ GE104.out) | exact HB.out)) hb)
         clear BK101
         clear BK104
         clear HB
         have BK101 := n0_
         have BK104 := n1_
         have HB := n2_
         clear n0_ n1_ n2_
         (try clear hb)
         (try clear hb2)
         (try clear hk)
         (try clear hi)
         refine hK.out _ _ ⟨(kC BK104.out 0).trans rfl, (kC BK104.out 1).trans rfl, (kC BK104.out 2).trans rfl, (kC BK101.out 0).trans rfl, (kC BK101.out 1).trans rfl, (kC BK101.out 2).trans rfl, (kC BK101.out 3).trans rfl, (kC BK101.out 4).trans rfl, (kC BK101.out 5).trans rfl⟩ (fun hHeld => ?_)
         clear hK K
         refine norm_ (a' := ?_) ?_ ?_
         rotate_left
         ·
          show Act.put _ (some 18) _ = _
          simp only [Act.put, sA, sB, sC, i64_w, i32_w]
          rfl
         refine pF 2 3 26 19 ?_
         refine pF 3 4 26 20 ?_
         refine pF 4 5 26 21 ?_
         refine pF2 6 23 impl_isSay.b0 ?_
         refine pT2 5 22 (upTo 7 26) ?_ hHeld
         refine pT2 7 24 (upTo 8 26) ?_ hHeld
         refine pF 8 9 26 25 ?_
         refine pF 9 10 26 26 ?_
         refine pF 10 11 26 27 ?_
         refine pU 11 12 26 28 ?_
         refine pU 12 13 26 29 ?_
         refine pU 13 14 26 30 ?_
         refine pU 14 15 26 31 ?_
         refine pU 15 16 26 32 ?_
         refine pU 16 17 26 33 ?_
         refine pU 17 18 26 34 ?_
         refine pU 18 19 26 35 ?_
         refine pU 19 20 26 36 ?_
         refine pU 20 21 26 37 ?_
         refine pU 21 22 26 38 ?_
         refine pU 22 23 26 39 ?_
         refine pU 23 24 26 40 ?_
         refine pU 24 25 26 41 ?_
         refine pF 25 26 26 42 ?_
         refine done_ (done_of HT_.out (by kernel_rfl)) ?_
         try go_wp2
         go_ret
         exact ⟨by first | rfl | (simp [*, errW_none, errW_some] <;> rfl), by repeat (first | (with_reducible first | exact HB.out | apply bA | apply bN | apply bD | refine bS ?_ GE101.out | refine bS ?_ GE104.out) | exact HB.out)⟩
       ·
        replace c10 := Bool.eq_false_iff.mpr c10
        subst c10
        have H1 : (some false) = some r := by rw [if_neg (show ¬ (false = true) by decide)] at H; exact H
        clear H
        have H := H1
        clear H1
        obtain rfl := Option.some.inj H
        have p103 : 0 ≤ (x12_1 : Int) := of_decide_eq_true (by assumption)
        have q103 : x12_1 < (l0_5.length : Int) := of_decide_eq_true (by assumption)
        obtain ⟨ad103, A103_2, c103_2, e103, hx103_0, hx103_1, hx103_2, hl103_2, hi103_2⟩ := at_T41 HR0_5.out x12_1 p103 q103
        cases e103
        replace hx103_0 := pw_cell_below HB.out hx103_0
        replace hx103_1 := pw_cell_below HB.out hx103_1
        replace hx103_2 := pw_cell_below HB.out hx103_2
        have HR103_2 := AM hi103_2
        have HC103_2 := AM hl103_2
        clear hi103_2 hl103_2
        replace p103 := eq_true p103
        replace q103 := eq_true q103
        try go_wp2_with (first | ((with_reducible refine gate_dst (N := 4) rfl ?_); (try (refine gate_guard (by rfl) ?_; dsimp only)); refine box_event (by rfl) (N := 4) (by rfl) (cs := #[.int .i64 0, .int .i64 0, .slice none 0 0]) (t := 41) (by first | (go_simp; done) | (go_simp; rfl)) ?_; intro gb104 hg w41 hbox hb; have n0_ := AM (blk_below (g := gb101) (o := .cells #[.int .i64 a0_0, .int .i64 a0_1, .int .i64 a0_2, .int .i64 a0_3, .string a0_4, .slice (some ad103) l0_5.length c0_5] 29 (0, 0)) (by (with_reducible repeat (first | apply kN | apply kD | apply kA)); exact BK101.out) hb); have n1_ := AM (below_step (by repeat (first | (with_reducible first | exact HB.out | apply bA | apply bN | apply bD | refine bS ?_ GE101.out) | exact HB.out)) hb); have n2_ := AM (hbox); have n3_ := AM ((by rw [hg]; exact (bZ (by repeat (first | (with_reducible first | exact HB.out | apply bA | apply bN | apply bD | refine bS ?_ GE101.out) | exact HB.out))) : w.heap.size ≤ gb104)); have n4_ := n3_; have n5_ := AM ((by rw [hg]; exact Nat.ne_of_lt (blk_lt (g := gb101) (o := .cells #[.int .i64 a0_0, .int .i64 a0_1, .int .i64 a0_2, .int .i64 a0_3, .string a0_4, .slice (some ad103) l0_5.length c0_5] 29 (0, 0)) (by (with_reducible repeat (first | apply kN | apply kD | apply kA)); exact BK101.out)) : gb101 ≠ gb104)); have n6_ := AM ((by rw [hg]; exact Nat.ne_of_gt (blk_lt (g := gb101) (o := .cells #[.int .i64 a0_0, .int .i64 a0_1, .int .i64 a0_2, .int .i64 a0_3, .string a0_4, .slice (some ad103) l0_5.length c0_5] 29 (0, 0)) (by (with_reducible repeat (first | apply kN | apply kD | apply kA)); exact BK101.out)) : gb104 ≠ gb101)); clear BK101; clear HB; have BK101 := n0_; have HB := n1_; have BK104 := n2_; have GW104 := n3_; have GE104 := n4_; have NB101_104 := n5_; have NB104_101 := n6_; clear n0_ n1_ n2_ n3_ n4_ n5_ n6_; clear hb hbox hg; have hnb42 := NB104_101.out; have hnc42 := NB101_104.out; have hcz43_0 : w41.cell? ⟨gb104, 0, none⟩ = some (.int .i64 0) := (kC BK104.out 0).trans rfl; have hcz43_1 : w41.cell? ⟨gb104, 1, none⟩ = some (.int .i64 0) := (kC BK104.out 1).trans rfl; have hcz43_2 : w41.cell? ⟨gb104, 2, none⟩ = some (.slice none 0 0) := (kC BK104.out 2).trans rfl; have hfz43_0 := fZ BK104.out 0; have hfz43_1 := fZ BK104.out 1; have hfz43_2 := fZ BK104.out 2))
        have n0_ : Aside0 ((((w41.setCell ⟨gb104, 0, none⟩ (.int .i64 ((rd_T41 l0_5 x12_1).f0))).setCell ⟨gb104, 1, none⟩ (.int .i64 ((rd_T41 l0_5 x12_1).f1))).setCell ⟨gb104, 2, none⟩ (.slice A103_2 ((rd_T41 l0_5 x12_1).f2).length c103_2)).heap[gb101]? = some (.cells #[.int .i64 a0_0, .int .i64 a0_1, .int .i64 a0_2, .int .i64 a0_3, .string a0_4, .slice (some ad103) l0_5.length c0_5] 29 (0, 0))) := ⟨by (with_reducible repeat (first | apply kN | apply kD | apply kA)); refine blk_far ?_ NB101_104.out _; (with_reducible repeat (first | apply kN | apply kD | apply kA)); refine blk_far ?_ NB101_104.out _; (with_reducible repeat (first | apply kN | apply kD | apply kA)); refine blk_far ?_ NB101_104.out _; (with_reducible repeat (first | apply kN | apply kD | apply kA)); exact BK101.out⟩
        have n1_ : Aside0 ((((w41.setCell ⟨gb104, 0, none⟩ (.int .i64 ((rd_T41 l0_5 x12_1).f0))).setCell ⟨gb104, 1, none⟩ (.int .i64 ((rd_T41 l0_5 x12_1).f1))).setCell ⟨gb104, 2, none⟩ (.slice A103_2 ((rd_T41 l0_5 x12_1).f2).length c103_2)).heap[gb104]? = some (.cells #[.int .i64 ((rd_T41 l0_5 x12_1).f0), .int .i64 ((rd_T41 l0_5 x12_1).f1), .slice A103_2 ((rd_T41 l0_5 x12_1).f2).length c103_2] 41 (0, 0))) := ⟨by (with_reducible repeat (first | apply kN | apply kD | apply kA)); refine blk_put (cs := #[.int .i64 ((rd_T41 l0_5 x12_1).f0), .int .i64 ((rd_T41 l0_5 x12_1).f1), .slice none 0 0]) ?_ 2 _ rfl; (with_reducible repeat (first | apply kN | apply kD | apply kA)); refine blk_put (cs := #[.int .i64 ((rd_T41 l0_5 x12_1).f0), .int .i64 0, .slice none 0 0]) ?_ 1 _ rfl; (with_reducible repeat (first | apply kN | apply kD | apply kA)); refine blk_put (cs := #[.int .i64 0, .int .i64 0, .slice none 0 0]) ?_ 0 _ rfl; (with_reducible repeat (first | apply kN | apply kD | apply kA)); exact BK104.out⟩
        have n2_ : Aside0 (Below w.heap.size w (((w41.setCell ⟨gb104, 0, none⟩ (.int .i64 ((rd_T41 l0_5 x12_1).f0))).setCell ⟨gb104, 1, none⟩ (.int .i64 ((rd_T41 l0_5 x12_1).f1))).setCell ⟨gb104, 2, none⟩ (.slice A103_2 ((rd_T41 l0_5 x12_1).f2).length c103_2))) := ⟨by repeat (first | (with_reducible first | exact HB.out | apply bA | apply bN | apply bD | refine bS ?_ GE101.out | refine bS ?_ GE104.out) | exact HB.out)⟩
        (try clear BK101)
        (try clear BK104)
        (try clear HB)
        generalize (((w41.setCell ⟨gb104, 0, none⟩ (.int .i64 ((rd_T41 l0_5 x12_1).f0))).setCell ⟨gb104, 1, none⟩ (.int .i64 ((rd_T41 l0_5 x12_1).f1))).setCell ⟨gb104, 2, none⟩ (.slice A103_2 ((rd_T41 l0_5 x12_1).f2).length c103_2)) = w44 at n0_ n1_ n2_ ⊢
        have BK101 := n0_
        have BK104 := n1_
        have HB := n2_
        clear n0_ n1_ n2_
        have n0_ := AM (kD BK101.out)
        have n1_ := AM (kD BK104.out)
        have n2_ := AM (bD HB.out)
        clear BK101
        clear BK104
        clear HB
        have BK101 := n0_
        have BK104 := n1_
        have HB := n2_
        clear n0_ n1_ n2_
        refine start_ (n := 26) (S := fun w' => w'.cell? ⟨gb104, 0, none⟩ = some (.int .i64 ((rd_T41 l0_5 x12_1).f0)) ∧ w'.cell? ⟨gb104, 1, none⟩ = some (.int .i64 ((rd_T41 l0_5 x12_1).f1)) ∧ w'.cell? ⟨gb104, 2, none⟩ = some (.slice A103_2 ((rd_T41 l0_5 x12_1).f2).length c103_2)) (ds := []) (upTo 0 26) (by kernel_rfl) rfl rfl ⟨(kC BK104.out 0).trans rfl, (kC BK104.out 1).trans rfl, (kC BK104.out 2).trans rfl⟩ (fun hHeld => ?_); refine with_tabW impl_isSay.tab6 impl_isSay.bits6 (fun HT_ HW_ => ?_)
        generalize w44.drew = w45 at BK101 BK104 HB hHeld ⊢
        refine pT2 0 17 (upTo 1 26) ?_ hHeld
        refine one_ (i := 1) (N := some 18) (upTo 2 26) rfl rfl (one_of HT_.out (by kernel_rfl)) (by decide) (fun K hK => ?_)
        refine goes_ Try.func33 (by kernel_rfl) rfl #[.agg #[.int .i64 ((rd_T41 l0_5 x12_1).f0), .int .i64 ((rd_T41 l0_5 x12_1).f1), .slice A103_2 ((rd_T41 l0_5 x12_1).f2).length c103_2]] (by rfl) rfl rfl (by (try simp only [mA, mB, mC]); first | done | rfl | (simp only [mD, mE]; rfl)) ?_
        with_reducible refine (impl_isChange.calls k1 ((rd_T41 l0_5 x12_1).f0) ((rd_T41 l0_5 x12_1).f1) _ _ ((rd_T41 l0_5 x12_1).f2) false _ ?side1 ?side2 A9.out).mono ?_
        (case side1 => repeat (first | exact (cB HR103_2.out HB.out) | (with_reducible refine cA ?_ _) | (with_reducible refine cN ?_ _) | (with_reducible refine cD ?_)))
        (case side2 => exact HC103_2.out)
        rintro e w46 ⟨rfl, hb⟩
        refine ⟨_, rfl, ?_⟩
        have n0_ := AM (blk_below (g := gb101) (o := .cells #[.int .i64 a0_0, .int .i64 a0_1, .int .i64 a0_2, .int .i64 a0_3, .string a0_4, .slice (some ad103) l0_5.length c0_5] 29 (0, 0)) (by (with_reducible repeat (first | apply kN | apply kD | apply kA)); exact BK101.out) hb)
        have n1_ := AM (blk_below (g := gb104) (o := .cells #[.int .i64 ((rd_T41 l0_5 x12_1).f0), .int .i64 ((rd_T41 l0_5 x12_1).f1), .slice A103_2 ((rd_T41 l0_5 x12_1).f2).length c103_2] 41 (0, 0)) (by (with_reducible repeat (first | apply kN | apply kD | apply kA)); exact BK104.out) hb)
        have n2_ := AM (below_step (by repeat (first | (with_reducible first | exact HB.out | apply bA | apply bN | apply bD | refine bS ?_ GE101.out | refine bS ?_ GE104.out) | exact HB.out)) hb)
        clear BK101
        clear BK104
        clear HB
        have BK101 := n0_
        have BK104 := n1_
        have HB := n2_
        clear n0_ n1_ n2_
        (try clear hb)
        (try clear hb2)
        (try clear hk)
        (try clear hi)
        refine hK.out _ _ ⟨(kC BK104.out 0).trans rfl, (kC BK104.out 1).trans rfl, (kC BK104.out 2).trans rfl⟩ (fun hHeld => ?_)
        clear hK K
        refine norm_ (a' := ?_) ?_ ?_
        rotate_left
        ·
         show Act.put _ (some 18) _ = _
         simp only [Act.put, sA, sB, sC, i64_w, i32_w]
         rfl
        refine pF 2 3 26 19 ?_
        refine pF 3 4 26 20 ?_
        refine pU 4 5 26 21 ?_
        refine pU 5 6 26 22 ?_
        refine pU 6 7 26 23 ?_
        refine pU 7 8 26 24 ?_
        refine pU 8 9 26 25 ?_
        refine pF 9 10 26 26 ?_
        refine pF 10 11 26 27 ?_
        refine pU 11 12 26 28 ?_
        refine pU 12 13 26 29 ?_
        refine pU 13 14 26 30 ?_
        refine pU 14 15 26 31 ?_
        refine pU 15 16 26 32 ?_
        refine pU 16 17 26 33 ?_
        refine pU 17 18 26 34 ?_
        refine pU 18 19 26 35 ?_
        refine pU 19 20 26 36 ?_
        refine pU 20 21 26 37 ?_
        refine pU 21 22 26 38 ?_
        refine pU 22 23 26 39 ?_
        refine pU 23 24 26 40 ?_
        refine pU 24 25 26 41 ?_
        refine pF 25 26 26 42 ?_
        refine done_ (done_of HT_.out (by kernel_rfl)) ?_
        try go_wp2
        go_ret
        exact ⟨by first | rfl | (simp [*, errW_none, errW_some] <;> rfl), by repeat (first | (with_reducible first | exact HB.out | apply bA | apply bN | apply bD | refine bS ?_ GE101.out | refine bS ?_ GE104.out) | exact HB.out)⟩
      ·
       rw [if_neg c8] at H
       exact absurd H (by simp)
     ·
      rw [if_neg c7] at H
      exact absurd H (by simp)
    ·
     rw [if_neg c6] at H
     have c6b0 : decide (x12_1 < (l0_5.length : Int)) = false := decide_eq_false c6
     clear c6
     have HC47 := AM H
     clear H
     have hcz48_0 : wr.cell? ⟨gb101, 0, none⟩ = some (.int .i64 a0_0) := (kC BK101.out 0).trans rfl
     have hcz48_1 : wr.cell? ⟨gb101, 1, none⟩ = some (.int .i64 a0_1) := (kC BK101.out 1).trans rfl
     have hcz48_2 : wr.cell? ⟨gb101, 2, none⟩ = some (.int .i64 a0_2) := (kC BK101.out 2).trans rfl
     have hcz48_3 : wr.cell? ⟨gb101, 3, none⟩ = some (.int .i64 a0_3) := (kC BK101.out 3).trans rfl
     have hcz48_4 : wr.cell? ⟨gb101, 4, none⟩ = some (.string a0_4) := (kC BK101.out 4).trans rfl
     have hcz48_5 : wr.cell? ⟨gb101, 5, none⟩ = some (.slice A0_5 l0_5.length c0_5) := (kC BK101.out 5).trans rfl
     have hfz48_0 := fZ BK101.out 0
     have hfz48_1 := fZ BK101.out 1
     have hfz48_2 := fZ BK101.out 2
     have hfz48_3 := fZ BK101.out 3
     have hfz48_4 := fZ BK101.out 4
     have hfz48_5 := fZ BK101.out 5
     go_upto_if 46 with (fail)
     go_cut [46] (fun v46 wc => ∃ (kq : Nat) (x46_46 : Bool), v46 = .bool x46_46 ∧ Aside0 (impl_isSay.j1 kq a0_0 x46_46 a0_0 a0_1 a0_2 a0_3 a0_4 l0_5 = some r) ∧ Aside0 (kq ≤ k1) ∧ Aside0 (wc.heap[gb101]? = some (.cells #[.int .i64 a0_0, .int .i64 a0_1, .int .i64 a0_2, .int .i64 a0_3, .string a0_4, (.slice A0_5 l0_5.length c0_5)] 29 (0, 0))) ∧ Aside0 (Below w.heap.size w wc))
     case first =>
      have H := HC47.out
      clear HC47
      by_cases c49 : a0_0 = 1
      ·
       rw [if_pos c49] at H
       have c49b0 : (a0_0 == 1) = true := beq_iff_eq.mpr c49
       have c49b1 : (a0_0 != 1) = false := bne_eq_false_iff_eq.mpr c49
       clear c49
       (first | rw [c49b0] | (simp only [i64_w, i32_w]; rw [c49b0]) | skip)
       have H' := AM H
       clear H
       go_wp2
       go_meet
       case rel => exact ⟨_, ((a0_0 == 1)), (by first | rfl | (simp; done) | (simp [*]; done)), H', ⟨by have := HK1.out; first | omega | exact Nat.le_refl _⟩, ⟨by (with_reducible repeat (first | apply kN | apply kD | apply kA)); exact BK101.out⟩, ⟨by repeat (first | (with_reducible first | exact HB.out | apply bA | apply bN | apply bD | refine bS ?_ GE101.out) | exact HB.out)⟩⟩
      ·
       rw [if_neg c49] at H
       have c49b0 : (a0_0 == 1) = false := beq_eq_false_iff_ne.mpr c49
       have c49b1 : (a0_0 != 1) = true := bne_iff_ne.mpr c49
       (first | rw [c49b0] | (simp only [i64_w, i32_w]; rw [c49b0]) | skip)
       by_cases c50 : a0_0 = 2
       ·
        rw [if_pos c50] at H
        have c50b0 : (a0_0 == 2) = true := beq_iff_eq.mpr c50
        have c50b1 : (a0_0 != 2) = false := bne_eq_false_iff_eq.mpr c50
        clear c50
        have H' := AM H
        clear H
        go_wp2
        go_meet
        case rel => exact ⟨_, ((a0_0 == 2)), (by first | rfl | (simp; done) | (simp [*]; done)), H', ⟨by have := HK1.out; first | omega | exact Nat.le_refl _⟩, ⟨by (with_reducible repeat (first | apply kN | apply kD | apply kA)); exact BK101.out⟩, ⟨by repeat (first | (with_reducible first | exact HB.out | apply bA | apply bN | apply bD | refine bS ?_ GE101.out) | exact HB.out)⟩⟩
       ·
        rw [if_neg c50] at H
        have c50b0 : (a0_0 == 2) = false := beq_eq_false_iff_ne.mpr c50
        have c50b1 : (a0_0 != 2) = true := bne_iff_ne.mpr c50
        have H' := AM H
        clear H
        go_wp2
        go_meet
        case rel => exact ⟨_, ((a0_0 == 3)), (by first | rfl | (simp; done) | (simp [*]; done)), H', ⟨by have := HK1.out; first | omega | exact Nat.le_refl _⟩, ⟨by (with_reducible repeat (first | apply kN | apply kD | apply kA)); exact BK101.out⟩, ⟨by repeat (first | (with_reducible first | exact HB.out | apply bA | apply bN | apply bD | refine bS ?_ GE101.out) | exact HB.out)⟩⟩
     case rest =>
      clear HC47
      try clear c1
      try clear p1
      try clear q1
      try clear hx1
      try clear p2
      try clear c3
      try clear c4
      try clear c5
      try clear c6
      try clear c6b0
      try clear p6
      try clear c7
      try clear c8
      try clear c10
      try clear p10
      try clear q10
      try clear hx10
      try clear c11
      try clear c11b0
      try clear c11b1
      try clear c33
      try clear c36
      try clear c42
      try clear c49
      try clear c49b0
      try clear c49b1
      try clear c50
      try clear c50b0
      try clear c50b1
      try clear hcz37_0
      try clear hcz37_1
      try clear hcz37_2
      try clear hcz43_0
      try clear hcz43_1
      try clear hcz43_2
      try clear hcz48_0
      try clear hcz48_1
      try clear hcz48_2
      try clear hcz48_3
      try clear hcz48_4
      try clear hcz48_5
      try clear hfz37_0
      try clear hfz37_1
      try clear hfz37_2
      try clear hfz43_0
      try clear hfz43_1
      try clear hfz43_2
      try clear hfz48_0
      try clear hfz48_1
      try clear hfz48_2
      try clear hfz48_3
      try clear hfz48_4
      try clear hfz48_5
      try clear hx103_0
      try clear hx103_1
      try clear hx103_2
      try clear p103
      try clear q103
      obtain ⟨kq, x46_46, rfl, HA, HJ46, BK101, HB⟩ := hcut
      cases kq with
      | zero => exact absurd HA.out (by simp [impl_isSay.j1])
      | succ kj46 =>
       have H := HA.out
       clear HA
       simp only [impl_isSay.j1] at H
       by_cases c51 : x46_46 = true
       ·
        subst c51
        have H1 : ((impl_isView.f a0_2 0).bind fun t107 => (if t107 = true then ((impl_isSeq.f a0_3).bind fun t108 => (if t108 = true then ((impl_isOp.f a0_4).bind fun t109 => (if t109 = true then (if (l0_5.length : Int) = 0 then (if a0_0 = 1 then ((impl_leader.f a0_2).bind fun t110 => (some (a0_1 == t110))) else (some true)) else (some false)) else (some false))) else (some false))) else (some false))) = some r := by rw [if_pos rfl] at H; exact H
        clear H
        have H := H1
        clear H1
        replace H := Option.bind_eq_some_iff.mp H
        obtain ⟨t107, A520, H⟩ := H
        replace H : (if t107 = true then ((impl_isSeq.f a0_3).bind fun t108 => (if t108 = true then ((impl_isOp.f a0_4).bind fun t109 => (if t109 = true then (if (l0_5.length : Int) = 0 then (if a0_0 = 1 then ((impl_leader.f a0_2).bind fun t110 => (some (a0_1 == t110))) else (some true)) else (some false)) else (some false))) else (some false))) else (some false)) = some r := H
        have A52 := AM A520
        clear A520
        by_cases c53 : t107 = true
        ·
         subst c53
         have H1 : ((impl_isSeq.f a0_3).bind fun t108 => (if t108 = true then ((impl_isOp.f a0_4).bind fun t109 => (if t109 = true then (if (l0_5.length : Int) = 0 then (if a0_0 = 1 then ((impl_leader.f a0_2).bind fun t110 => (some (a0_1 == t110))) else (some true)) else (some false)) else (some false))) else (some false))) = some r := by rw [if_pos rfl] at H; exact H
         clear H
         have H := H1
         clear H1
         replace H := Option.bind_eq_some_iff.mp H
         obtain ⟨t108, A540, H⟩ := H
         replace H : (if t108 = true then ((impl_isOp.f a0_4).bind fun t109 => (if t109 = true then (if (l0_5.length : Int) = 0 then (if a0_0 = 1 then ((impl_leader.f a0_2).bind fun t110 => (some (a0_1 == t110))) else (some true)) else (some false)) else (some false))) else (some false)) = some r := H
         have A54 := AM A540
         clear A540
         by_cases c55 : t108 = true
         ·
          subst c55
          have H1 : ((impl_isOp.f a0_4).bind fun t109 => (if t109 = true then (if (l0_5.length : Int) = 0 then (if a0_0 = 1 then ((impl_leader.f a0_2).bind fun t110 => (some (a0_1 == t110))) else (some true)) else (some false)) else (some false))) = some r := by rw [if_pos rfl] at H; exact H
          clear H
          have H := H1
          clear H1
          replace H := Option.bind_eq_some_iff.mp H
          obtain ⟨t109, A560, H⟩ := H
          replace H : (if t109 = true then (if (l0_5.length : Int) = 0 then (if a0_0 = 1 then ((impl_leader.f a0_2).bind fun t110 => (some (a0_1 == t110))) else (some true)) else (some false)) else (some false)) = some r := H
          have A56 := AM A560
          clear A560
          by_cases c57 : t109 = true
          ·
           subst c57
           have H1 : (if (l0_5.length : Int) = 0 then (if a0_0 = 1 then ((impl_leader.f a0_2).bind fun t110 => (some (a0_1 == t110))) else (some true)) else (some false)) = some r := by rw [if_pos rfl] at H; exact H
           clear H
           have H := H1
           clear H1
           by_cases c58 : (l0_5.length : Int) = 0
           ·
            rw [if_pos c58] at H
            have c58b0 : ((l0_5.length : Int) == 0) = true := beq_iff_eq.mpr c58
            have c58b1 : ((l0_5.length : Int) != 0) = false := bne_eq_false_iff_eq.mpr c58
            clear c58
            by_cases c59 : a0_0 = 1
            ·
             rw [if_pos c59] at H
             have c59b0 : (a0_0 == 1) = true := beq_iff_eq.mpr c59
             have c59b1 : (a0_0 != 1) = false := bne_eq_false_iff_eq.mpr c59
             clear c59
             replace H := Option.bind_eq_some_iff.mp H
             obtain ⟨t110, A600, H⟩ := H
             replace H : (some (a0_1 == t110)) = some r := H
             have A60 := AM A600
             clear A600
             obtain rfl := Option.some.inj H
             try go_wp2
             have n0_ := AM (kD BK101.out)
             have n1_ := AM (bD HB.out)
             clear BK101
             clear HB
             have BK101 := n0_
             have HB := n1_
             clear n0_ n1_
             refine start_ (n := 33) (S := fun w' => w'.cell? ⟨gb101, 0, none⟩ = some (.int .i64 a0_0) ∧ w'.cell? ⟨gb101, 1, none⟩ = some (.int .i64 a0_1) ∧ w'.cell? ⟨gb101, 2, none⟩ = some (.int .i64 a0_2) ∧ w'.cell? ⟨gb101, 3, none⟩ = some (.int .i64 a0_3) ∧ w'.cell? ⟨gb101, 4, none⟩ = some (.string a0_4) ∧ w'.cell? ⟨gb101, 5, none⟩ = some (.slice A0_5 l0_5.length c0_5)) (ds := []) (upTo 0 33) (by kernel_rfl) rfl rfl ⟨(kC BK101.out 0).trans rfl, (kC BK101.out 1).trans rfl, (kC BK101.out 2).trans rfl, (kC BK101.out 3).trans rfl, (kC BK101.out 4).trans rfl, (kC BK101.out 5).trans rfl⟩ (fun hHeld => ?_); refine with_tabW impl_isSay.tab13 impl_isSay.bits13 (fun HT_ HW_ => ?_)
             generalize wc.drew = w61 at BK101 HB hHeld ⊢
             refine pF 0 1 33 50 ?_
             refine pT2 1 51 (upTo 2 33) ?_ hHeld
             refine one_ (i := 2) (N := some 52) (upTo 3 33) rfl rfl (one_of HT_.out (by kernel_rfl)) (by decide) (fun K hK => ?_)
             refine goes_ Try.func34 (by kernel_rfl) rfl #[.int .i64 a0_2, .int .i64 0] (by rfl) rfl rfl (by (try simp only [mA, mB, mC]); first | done | rfl | (simp only [mD, mE]; rfl)) ?_
             with_reducible refine (impl_isView.calls a0_2 0 true _ A52.out).mono ?_
             rintro e w' ⟨rfl, ⟨nd, rfl⟩⟩
             refine ⟨_, rfl, ?_⟩
             refine hK.out _ _ ⟨(kC BK101.out 0).trans rfl, (kC BK101.out 1).trans rfl, (kC BK101.out 2).trans rfl, (kC BK101.out 3).trans rfl, (kC BK101.out 4).trans rfl, (kC BK101.out 5).trans rfl⟩ (fun hHeld => ?_)
             clear hK K
             refine norm_ (a' := ?_) ?_ ?_
             rotate_left
             ·
              show Act.put _ (some 52) _ = _
              simp only [Act.put, sA, sB, sC, i64_w, i32_w]
              rfl
             refine pF 3 4 33 53 ?_
             refine pF 4 5 33 54 ?_
             refine pT2 5 55 (upTo 6 33) ?_ hHeld
             refine one_ (i := 6) (N := some 56) (upTo 7 33) rfl rfl (one_of HT_.out (by kernel_rfl)) (by decide) (fun K hK => ?_)
             refine goes_ Try.func35 (by kernel_rfl) rfl #[.int .i64 a0_3] (by rfl) rfl rfl (by (try simp only [mA, mB, mC]); first | done | rfl | (simp only [mD, mE]; rfl)) ?_
             with_reducible refine (impl_isSeq.calls a0_3 true _ A54.out).mono ?_
             rintro e w' ⟨rfl, ⟨nd, rfl⟩⟩
             refine ⟨_, rfl, ?_⟩
             refine hK.out _ _ ⟨(kC BK101.out 0).trans rfl, (kC BK101.out 1).trans rfl, (kC BK101.out 2).trans rfl, (kC BK101.out 3).trans rfl, (kC BK101.out 4).trans rfl, (kC BK101.out 5).trans rfl⟩ (fun hHeld => ?_)
             clear hK K
             refine norm_ (a' := ?_) ?_ ?_
             rotate_left
             ·
              show Act.put _ (some 56) _ = _
              simp only [Act.put, sA, sB, sC, i64_w, i32_w]
              rfl
             refine pF 7 8 33 57 ?_
             refine pF 8 9 33 58 ?_
             refine pF 9 10 33 59 ?_
             refine pT2 10 60 (upTo 11 33) ?_ hHeld
             refine one_ (i := 11) (N := some 61) (upTo 12 33) rfl rfl (one_of HT_.out (by kernel_rfl)) (by decide) (fun K hK => ?_)
             refine goes_ Try.func36 (by kernel_rfl) rfl #[.string a0_4] (by rfl) rfl rfl (by (try simp only [mA, mB, mC]); first | done | rfl | (simp only [mD, mE]; rfl)) ?_
             with_reducible refine (impl_isOp.calls a0_4 true _ A56.out).mono ?_
             rintro e w' ⟨rfl, ⟨nd, rfl⟩⟩
             refine ⟨_, rfl, ?_⟩
             refine hK.out _ _ ⟨(kC BK101.out 0).trans rfl, (kC BK101.out 1).trans rfl, (kC BK101.out 2).trans rfl, (kC BK101.out 3).trans rfl, (kC BK101.out 4).trans rfl, (kC BK101.out 5).trans rfl⟩ (fun hHeld => ?_)
             clear hK K
             refine norm_ (a' := ?_) ?_ ?_
             rotate_left
             ·
              show Act.put _ (some 61) _ = _
              simp only [Act.put, sA, sB, sC, i64_w, i32_w]
              rfl
             refine pF 12 13 33 62 ?_
             refine pF 13 14 33 63 ?_
             refine pF 14 15 33 64 ?_
             refine pT2 15 65 (upTo 16 33) ?_ hHeld
             refine pF 16 17 33 66 ?_
             refine pF 17 18 33 67 ?_
             refine pF 18 19 33 68 ?_
             refine pF 19 20 33 69 ?_
             refine pF 20 21 33 70 ?_
             refine pT2 21 71 (upTo 22 33) ?_ hHeld
             refine pF 22 23 33 72 ?_
             refine pF 23 24 33 73 ?_
             refine pF 24 25 33 74 ?_
             refine pF2 26 76 impl_isSay.b7 ?_
             refine pT2 25 75 (upTo 27 33) ?_ hHeld
             refine pT2 27 77 (upTo 28 33) ?_ hHeld
             refine one_ (i := 28) (N := some 78) (upTo 29 33) rfl rfl (one_of HT_.out (by kernel_rfl)) (by decide) (fun K hK => ?_)
             refine goes_ Try.func37 (by kernel_rfl) rfl #[.int .i64 a0_2] (by rfl) rfl rfl (by (try simp only [mA, mB, mC]); first | done | rfl | (simp only [mD, mE]; rfl)) ?_
             with_reducible refine (impl_leader.calls a0_2 t110 _ A60.out).mono ?_
             rintro e w' ⟨rfl, ⟨nd, rfl⟩⟩
             refine ⟨_, rfl, ?_⟩
             refine hK.out _ _ ⟨(kC BK101.out 0).trans rfl, (kC BK101.out 1).trans rfl, (kC BK101.out 2).trans rfl, (kC BK101.out 3).trans rfl, (kC BK101.out 4).trans rfl, (kC BK101.out 5).trans rfl⟩ (fun hHeld => ?_)
             clear hK K
             refine norm_ (a' := ?_) ?_ ?_
             rotate_left
             ·
              show Act.put _ (some 78) _ = _
              simp only [Act.put, sA, sB, sC, i64_w, i32_w]
              rfl
             refine pF 29 30 33 79 ?_
             refine pF 30 31 33 80 ?_
             refine pF 31 32 33 81 ?_
             refine pF 32 33 33 2 ?_
             refine done_ (done_of HT_.out (by kernel_rfl)) ?_
             try go_wp2
             go_ret
             exact ⟨by first | rfl | (simp [*, errW_none, errW_some] <;> rfl), by repeat (first | (with_reducible first | exact HB.out | apply bA | apply bN | apply bD | refine bS ?_ GE101.out) | exact HB.out)⟩
            ·
             rw [if_neg c59] at H
             have c59b0 : (a0_0 == 1) = false := beq_eq_false_iff_ne.mpr c59
             have c59b1 : (a0_0 != 1) = true := bne_iff_ne.mpr c59
             obtain rfl := Option.some.inj H
             try go_wp2
             have n0_ := AM (kD BK101.out)
             have n1_ := AM (bD HB.out)
             clear BK101
             clear HB
             have BK101 := n0_
             have HB := n1_
             clear n0_ n1_
             refine start_ (n := 33) (S := fun w' => w'.cell? ⟨gb101, 0, none⟩ = some (.int .i64 a0_0) ∧ w'.cell? ⟨gb101, 1, none⟩ = some (.int .i64 a0_1) ∧ w'.cell? ⟨gb101, 2, none⟩ = some (.int .i64 a0_2) ∧ w'.cell? ⟨gb101, 3, none⟩ = some (.int .i64 a0_3) ∧ w'.cell? ⟨gb101, 4, none⟩ = some (.string a0_4) ∧ w'.cell? ⟨gb101, 5, none⟩ = some (.slice A0_5 l0_5.length c0_5)) (ds := []) (upTo 0 33) (by kernel_rfl) rfl rfl ⟨(kC BK101.out 0).trans rfl, (kC BK101.out 1).trans rfl, (kC BK101.out 2).trans rfl, (kC BK101.out 3).trans rfl, (kC BK101.out 4).trans rfl, (kC BK101.out 5).trans rfl⟩ (fun hHeld => ?_); refine with_tabW impl_isSay.tab13 impl_isSay.bits13 (fun HT_ HW_ => ?_)
             generalize wc.drew = w62 at BK101 HB hHeld ⊢
             refine pF 0 1 33 50 ?_
             refine pT2 1 51 (upTo 2 33) ?_ hHeld
             refine one_ (i := 2) (N := some 52) (upTo 3 33) rfl rfl (one_of HT_.out (by kernel_rfl)) (by decide) (fun K hK => ?_)
             refine goes_ Try.func34 (by kernel_rfl) rfl #[.int .i64 a0_2, .int .i64 0] (by rfl) rfl rfl (by (try simp only [mA, mB, mC]); first | done | rfl | (simp only [mD, mE]; rfl)) ?_
             with_reducible refine (impl_isView.calls a0_2 0 true _ A52.out).mono ?_
             rintro e w' ⟨rfl, ⟨nd, rfl⟩⟩
             refine ⟨_, rfl, ?_⟩
             refine hK.out _ _ ⟨(kC BK101.out 0).trans rfl, (kC BK101.out 1).trans rfl, (kC BK101.out 2).trans rfl, (kC BK101.out 3).trans rfl, (kC BK101.out 4).trans rfl, (kC BK101.out 5).trans rfl⟩ (fun hHeld => ?_)
             clear hK K
             refine norm_ (a' := ?_) ?_ ?_
             rotate_left
             ·
              show Act.put _ (some 52) _ = _
              simp only [Act.put, sA, sB, sC, i64_w, i32_w]
              rfl
             refine pF 3 4 33 53 ?_
             refine pF 4 5 33 54 ?_
             refine pT2 5 55 (upTo 6 33) ?_ hHeld
             refine one_ (i := 6) (N := some 56) (upTo 7 33) rfl rfl (one_of HT_.out (by kernel_rfl)) (by decide) (fun K hK => ?_)
             refine goes_ Try.func35 (by kernel_rfl) rfl #[.int .i64 a0_3] (by rfl) rfl rfl (by (try simp only [mA, mB, mC]); first | done | rfl | (simp only [mD, mE]; rfl)) ?_
             with_reducible refine (impl_isSeq.calls a0_3 true _ A54.out).mono ?_
             rintro e w' ⟨rfl, ⟨nd, rfl⟩⟩
             refine ⟨_, rfl, ?_⟩
             refine hK.out _ _ ⟨(kC BK101.out 0).trans rfl, (kC BK101.out 1).trans rfl, (kC BK101.out 2).trans rfl, (kC BK101.out 3).trans rfl, (kC BK101.out 4).trans rfl, (kC BK101.out 5).trans rfl⟩ (fun hHeld => ?_)
             clear hK K
             refine norm_ (a' := ?_) ?_ ?_
             rotate_left
             ·
              show Act.put _ (some 56) _ = _
              simp only [Act.put, sA, sB, sC, i64_w, i32_w]
              rfl
             refine pF 7 8 33 57 ?_
             refine pF 8 9 33 58 ?_
             refine pF 9 10 33 59 ?_
             refine pT2 10 60 (upTo 11 33) ?_ hHeld
             refine one_ (i := 11) (N := some 61) (upTo 12 33) rfl rfl (one_of HT_.out (by kernel_rfl)) (by decide) (fun K hK => ?_)
             refine goes_ Try.func36 (by kernel_rfl) rfl #[.string a0_4] (by rfl) rfl rfl (by (try simp only [mA, mB, mC]); first | done | rfl | (simp only [mD, mE]; rfl)) ?_
             with_reducible refine (impl_isOp.calls a0_4 true _ A56.out).mono ?_
             rintro e w' ⟨rfl, ⟨nd, rfl⟩⟩
             refine ⟨_, rfl, ?_⟩
             refine hK.out _ _ ⟨(kC BK101.out 0).trans rfl, (kC BK101.out 1).trans rfl, (kC BK101.out 2).trans rfl, (kC BK101.out 3).trans rfl, (kC BK101.out 4).trans rfl, (kC BK101.out 5).trans rfl⟩ (fun hHeld => ?_)
             clear hK K
             refine norm_ (a' := ?_) ?_ ?_
             rotate_left
             ·
              show Act.put _ (some 61) _ = _
              simp only [Act.put, sA, sB, sC, i64_w, i32_w]
              rfl
             refine pF 12 13 33 62 ?_
             refine pF 13 14 33 63 ?_
             refine pF 14 15 33 64 ?_
             refine pT2 15 65 (upTo 16 33) ?_ hHeld
             refine pF 16 17 33 66 ?_
             refine pF 17 18 33 67 ?_
             refine pF 18 19 33 68 ?_
             refine pF 19 20 33 69 ?_
             refine pF 20 21 33 70 ?_
             refine pT2 21 71 (upTo 22 33) ?_ hHeld
             refine pF 22 23 33 72 ?_
             refine pF 23 24 33 73 ?_
             refine pU 24 25 33 74 ?_
             refine pU 25 26 33 75 ?_
             refine pU 26 27 33 76 ?_
             refine pU 27 28 33 77 ?_
             refine pU 28 29 33 78 ?_
             refine pU 29 30 33 79 ?_
             refine pF 30 31 33 80 ?_
             refine pF 31 32 33 81 ?_
             refine pF 32 33 33 2 ?_
             refine done_ (done_of HT_.out (by kernel_rfl)) ?_
             try go_wp2
             go_ret
             exact ⟨by first | rfl | (simp [*, errW_none, errW_some] <;> rfl), by repeat (first | (with_reducible first | exact HB.out | apply bA | apply bN | apply bD | refine bS ?_ GE101.out) | exact HB.out)⟩
           ·
            rw [if_neg c58] at H
            have c58b0 : ((l0_5.length : Int) == 0) = false := beq_eq_false_iff_ne.mpr c58
            have c58b1 : ((l0_5.length : Int) != 0) = true := bne_iff_ne.mpr c58
            have c58b2 : ¬ (l0_5 = []) := fun h_ => c58 (by rw [h_]; rfl)
            obtain rfl := Option.some.inj H
            try go_wp2
            have n0_ := AM (kD BK101.out)
            have n1_ := AM (bD HB.out)
            clear BK101
            clear HB
            have BK101 := n0_
            have HB := n1_
            clear n0_ n1_
            refine start_ (n := 33) (S := fun w' => w'.cell? ⟨gb101, 0, none⟩ = some (.int .i64 a0_0) ∧ w'.cell? ⟨gb101, 1, none⟩ = some (.int .i64 a0_1) ∧ w'.cell? ⟨gb101, 2, none⟩ = some (.int .i64 a0_2) ∧ w'.cell? ⟨gb101, 3, none⟩ = some (.int .i64 a0_3) ∧ w'.cell? ⟨gb101, 4, none⟩ = some (.string a0_4) ∧ w'.cell? ⟨gb101, 5, none⟩ = some (.slice A0_5 l0_5.length c0_5)) (ds := []) (upTo 0 33) (by kernel_rfl) rfl rfl ⟨(kC BK101.out 0).trans rfl, (kC BK101.out 1).trans rfl, (kC BK101.out 2).trans rfl, (kC BK101.out 3).trans rfl, (kC BK101.out 4).trans rfl, (kC BK101.out 5).trans rfl⟩ (fun hHeld => ?_); refine with_tabW impl_isSay.tab13 impl_isSay.bits13 (fun HT_ HW_ => ?_)
            generalize wc.drew = w63 at BK101 HB hHeld ⊢
            refine pF 0 1 33 50 ?_
            refine pT2 1 51 (upTo 2 33) ?_ hHeld
            refine one_ (i := 2) (N := some 52) (upTo 3 33) rfl rfl (one_of HT_.out (by kernel_rfl)) (by decide) (fun K hK => ?_)
            refine goes_ Try.func34 (by kernel_rfl) rfl #[.int .i64 a0_2, .int .i64 0] (by rfl) rfl rfl (by (try simp only [mA, mB, mC]); first | done | rfl | (simp only [mD, mE]; rfl)) ?_
            with_reducible refine (impl_isView.calls a0_2 0 true _ A52.out).mono ?_
            rintro e w' ⟨rfl, ⟨nd, rfl⟩⟩
            refine ⟨_, rfl, ?_⟩
            refine hK.out _ _ ⟨(kC BK101.out 0).trans rfl, (kC BK101.out 1).trans rfl, (kC BK101.out 2).trans rfl, (kC BK101.out 3).trans rfl, (kC BK101.out 4).trans rfl, (kC BK101.out 5).trans rfl⟩ (fun hHeld => ?_)
            clear hK K
            refine norm_ (a' := ?_) ?_ ?_
            rotate_left
            ·
             show Act.put _ (some 52) _ = _
             simp only [Act.put, sA, sB, sC, i64_w, i32_w]
             rfl
            refine pF 3 4 33 53 ?_
            refine pF 4 5 33 54 ?_
            refine pT2 5 55 (upTo 6 33) ?_ hHeld
            refine one_ (i := 6) (N := some 56) (upTo 7 33) rfl rfl (one_of HT_.out (by kernel_rfl)) (by decide) (fun K hK => ?_)
            refine goes_ Try.func35 (by kernel_rfl) rfl #[.int .i64 a0_3] (by rfl) rfl rfl (by (try simp only [mA, mB, mC]); first | done | rfl | (simp only [mD, mE]; rfl)) ?_
            with_reducible refine (impl_isSeq.calls a0_3 true _ A54.out).mono ?_
            rintro e w' ⟨rfl, ⟨nd, rfl⟩⟩
            refine ⟨_, rfl, ?_⟩
            refine hK.out _ _ ⟨(kC BK101.out 0).trans rfl, (kC BK101.out 1).trans rfl, (kC BK101.out 2).trans rfl, (kC BK101.out 3).trans rfl, (kC BK101.out 4).trans rfl, (kC BK101.out 5).trans rfl⟩ (fun hHeld => ?_)
            clear hK K
            refine norm_ (a' := ?_) ?_ ?_
            rotate_left
            ·
             show Act.put _ (some 56) _ = _
             simp only [Act.put, sA, sB, sC, i64_w, i32_w]
             rfl
            refine pF 7 8 33 57 ?_
            refine pF 8 9 33 58 ?_
            refine pF 9 10 33 59 ?_
            refine pT2 10 60 (upTo 11 33) ?_ hHeld
            refine one_ (i := 11) (N := some 61) (upTo 12 33) rfl rfl (one_of HT_.out (by kernel_rfl)) (by decide) (fun K hK => ?_)
            refine goes_ Try.func36 (by kernel_rfl) rfl #[.string a0_4] (by rfl) rfl rfl (by (try simp only [mA, mB, mC]); first | done | rfl | (simp only [mD, mE]; rfl)) ?_
            with_reducible refine (impl_isOp.calls a0_4 true _ A56.out).mono ?_
            rintro e w' ⟨rfl, ⟨nd, rfl⟩⟩
            refine ⟨_, rfl, ?_⟩
            refine hK.out _ _ ⟨(kC BK101.out 0).trans rfl, (kC BK101.out 1).trans rfl, (kC BK101.out 2).trans rfl, (kC BK101.out 3).trans rfl, (kC BK101.out 4).trans rfl, (kC BK101.out 5).trans rfl⟩ (fun hHeld => ?_)
            clear hK K
            refine norm_ (a' := ?_) ?_ ?_
            rotate_left
            ·
             show Act.put _ (some 61) _ = _
             simp only [Act.put, sA, sB, sC, i64_w, i32_w]
             rfl
            refine pF 12 13 33 62 ?_
            refine pF 13 14 33 63 ?_
            refine pF 14 15 33 64 ?_
            refine pT2 15 65 (upTo 16 33) ?_ hHeld
            refine pF 16 17 33 66 ?_
            refine pF 17 18 33 67 ?_
            refine pF 18 19 33 68 ?_
            refine pF 19 20 33 69 ?_
            refine pU 20 21 33 70 ?_
            refine pU 21 22 33 71 ?_
            refine pU 22 23 33 72 ?_
            refine pU 23 24 33 73 ?_
            refine pU 24 25 33 74 ?_
            refine pU 25 26 33 75 ?_
            refine pU 26 27 33 76 ?_
            refine pU 27 28 33 77 ?_
            refine pU 28 29 33 78 ?_
            refine pU 29 30 33 79 ?_
            refine pU 30 31 33 80 ?_
            refine pF 31 32 33 81 ?_
            refine pF 32 33 33 2 ?_
            refine done_ (done_of HT_.out (by kernel_rfl)) ?_
            try go_wp2
            go_ret
            exact ⟨by first | rfl | (simp [*, errW_none, errW_some] <;> rfl), by repeat (first | (with_reducible first | exact HB.out | apply bA | apply bN | apply bD | refine bS ?_ GE101.out) | exact HB.out)⟩
          ·
           replace c57 := Bool.eq_false_iff.mpr c57
           subst c57
           have H1 : (some false) = some r := by rw [if_neg (show ¬ (false = true) by decide)] at H; exact H
           clear H
           have H := H1
           clear H1
           obtain rfl := Option.some.inj H
           try go_wp2
           have n0_ := AM (kD BK101.out)
           have n1_ := AM (bD HB.out)
           clear BK101
           clear HB
           have BK101 := n0_
           have HB := n1_
           clear n0_ n1_
           refine start_ (n := 33) (S := fun w' => w'.cell? ⟨gb101, 0, none⟩ = some (.int .i64 a0_0) ∧ w'.cell? ⟨gb101, 1, none⟩ = some (.int .i64 a0_1) ∧ w'.cell? ⟨gb101, 2, none⟩ = some (.int .i64 a0_2) ∧ w'.cell? ⟨gb101, 3, none⟩ = some (.int .i64 a0_3) ∧ w'.cell? ⟨gb101, 4, none⟩ = some (.string a0_4) ∧ w'.cell? ⟨gb101, 5, none⟩ = some (.slice A0_5 l0_5.length c0_5)) (ds := []) (upTo 0 33) (by kernel_rfl) rfl rfl ⟨(kC BK101.out 0).trans rfl, (kC BK101.out 1).trans rfl, (kC BK101.out 2).trans rfl, (kC BK101.out 3).trans rfl, (kC BK101.out 4).trans rfl, (kC BK101.out 5).trans rfl⟩ (fun hHeld => ?_); refine with_tabW impl_isSay.tab13 impl_isSay.bits13 (fun HT_ HW_ => ?_)
           generalize wc.drew = w64 at BK101 HB hHeld ⊢
           refine pF 0 1 33 50 ?_
           refine pT2 1 51 (upTo 2 33) ?_ hHeld
           refine one_ (i := 2) (N := some 52) (upTo 3 33) rfl rfl (one_of HT_.out (by kernel_rfl)) (by decide) (fun K hK => ?_)
           refine goes_ Try.func34 (by kernel_rfl) rfl #[.int .i64 a0_2, .int .i64 0] (by rfl) rfl rfl (by (try simp only [mA, mB, mC]); first | done | rfl | (simp only [mD, mE]; rfl)) ?_
           with_reducible refine (impl_isView.calls a0_2 0 true _ A52.out).mono ?_
           rintro e w' ⟨rfl, ⟨nd, rfl⟩⟩
           refine ⟨_, rfl, ?_⟩
           refine hK.out _ _ ⟨(kC BK101.out 0).trans rfl, (kC BK101.out 1).trans rfl, (kC BK101.out 2).trans rfl, (kC BK101.out 3).trans rfl, (kC BK101.out 4).trans rfl, (kC BK101.out 5).trans rfl⟩ (fun hHeld => ?_)
           clear hK K
           refine norm_ (a' := ?_) ?_ ?_
           rotate_left
           ·
            show Act.put _ (some 52) _ = _
            simp only [Act.put, sA, sB, sC, i64_w, i32_w]
            rfl
           refine pF 3 4 33 53 ?_
           refine pF 4 5 33 54 ?_
           refine pT2 5 55 (upTo 6 33) ?_ hHeld
           refine one_ (i := 6) (N := some 56) (upTo 7 33) rfl rfl (one_of HT_.out (by kernel_rfl)) (by decide) (fun K hK => ?_)
           refine goes_ Try.func35 (by kernel_rfl) rfl #[.int .i64 a0_3] (by rfl) rfl rfl (by (try simp only [mA, mB, mC]); first | done | rfl | (simp only [mD, mE]; rfl)) ?_
           with_reducible refine (impl_isSeq.calls a0_3 true _ A54.out).mono ?_
           rintro e w' ⟨rfl, ⟨nd, rfl⟩⟩
           refine ⟨_, rfl, ?_⟩
           refine hK.out _ _ ⟨(kC BK101.out 0).trans rfl, (kC BK101.out 1).trans rfl, (kC BK101.out 2).trans rfl, (kC BK101.out 3).trans rfl, (kC BK101.out 4).trans rfl, (kC BK101.out 5).trans rfl⟩ (fun hHeld => ?_)
           clear hK K
           refine norm_ (a' := ?_) ?_ ?_
           rotate_left
           ·
            show Act.put _ (some 56) _ = _
            simp only [Act.put, sA, sB, sC, i64_w, i32_w]
            rfl
           refine pF 7 8 33 57 ?_
           refine pF 8 9 33 58 ?_
           refine pF 9 10 33 59 ?_
           refine pT2 10 60 (upTo 11 33) ?_ hHeld
           refine one_ (i := 11) (N := some 61) (upTo 12 33) rfl rfl (one_of HT_.out (by kernel_rfl)) (by decide) (fun K hK => ?_)
           refine goes_ Try.func36 (by kernel_rfl) rfl #[.string a0_4] (by rfl) rfl rfl (by (try simp only [mA, mB, mC]); first | done | rfl | (simp only [mD, mE]; rfl)) ?_
           with_reducible refine (impl_isOp.calls a0_4 false _ A56.out).mono ?_
           rintro e w' ⟨rfl, ⟨nd, rfl⟩⟩
           refine ⟨_, rfl, ?_⟩
           refine hK.out _ _ ⟨(kC BK101.out 0).trans rfl, (kC BK101.out 1).trans rfl, (kC BK101.out 2).trans rfl, (kC BK101.out 3).trans rfl, (kC BK101.out 4).trans rfl, (kC BK101.out 5).trans rfl⟩ (fun hHeld => ?_)
           clear hK K
           refine norm_ (a' := ?_) ?_ ?_
           rotate_left
           ·
            show Act.put _ (some 61) _ = _
            simp only [Act.put, sA, sB, sC, i64_w, i32_w]
            rfl
           refine pF 12 13 33 62 ?_
           refine pF 13 14 33 63 ?_
           refine pU 14 15 33 64 ?_
           refine pU 15 16 33 65 ?_
           refine pU 16 17 33 66 ?_
           refine pU 17 18 33 67 ?_
           refine pF 18 19 33 68 ?_
           refine pF 19 20 33 69 ?_
           refine pU 20 21 33 70 ?_
           refine pU 21 22 33 71 ?_
           refine pU 22 23 33 72 ?_
           refine pU 23 24 33 73 ?_
           refine pU 24 25 33 74 ?_
           refine pU 25 26 33 75 ?_
           refine pU 26 27 33 76 ?_
           refine pU 27 28 33 77 ?_
           refine pU 28 29 33 78 ?_
           refine pU 29 30 33 79 ?_
           refine pU 30 31 33 80 ?_
           refine pF 31 32 33 81 ?_
           refine pF 32 33 33 2 ?_
           refine done_ (done_of HT_.out (by kernel_rfl)) ?_
           try go_wp2
           go_ret
           exact ⟨by first | rfl | (simp [*, errW_none, errW_some] <;> rfl), by repeat (first | (with_reducible first | exact HB.out | apply bA | apply bN | apply bD | refine bS ?_ GE101.out) | exact HB.out)⟩
         ·
          replace c55 := Bool.eq_false_iff.mpr c55
          subst c55
          have H1 : (some false) = some r := by rw [if_neg (show ¬ (false = true) by decide)] at H; exact H
          clear H
          have H := H1
          clear H1
          obtain rfl := Option.some.inj H
          try go_wp2
          have n0_ := AM (kD BK101.out)
          have n1_ := AM (bD HB.out)
          clear BK101
          clear HB
          have BK101 := n0_
          have HB := n1_
          clear n0_ n1_
          refine start_ (n := 33) (S := fun w' => w'.cell? ⟨gb101, 0, none⟩ = some (.int .i64 a0_0) ∧ w'.cell? ⟨gb101, 1, none⟩ = some (.int .i64 a0_1) ∧ w'.cell? ⟨gb101, 2, none⟩ = some (.int .i64 a0_2) ∧ w'.cell? ⟨gb101, 3, none⟩ = some (.int .i64 a0_3) ∧ w'.cell? ⟨gb101, 4, none⟩ = some (.string a0_4) ∧ w'.cell? ⟨gb101, 5, none⟩ = some (.slice A0_5 l0_5.length c0_5)) (ds := []) (upTo 0 33) (by kernel_rfl) rfl rfl ⟨(kC BK101.out 0).trans rfl, (kC BK101.out 1).trans rfl, (kC BK101.out 2).trans rfl, (kC BK101.out 3).trans rfl, (kC BK101.out 4).trans rfl, (kC BK101.out 5).trans rfl⟩ (fun hHeld => ?_); refine with_tabW impl_isSay.tab13 impl_isSay.bits13 (fun HT_ HW_ => ?_)
          generalize wc.drew = w65 at BK101 HB hHeld ⊢
          refine pF 0 1 33 50 ?_
          refine pT2 1 51 (upTo 2 33) ?_ hHeld
          refine one_ (i := 2) (N := some 52) (upTo 3 33) rfl rfl (one_of HT_.out (by kernel_rfl)) (by decide) (fun K hK => ?_)
          refine goes_ Try.func34 (by kernel_rfl) rfl #[.int .i64 a0_2, .int .i64 0] (by rfl) rfl rfl (by (try simp only [mA, mB, mC]); first | done | rfl | (simp only [mD, mE]; rfl)) ?_
          with_reducible refine (impl_isView.calls a0_2 0 true _ A52.out).mono ?_
          rintro e w' ⟨rfl, ⟨nd, rfl⟩⟩
          refine ⟨_, rfl, ?_⟩
          refine hK.out _ _ ⟨(kC BK101.out 0).trans rfl, (kC BK101.out 1).trans rfl, (kC BK101.out 2).trans rfl, (kC BK101.out 3).trans rfl, (kC BK101.out 4).trans rfl, (kC BK101.out 5).trans rfl⟩ (fun hHeld => ?_)
          clear hK K
          refine norm_ (a' := ?_) ?_ ?_
          rotate_left
          ·
           show Act.put _ (some 52) _ = _
           simp only [Act.put, sA, sB, sC, i64_w, i32_w]
           rfl
          refine pF 3 4 33 53 ?_
          refine pF 4 5 33 54 ?_
          refine pT2 5 55 (upTo 6 33) ?_ hHeld
          refine one_ (i := 6) (N := some 56) (upTo 7 33) rfl rfl (one_of HT_.out (by kernel_rfl)) (by decide) (fun K hK => ?_)
          refine goes_ Try.func35 (by kernel_rfl) rfl #[.int .i64 a0_3] (by rfl) rfl rfl (by (try simp only [mA, mB, mC]); first | done | rfl | (simp only [mD, mE]; rfl)) ?_
          with_reducible refine (impl_isSeq.calls a0_3 false _ A54.out).mono ?_
          rintro e w' ⟨rfl, ⟨nd, rfl⟩⟩
          refine ⟨_, rfl, ?_⟩
          refine hK.out _ _ ⟨(kC BK101.out 0).trans rfl, (kC BK101.out 1).trans rfl, (kC BK101.out 2).trans rfl, (kC BK101.out 3).trans rfl, (kC BK101.out 4).trans rfl, (kC BK101.out 5).trans rfl⟩ (fun hHeld => ?_)
          clear hK K
          refine norm_ (a' := ?_) ?_ ?_
          rotate_left
          ·
           show Act.put _ (some 56) _ = _
           simp only [Act.put, sA, sB, sC, i64_w, i32_w]
           rfl
          refine pF 7 8 33 57 ?_
          refine pF 8 9 33 58 ?_
          refine pU 9 10 33 59 ?_
          refine pU 10 11 33 60 ?_
          refine pU 11 12 33 61 ?_
          refine pF 12 13 33 62 ?_
          refine pF 13 14 33 63 ?_
          refine pU 14 15 33 64 ?_
          refine pU 15 16 33 65 ?_
          refine pU 16 17 33 66 ?_
          refine pU 17 18 33 67 ?_
          refine pF 18 19 33 68 ?_
          refine pF 19 20 33 69 ?_
          refine pU 20 21 33 70 ?_
          refine pU 21 22 33 71 ?_
          refine pU 22 23 33 72 ?_
          refine pU 23 24 33 73 ?_
          refine pU 24 25 33 74 ?_
          refine pU 25 26 33 75 ?_
          refine pU 26 27 33 76 ?_
          refine pU 27 28 33 77 ?_
          refine pU 28 29 33 78 ?_
          refine pU 29 30 33 79 ?_
          refine pU 30 31 33 80 ?_
          refine pF 31 32 33 81 ?_
          refine pF 32 33 33 2 ?_
          refine done_ (done_of HT_.out (by kernel_rfl)) ?_
          try go_wp2
          go_ret
          exact ⟨by first | rfl | (simp [*, errW_none, errW_some] <;> rfl), by repeat (first | (with_reducible first | exact HB.out | apply bA | apply bN | apply bD | refine bS ?_ GE101.out) | exact HB.out)⟩
        ·
         replace c53 := Bool.eq_false_iff.mpr c53
         subst c53
         have H1 : (some false) = some r := by rw [if_neg (show ¬ (false = true) by decide)] at H; exact H
         clear H
         have H := H1
         clear H1
         obtain rfl := Option.some.inj H
         try go_wp2
         have n0_ := AM (kD BK101.out)
         have n1_ := AM (bD HB.out)
         clear BK101
         clear HB
         have BK101 := n0_
         have HB := n1_
         clear n0_ n1_
         refine start_ (n := 33) (S := fun w' => w'.cell? ⟨gb101, 0, none⟩ = some (.int .i64 a0_0) ∧ w'.cell? ⟨gb101, 1, none⟩ = some (.int .i64 a0_1) ∧ w'.cell? ⟨gb101, 2, none⟩ = some (.int .i64 a0_2) ∧ w'.cell? ⟨gb101, 3, none⟩ = some (.int .i64 a0_3) ∧ w'.cell? ⟨gb101, 4, none⟩ = some (.string a0_4) ∧ w'.cell? ⟨gb101, 5, none⟩ = some (.slice A0_5 l0_5.length c0_5)) (ds := []) (upTo 0 33) (by kernel_rfl) rfl rfl ⟨(kC BK101.out 0).trans rfl, (kC BK101.out 1).trans rfl, (kC BK101.out 2).trans rfl, (kC BK101.out 3).trans rfl, (kC BK101.out 4).trans rfl, (kC BK101.out 5).trans rfl⟩ (fun hHeld => ?_); refine with_tabW impl_isSay.tab13 impl_isSay.bits13 (fun HT_ HW_ => ?_)
         generalize wc.drew = w66 at BK101 HB hHeld ⊢
         refine pF 0 1 33 50 ?_
         refine pT2 1 51 (upTo 2 33) ?_ hHeld
         refine one_ (i := 2) (N := some 52) (upTo 3 33) rfl rfl (one_of HT_.out (by kernel_rfl)) (by decide) (fun K hK => ?_)
         refine goes_ Try.func34 (by kernel_rfl) rfl #[.int .i64 a0_2, .int .i64 0] (by rfl) rfl rfl (by (try simp only [mA, mB, mC]); first | done | rfl | (simp only [mD, mE]; rfl)) ?_
         with_reducible refine (impl_isView.calls a0_2 0 false _ A52.out).mono ?_
         rintro e w' ⟨rfl, ⟨nd, rfl⟩⟩
         refine ⟨_, rfl, ?_⟩
         refine hK.out _ _ ⟨(kC BK101.out 0).trans rfl, (kC BK101.out 1).trans rfl, (kC BK101.out 2).trans rfl, (kC BK101.out 3).trans rfl, (kC BK101.out 4).trans rfl, (kC BK101.out 5).trans rfl⟩ (fun hHeld => ?_)
         clear hK K
         refine norm_ (a' := ?_) ?_ ?_
         rotate_left
         ·
          show Act.put _ (some 52) _ = _
          simp only [Act.put, sA, sB, sC, i64_w, i32_w]
          rfl
         refine pF 3 4 33 53 ?_
         refine pU 4 5 33 54 ?_
         refine pU 5 6 33 55 ?_
         refine pU 6 7 33 56 ?_
         refine pF 7 8 33 57 ?_
         refine pF 8 9 33 58 ?_
         refine pU 9 10 33 59 ?_
         refine pU 10 11 33 60 ?_
         refine pU 11 12 33 61 ?_
         refine pF 12 13 33 62 ?_
         refine pF 13 14 33 63 ?_
         refine pU 14 15 33 64 ?_
         refine pU 15 16 33 65 ?_
         refine pU 16 17 33 66 ?_
         refine pU 17 18 33 67 ?_
         refine pF 18 19 33 68 ?_
         refine pF 19 20 33 69 ?_
         refine pU 20 21 33 70 ?_
         refine pU 21 22 33 71 ?_
         refine pU 22 23 33 72 ?_
         refine pU 23 24 33 73 ?_
         refine pU 24 25 33 74 ?_
         refine pU 25 26 33 75 ?_
         refine pU 26 27 33 76 ?_
         refine pU 27 28 33 77 ?_
         refine pU 28 29 33 78 ?_
         refine pU 29 30 33 79 ?_
         refine pU 30 31 33 80 ?_
         refine pF 31 32 33 81 ?_
         refine pF 32 33 33 2 ?_
         refine done_ (done_of HT_.out (by kernel_rfl)) ?_
         try go_wp2
         go_ret
         exact ⟨by first | rfl | (simp [*, errW_none, errW_some] <;> rfl), by repeat (first | (with_reducible first | exact HB.out | apply bA | apply bN | apply bD | refine bS ?_ GE101.out) | exact HB.out)⟩
       ·
        replace c51 := Bool.eq_false_iff.mpr c51
        subst c51
        have H1 : (if a0_0 = 4 then ((impl_isView.f a0_2 1).bind fun t111 => (if t111 = true then (if a0_3 = 0 then (if a0_4.toList = ([] : List UInt8) then (if (l0_5.length : Int) = 1 then (if 0 < (l0_5.length : Int) then (some (((rd_T41 l0_5 0).f0) == a0_1)) else (none)) else (some false)) else (some false)) else (some false)) else (some false))) else (if a0_0 = 5 then ((impl_isView.f a0_2 1).bind fun t113 => (if t113 = true then ((impl_leader.f a0_2).bind fun t114 => (if a0_1 = t114 then (if a0_3 = 0 then (if a0_4.toList = ([] : List UInt8) then ((impl_Change.f l0_5).bind fun t115 => ((impl_within.f t115 3 4).bind fun t116 => (some t116))) else (some false)) else (some false)) else (some false))) else (some false))) else (some false))) = some r := by rw [if_neg (show ¬ (false = true) by decide)] at H; exact H
        clear H
        have H := H1
        clear H1
        by_cases c67 : a0_0 = 4
        ·
         rw [if_pos c67] at H
         have c67b0 : (a0_0 == 4) = true := beq_iff_eq.mpr c67
         have c67b1 : (a0_0 != 4) = false := bne_eq_false_iff_eq.mpr c67
         clear c67
         replace H := Option.bind_eq_some_iff.mp H
         obtain ⟨t111, A680, H⟩ := H
         replace H : (if t111 = true then (if a0_3 = 0 then (if a0_4.toList = ([] : List UInt8) then (if (l0_5.length : Int) = 1 then (if 0 < (l0_5.length : Int) then (some (((rd_T41 l0_5 0).f0) == a0_1)) else (none)) else (some false)) else (some false)) else (some false)) else (some false)) = some r := H
         have A68 := AM A680
         clear A680
         by_cases c69 : t111 = true
         ·
          subst c69
          have H1 : (if a0_3 = 0 then (if a0_4.toList = ([] : List UInt8) then (if (l0_5.length : Int) = 1 then (if 0 < (l0_5.length : Int) then (some (((rd_T41 l0_5 0).f0) == a0_1)) else (none)) else (some false)) else (some false)) else (some false)) = some r := by rw [if_pos rfl] at H; exact H
          clear H
          have H := H1
          clear H1
          by_cases c70 : a0_3 = 0
          ·
           rw [if_pos c70] at H
           have c70b0 : (a0_3 == 0) = true := beq_iff_eq.mpr c70
           have c70b1 : (a0_3 != 0) = false := bne_eq_false_iff_eq.mpr c70
           clear c70
           by_cases c71 : a0_4.toList = ([] : List UInt8)
           ·
            rw [if_pos c71] at H
            have c71b0 : (a0_4.toList == ([] : List UInt8)) = true := beq_iff_eq.mpr c71
            have c71b1 : (a0_4.toList != ([] : List UInt8)) = false := bne_eq_false_iff_eq.mpr c71
            clear c71
            by_cases c72 : (l0_5.length : Int) = 1
            ·
             rw [if_pos c72] at H
             have c72b0 : ((l0_5.length : Int) == 1) = true := beq_iff_eq.mpr c72
             have c72b1 : ((l0_5.length : Int) != 1) = false := bne_eq_false_iff_eq.mpr c72
             clear c72
             by_cases c73 : 0 < (l0_5.length : Int)
             ·
              rw [if_pos c73] at H
              have c73b0 : decide (0 < (l0_5.length : Int)) = true := decide_eq_true c73
              have c73b1 : decide (0 < l0_5.length) = true := decide_eq_true (by omega)
              clear c73
              obtain rfl := Option.some.inj H
              try go_wp2
              have n0_ := AM (kD BK101.out)
              have n1_ := AM (bD HB.out)
              clear BK101
              clear HB
              have BK101 := n0_
              have HB := n1_
              clear n0_ n1_
              have p112 : 0 ≤ (0 : Int) := (by omega)
              have q112 : 0 < (l0_5.length : Int) := of_decide_eq_true (by assumption)
              obtain ⟨ad112, A112_2, c112_2, e112, hx112_0, hx112_1, hx112_2, hl112_2, hi112_2⟩ := at_T41 HR0_5.out 0 p112 q112
              have hw112_2 := hx112_2
              (try rw [show ((0 : Int)).toNat = 0 from rfl] at hw112_2)
              (try rw [show 0 * 3 = 0 from rfl] at hw112_2)
              (try rw [Addr.add_zero'] at hw112_2)
              have hw112_1 := hx112_1
              (try rw [show ((0 : Int)).toNat = 0 from rfl] at hw112_1)
              (try rw [show 0 * 3 = 0 from rfl] at hw112_1)
              (try rw [Addr.add_zero'] at hw112_1)
              have hw112_0 := hx112_0
              (try rw [show ((0 : Int)).toNat = 0 from rfl] at hw112_0)
              (try rw [show 0 * 3 = 0 from rfl] at hw112_0)
              (try rw [Addr.add_zero'] at hw112_0)
              cases e112
              have qi112 : (0 < l0_5.length) = True := eq_true (by omega)
              (try rw [show ((0 : Int)).toNat = 0 from rfl] at hx112_0)
              (try rw [show 0 * 3 = 0 from rfl] at hx112_0)
              (try rw [Addr.add_zero'] at hx112_0)
              (try rw [show ((0 : Int)).toNat = 0 from rfl] at hx112_1)
              (try rw [show 0 * 3 = 0 from rfl] at hx112_1)
              (try rw [Addr.add_zero'] at hx112_1)
              (try rw [show ((0 : Int)).toNat = 0 from rfl] at hx112_2)
              (try rw [show 0 * 3 = 0 from rfl] at hx112_2)
              (try rw [Addr.add_zero'] at hx112_2)
              replace hx112_0 := pw_cell_below HB.out hx112_0
              replace hx112_1 := pw_cell_below HB.out hx112_1
              replace hx112_2 := pw_cell_below HB.out hx112_2
              have HR112_2 := AM hi112_2
              have HC112_2 := AM hl112_2
              clear hi112_2 hl112_2
              replace p112 := eq_true p112
              replace q112 := eq_true q112
              refine start_ (n := 30) (S := fun w' => w'.cell? ⟨gb101, 0, none⟩ = some (.int .i64 a0_0) ∧ w'.cell? ⟨gb101, 1, none⟩ = some (.int .i64 a0_1) ∧ w'.cell? ⟨gb101, 2, none⟩ = some (.int .i64 a0_2) ∧ w'.cell? ⟨gb101, 3, none⟩ = some (.int .i64 a0_3) ∧ w'.cell? ⟨gb101, 4, none⟩ = some (.string a0_4) ∧ w'.cell? ⟨gb101, 5, none⟩ = some (.slice (some ad112) l0_5.length c0_5) ∧ w'.cell? ad112 = some (.int .i64 ((rd_T41 l0_5 0).f0)) ∧ w'.cell? ⟨ad112.block, ad112.off + 1, none⟩ = some (.int .i64 ((rd_T41 l0_5 0).f1)) ∧ w'.cell? ⟨ad112.block, ad112.off + 2, none⟩ = some (.slice A112_2 ((rd_T41 l0_5 0).f2).length c112_2)) (ds := []) (upTo 0 30) (by kernel_rfl) rfl rfl ⟨(kC BK101.out 0).trans rfl, (kC BK101.out 1).trans rfl, (kC BK101.out 2).trans rfl, (kC BK101.out 3).trans rfl, (kC BK101.out 4).trans rfl, (kC BK101.out 5).trans rfl, ((HB.out.cell (World.block_lt_of_cell? w _ hw112_0)).trans hw112_0), ((HB.out.cell (World.block_lt_of_cell? w _ hw112_1)).trans hw112_1), ((HB.out.cell (World.block_lt_of_cell? w _ hw112_2)).trans hw112_2)⟩ (fun hHeld => ?_); refine with_tabW impl_isSay.tab15 impl_isSay.bits15 (fun HT_ HW_ => ?_)
              generalize wc.drew = w74 at BK101 HB HR112_2 hx112_0 hx112_1 hx112_2 hHeld ⊢
              refine pF 0 1 30 84 ?_
              refine pT2 1 85 (upTo 2 30) ?_ hHeld
              refine one_ (i := 2) (N := some 86) (upTo 3 30) rfl rfl (one_of HT_.out (by kernel_rfl)) (by decide) (fun K hK => ?_)
              refine goes_ Try.func34 (by kernel_rfl) rfl #[.int .i64 a0_2, .int .i64 1] (by rfl) rfl rfl (by (try simp only [mA, mB, mC]); first | done | rfl | (simp only [mD, mE]; rfl)) ?_
              with_reducible refine (impl_isView.calls a0_2 1 true _ A68.out).mono ?_
              rintro e w' ⟨rfl, ⟨nd, rfl⟩⟩
              refine ⟨_, rfl, ?_⟩
              refine hK.out _ _ ⟨(kC BK101.out 0).trans rfl, (kC BK101.out 1).trans rfl, (kC BK101.out 2).trans rfl, (kC BK101.out 3).trans rfl, (kC BK101.out 4).trans rfl, (kC BK101.out 5).trans rfl, ((HB.out.cell (World.block_lt_of_cell? w _ hw112_0)).trans hw112_0), ((HB.out.cell (World.block_lt_of_cell? w _ hw112_1)).trans hw112_1), ((HB.out.cell (World.block_lt_of_cell? w _ hw112_2)).trans hw112_2)⟩ (fun hHeld => ?_)
              clear hK K
              refine norm_ (a' := ?_) ?_ ?_
              rotate_left
              ·
               show Act.put _ (some 86) _ = _
               simp only [Act.put, sA, sB, sC, i64_w, i32_w]
               rfl
              refine pF 3 4 30 87 ?_
              refine pF 4 5 30 88 ?_
              refine pT2 5 89 (upTo 6 30) ?_ hHeld
              refine pF 6 7 30 90 ?_
              refine pF 7 8 30 91 ?_
              refine pF 8 9 30 92 ?_
              refine pF 9 10 30 93 ?_
              refine pT2 10 94 (upTo 11 30) ?_ hHeld
              refine pF 11 12 30 95 ?_
              refine pF 12 13 30 96 ?_
              refine pF 13 14 30 97 ?_
              refine pF 14 15 30 98 ?_
              refine pT2 15 99 (upTo 16 30) ?_ hHeld
              refine pF 16 17 30 100 ?_
              refine pF 17 18 30 101 ?_
              refine pF 18 19 30 102 ?_
              refine pF 19 20 30 103 ?_
              refine pF 20 21 30 104 ?_
              refine pF2 25 109 impl_isSay.b8 ?_
              refine pT2 21 105 impl_isSay.b9 ?_ hHeld
              refine pF2 22 106 impl_isSay.b10 ?_
              refine pF2 23 107 impl_isSay.b11 ?_
              refine pT2 24 108 (upTo 26 30) ?_ hHeld
              refine pT2 26 110 (upTo 27 30) ?_ hHeld
              refine pF 27 28 30 111 ?_
              refine pF 28 29 30 112 ?_
              refine pF 29 30 30 2 ?_
              refine done_ (done_of HT_.out (by kernel_rfl)) ?_
              try go_wp2
              go_ret
              exact ⟨by first | rfl | (simp [*, errW_none, errW_some] <;> rfl), by repeat (first | (with_reducible first | exact HB.out | apply bA | apply bN | apply bD | refine bS ?_ GE101.out) | exact HB.out)⟩
             ·
              rw [if_neg c73] at H
              exact absurd H (by simp)
            ·
             rw [if_neg c72] at H
             have c72b0 : ((l0_5.length : Int) == 1) = false := beq_eq_false_iff_ne.mpr c72
             have c72b1 : ((l0_5.length : Int) != 1) = true := bne_iff_ne.mpr c72
             obtain rfl := Option.some.inj H
             try go_wp2
             have n0_ := AM (kD BK101.out)
             have n1_ := AM (bD HB.out)
             clear BK101
             clear HB
             have BK101 := n0_
             have HB := n1_
             clear n0_ n1_
             refine start_ (n := 30) (S := fun w' => w'.cell? ⟨gb101, 0, none⟩ = some (.int .i64 a0_0) ∧ w'.cell? ⟨gb101, 1, none⟩ = some (.int .i64 a0_1) ∧ w'.cell? ⟨gb101, 2, none⟩ = some (.int .i64 a0_2) ∧ w'.cell? ⟨gb101, 3, none⟩ = some (.int .i64 a0_3) ∧ w'.cell? ⟨gb101, 4, none⟩ = some (.string a0_4) ∧ w'.cell? ⟨gb101, 5, none⟩ = some (.slice A0_5 l0_5.length c0_5)) (ds := []) (upTo 0 30) (by kernel_rfl) rfl rfl ⟨(kC BK101.out 0).trans rfl, (kC BK101.out 1).trans rfl, (kC BK101.out 2).trans rfl, (kC BK101.out 3).trans rfl, (kC BK101.out 4).trans rfl, (kC BK101.out 5).trans rfl⟩ (fun hHeld => ?_); refine with_tabW impl_isSay.tab15 impl_isSay.bits15 (fun HT_ HW_ => ?_)
             generalize wc.drew = w75 at BK101 HB hHeld ⊢
             refine pF 0 1 30 84 ?_
             refine pT2 1 85 (upTo 2 30) ?_ hHeld
             refine one_ (i := 2) (N := some 86) (upTo 3 30) rfl rfl (one_of HT_.out (by kernel_rfl)) (by decide) (fun K hK => ?_)
             refine goes_ Try.func34 (by kernel_rfl) rfl #[.int .i64 a0_2, .int .i64 1] (by rfl) rfl rfl (by (try simp only [mA, mB, mC]); first | done | rfl | (simp only [mD, mE]; rfl)) ?_
             with_reducible refine (impl_isView.calls a0_2 1 true _ A68.out).mono ?_
             rintro e w' ⟨rfl, ⟨nd, rfl⟩⟩
             refine ⟨_, rfl, ?_⟩
             refine hK.out _ _ ⟨(kC BK101.out 0).trans rfl, (kC BK101.out 1).trans rfl, (kC BK101.out 2).trans rfl, (kC BK101.out 3).trans rfl, (kC BK101.out 4).trans rfl, (kC BK101.out 5).trans rfl⟩ (fun hHeld => ?_)
             clear hK K
             refine norm_ (a' := ?_) ?_ ?_
             rotate_left
             ·
              show Act.put _ (some 86) _ = _
              simp only [Act.put, sA, sB, sC, i64_w, i32_w]
              rfl
             refine pF 3 4 30 87 ?_
             refine pF 4 5 30 88 ?_
             refine pT2 5 89 (upTo 6 30) ?_ hHeld
             refine pF 6 7 30 90 ?_
             refine pF 7 8 30 91 ?_
             refine pF 8 9 30 92 ?_
             refine pF 9 10 30 93 ?_
             refine pT2 10 94 (upTo 11 30) ?_ hHeld
             refine pF 11 12 30 95 ?_
             refine pF 12 13 30 96 ?_
             refine pF 13 14 30 97 ?_
             refine pF 14 15 30 98 ?_
             refine pT2 15 99 (upTo 16 30) ?_ hHeld
             refine pF 16 17 30 100 ?_
             refine pF 17 18 30 101 ?_
             refine pF 18 19 30 102 ?_
             refine pF 19 20 30 103 ?_
             refine pU 20 21 30 104 ?_
             refine pU 21 22 30 105 ?_
             refine pU 22 23 30 106 ?_
             refine pU 23 24 30 107 ?_
             refine pU 24 25 30 108 ?_
             refine pU 25 26 30 109 ?_
             refine pU 26 27 30 110 ?_
             refine pU 27 28 30 111 ?_
             refine pF 28 29 30 112 ?_
             refine pF 29 30 30 2 ?_
             refine done_ (done_of HT_.out (by kernel_rfl)) ?_
             try go_wp2
             go_ret
             exact ⟨by first | rfl | (simp [*, errW_none, errW_some] <;> rfl), by repeat (first | (with_reducible first | exact HB.out | apply bA | apply bN | apply bD | refine bS ?_ GE101.out) | exact HB.out)⟩
           ·
            rw [if_neg c71] at H
            have c71b0 : (a0_4.toList == ([] : List UInt8)) = false := beq_eq_false_iff_ne.mpr c71
            have c71b1 : (a0_4.toList != ([] : List UInt8)) = true := bne_iff_ne.mpr c71
            obtain rfl := Option.some.inj H
            try go_wp2
            have n0_ := AM (kD BK101.out)
            have n1_ := AM (bD HB.out)
            clear BK101
            clear HB
            have BK101 := n0_
            have HB := n1_
            clear n0_ n1_
            refine start_ (n := 30) (S := fun w' => w'.cell? ⟨gb101, 0, none⟩ = some (.int .i64 a0_0) ∧ w'.cell? ⟨gb101, 1, none⟩ = some (.int .i64 a0_1) ∧ w'.cell? ⟨gb101, 2, none⟩ = some (.int .i64 a0_2) ∧ w'.cell? ⟨gb101, 3, none⟩ = some (.int .i64 a0_3) ∧ w'.cell? ⟨gb101, 4, none⟩ = some (.string a0_4) ∧ w'.cell? ⟨gb101, 5, none⟩ = some (.slice A0_5 l0_5.length c0_5)) (ds := []) (upTo 0 30) (by kernel_rfl) rfl rfl ⟨(kC BK101.out 0).trans rfl, (kC BK101.out 1).trans rfl, (kC BK101.out 2).trans rfl, (kC BK101.out 3).trans rfl, (kC BK101.out 4).trans rfl, (kC BK101.out 5).trans rfl⟩ (fun hHeld => ?_); refine with_tabW impl_isSay.tab15 impl_isSay.bits15 (fun HT_ HW_ => ?_)
            generalize wc.drew = w76 at BK101 HB hHeld ⊢
            refine pF 0 1 30 84 ?_
            refine pT2 1 85 (upTo 2 30) ?_ hHeld
            refine one_ (i := 2) (N := some 86) (upTo 3 30) rfl rfl (one_of HT_.out (by kernel_rfl)) (by decide) (fun K hK => ?_)
            refine goes_ Try.func34 (by kernel_rfl) rfl #[.int .i64 a0_2, .int .i64 1] (by rfl) rfl rfl (by (try simp only [mA, mB, mC]); first | done | rfl | (simp only [mD, mE]; rfl)) ?_
            with_reducible refine (impl_isView.calls a0_2 1 true _ A68.out).mono ?_
            rintro e w' ⟨rfl, ⟨nd, rfl⟩⟩
            refine ⟨_, rfl, ?_⟩
            refine hK.out _ _ ⟨(kC BK101.out 0).trans rfl, (kC BK101.out 1).trans rfl, (kC BK101.out 2).trans rfl, (kC BK101.out 3).trans rfl, (kC BK101.out 4).trans rfl, (kC BK101.out 5).trans rfl⟩ (fun hHeld => ?_)
            clear hK K
            refine norm_ (a' := ?_) ?_ ?_
            rotate_left
            ·
             show Act.put _ (some 86) _ = _
             simp only [Act.put, sA, sB, sC, i64_w, i32_w]
             rfl
            refine pF 3 4 30 87 ?_
            refine pF 4 5 30 88 ?_
            refine pT2 5 89 (upTo 6 30) ?_ hHeld
            refine pF 6 7 30 90 ?_
            refine pF 7 8 30 91 ?_
            refine pF 8 9 30 92 ?_
            refine pF 9 10 30 93 ?_
            refine pT2 10 94 (upTo 11 30) ?_ hHeld
            refine pF 11 12 30 95 ?_
            refine pF 12 13 30 96 ?_
            refine pF 13 14 30 97 ?_
            refine pU 14 15 30 98 ?_
            refine pU 15 16 30 99 ?_
            refine pU 16 17 30 100 ?_
            refine pU 17 18 30 101 ?_
            refine pF 18 19 30 102 ?_
            refine pF 19 20 30 103 ?_
            refine pU 20 21 30 104 ?_
            refine pU 21 22 30 105 ?_
            refine pU 22 23 30 106 ?_
            refine pU 23 24 30 107 ?_
            refine pU 24 25 30 108 ?_
            refine pU 25 26 30 109 ?_
            refine pU 26 27 30 110 ?_
            refine pU 27 28 30 111 ?_
            refine pF 28 29 30 112 ?_
            refine pF 29 30 30 2 ?_
            refine done_ (done_of HT_.out (by kernel_rfl)) ?_
            try go_wp2
            go_ret
            exact ⟨by first | rfl | (simp [*, errW_none, errW_some] <;> rfl), by repeat (first | (with_reducible first | exact HB.out | apply bA | apply bN | apply bD | refine bS ?_ GE101.out) | exact HB.out)⟩
          ·
           rw [if_neg c70] at H
           have c70b0 : (a0_3 == 0) = false := beq_eq_false_iff_ne.mpr c70
           have c70b1 : (a0_3 != 0) = true := bne_iff_ne.mpr c70
           obtain rfl := Option.some.inj H
           try go_wp2
           have n0_ := AM (kD BK101.out)
           have n1_ := AM (bD HB.out)
           clear BK101
           clear HB
           have BK101 := n0_
           have HB := n1_
           clear n0_ n1_
           refine start_ (n := 30) (S := fun w' => w'.cell? ⟨gb101, 0, none⟩ = some (.int .i64 a0_0) ∧ w'.cell? ⟨gb101, 1, none⟩ = some (.int .i64 a0_1) ∧ w'.cell? ⟨gb101, 2, none⟩ = some (.int .i64 a0_2) ∧ w'.cell? ⟨gb101, 3, none⟩ = some (.int .i64 a0_3) ∧ w'.cell? ⟨gb101, 4, none⟩ = some (.string a0_4) ∧ w'.cell? ⟨gb101, 5, none⟩ = some (.slice A0_5 l0_5.length c0_5)) (ds := []) (upTo 0 30) (by kernel_rfl) rfl rfl ⟨(kC BK101.out 0).trans rfl, (kC BK101.out 1).trans rfl, (kC BK101.out 2).trans rfl, (kC BK101.out 3).trans rfl, (kC BK101.out 4).trans rfl, (kC BK101.out 5).trans rfl⟩ (fun hHeld => ?_); refine with_tabW impl_isSay.tab15 impl_isSay.bits15 (fun HT_ HW_ => ?_)
           generalize wc.drew = w77 at BK101 HB hHeld ⊢
           refine pF 0 1 30 84 ?_
           refine pT2 1 85 (upTo 2 30) ?_ hHeld
           refine one_ (i := 2) (N := some 86) (upTo 3 30) rfl rfl (one_of HT_.out (by kernel_rfl)) (by decide) (fun K hK => ?_)
           refine goes_ Try.func34 (by kernel_rfl) rfl #[.int .i64 a0_2, .int .i64 1] (by rfl) rfl rfl (by (try simp only [mA, mB, mC]); first | done | rfl | (simp only [mD, mE]; rfl)) ?_
           with_reducible refine (impl_isView.calls a0_2 1 true _ A68.out).mono ?_
           rintro e w' ⟨rfl, ⟨nd, rfl⟩⟩
           refine ⟨_, rfl, ?_⟩
           refine hK.out _ _ ⟨(kC BK101.out 0).trans rfl, (kC BK101.out 1).trans rfl, (kC BK101.out 2).trans rfl, (kC BK101.out 3).trans rfl, (kC BK101.out 4).trans rfl, (kC BK101.out 5).trans rfl⟩ (fun hHeld => ?_)
           clear hK K
           refine norm_ (a' := ?_) ?_ ?_
           rotate_left
           ·
            show Act.put _ (some 86) _ = _
            simp only [Act.put, sA, sB, sC, i64_w, i32_w]
            rfl
           refine pF 3 4 30 87 ?_
           refine pF 4 5 30 88 ?_
           refine pT2 5 89 (upTo 6 30) ?_ hHeld
           refine pF 6 7 30 90 ?_
           refine pF 7 8 30 91 ?_
           refine pF 8 9 30 92 ?_
           refine pU 9 10 30 93 ?_
           refine pU 10 11 30 94 ?_
           refine pU 11 12 30 95 ?_
           refine pF 12 13 30 96 ?_
           refine pF 13 14 30 97 ?_
           refine pU 14 15 30 98 ?_
           refine pU 15 16 30 99 ?_
           refine pU 16 17 30 100 ?_
           refine pU 17 18 30 101 ?_
           refine pF 18 19 30 102 ?_
           refine pF 19 20 30 103 ?_
           refine pU 20 21 30 104 ?_
           refine pU 21 22 30 105 ?_
           refine pU 22 23 30 106 ?_
           refine pU 23 24 30 107 ?_
           refine pU 24 25 30 108 ?_
           refine pU 25 26 30 109 ?_
           refine pU 26 27 30 110 ?_
           refine pU 27 28 30 111 ?_
           refine pF 28 29 30 112 ?_
           refine pF 29 30 30 2 ?_
           refine done_ (done_of HT_.out (by kernel_rfl)) ?_
           try go_wp2
           go_ret
           exact ⟨by first | rfl | (simp [*, errW_none, errW_some] <;> rfl), by repeat (first | (with_reducible first | exact HB.out | apply bA | apply bN | apply bD | refine bS ?_ GE101.out) | exact HB.out)⟩
         ·
          replace c69 := Bool.eq_false_iff.mpr c69
          subst c69
          have H1 : (some false) = some r := by rw [if_neg (show ¬ (false = true) by decide)] at H; exact H
          clear H
          have H := H1
          clear H1
          obtain rfl := Option.some.inj H
          try go_wp2
          have n0_ := AM (kD BK101.out)
          have n1_ := AM (bD HB.out)
          clear BK101
          clear HB
          have BK101 := n0_
          have HB := n1_
          clear n0_ n1_
          refine start_ (n := 30) (S := fun w' => w'.cell? ⟨gb101, 0, none⟩ = some (.int .i64 a0_0) ∧ w'.cell? ⟨gb101, 1, none⟩ = some (.int .i64 a0_1) ∧ w'.cell? ⟨gb101, 2, none⟩ = some (.int .i64 a0_2) ∧ w'.cell? ⟨gb101, 3, none⟩ = some (.int .i64 a0_3) ∧ w'.cell? ⟨gb101, 4, none⟩ = some (.string a0_4) ∧ w'.cell? ⟨gb101, 5, none⟩ = some (.slice A0_5 l0_5.length c0_5)) (ds := []) (upTo 0 30) (by kernel_rfl) rfl rfl ⟨(kC BK101.out 0).trans rfl, (kC BK101.out 1).trans rfl, (kC BK101.out 2).trans rfl, (kC BK101.out 3).trans rfl, (kC BK101.out 4).trans rfl, (kC BK101.out 5).trans rfl⟩ (fun hHeld => ?_); refine with_tabW impl_isSay.tab15 impl_isSay.bits15 (fun HT_ HW_ => ?_)
          generalize wc.drew = w78 at BK101 HB hHeld ⊢
          refine pF 0 1 30 84 ?_
          refine pT2 1 85 (upTo 2 30) ?_ hHeld
          refine one_ (i := 2) (N := some 86) (upTo 3 30) rfl rfl (one_of HT_.out (by kernel_rfl)) (by decide) (fun K hK => ?_)
          refine goes_ Try.func34 (by kernel_rfl) rfl #[.int .i64 a0_2, .int .i64 1] (by rfl) rfl rfl (by (try simp only [mA, mB, mC]); first | done | rfl | (simp only [mD, mE]; rfl)) ?_
          with_reducible refine (impl_isView.calls a0_2 1 false _ A68.out).mono ?_
          rintro e w' ⟨rfl, ⟨nd, rfl⟩⟩
          refine ⟨_, rfl, ?_⟩
          refine hK.out _ _ ⟨(kC BK101.out 0).trans rfl, (kC BK101.out 1).trans rfl, (kC BK101.out 2).trans rfl, (kC BK101.out 3).trans rfl, (kC BK101.out 4).trans rfl, (kC BK101.out 5).trans rfl⟩ (fun hHeld => ?_)
          clear hK K
          refine norm_ (a' := ?_) ?_ ?_
          rotate_left
          ·
           show Act.put _ (some 86) _ = _
           simp only [Act.put, sA, sB, sC, i64_w, i32_w]
           rfl
          refine pF 3 4 30 87 ?_
          refine pU 4 5 30 88 ?_
          refine pU 5 6 30 89 ?_
          refine pU 6 7 30 90 ?_
          refine pF 7 8 30 91 ?_
          refine pF 8 9 30 92 ?_
          refine pU 9 10 30 93 ?_
          refine pU 10 11 30 94 ?_
          refine pU 11 12 30 95 ?_
          refine pF 12 13 30 96 ?_
          refine pF 13 14 30 97 ?_
          refine pU 14 15 30 98 ?_
          refine pU 15 16 30 99 ?_
          refine pU 16 17 30 100 ?_
          refine pU 17 18 30 101 ?_
          refine pF 18 19 30 102 ?_
          refine pF 19 20 30 103 ?_
          refine pU 20 21 30 104 ?_
          refine pU 21 22 30 105 ?_
          refine pU 22 23 30 106 ?_
          refine pU 23 24 30 107 ?_
          refine pU 24 25 30 108 ?_
          refine pU 25 26 30 109 ?_
          refine pU 26 27 30 110 ?_
          refine pU 27 28 30 111 ?_
          refine pF 28 29 30 112 ?_
          refine pF 29 30 30 2 ?_
          refine done_ (done_of HT_.out (by kernel_rfl)) ?_
          try go_wp2
          go_ret
          exact ⟨by first | rfl | (simp [*, errW_none, errW_some] <;> rfl), by repeat (first | (with_reducible first | exact HB.out | apply bA | apply bN | apply bD | refine bS ?_ GE101.out) | exact HB.out)⟩
        ·
         rw [if_neg c67] at H
         have c67b0 : (a0_0 == 4) = false := beq_eq_false_iff_ne.mpr c67
         have c67b1 : (a0_0 != 4) = true := bne_iff_ne.mpr c67
         by_cases c79 : a0_0 = 5
         ·
          rw [if_pos c79] at H
          have c79b0 : (a0_0 == 5) = true := beq_iff_eq.mpr c79
          have c79b1 : (a0_0 != 5) = false := bne_eq_false_iff_eq.mpr c79
          clear c79
          replace H := Option.bind_eq_some_iff.mp H
          obtain ⟨t113, A800, H⟩ := H
          replace H : (if t113 = true then ((impl_leader.f a0_2).bind fun t114 => (if a0_1 = t114 then (if a0_3 = 0 then (if a0_4.toList = ([] : List UInt8) then ((impl_Change.f l0_5).bind fun t115 => ((impl_within.f t115 3 4).bind fun t116 => (some t116))) else (some false)) else (some false)) else (some false))) else (some false)) = some r := H
          have A80 := AM A800
          clear A800
          by_cases c81 : t113 = true
          ·
           subst c81
           have H1 : ((impl_leader.f a0_2).bind fun t114 => (if a0_1 = t114 then (if a0_3 = 0 then (if a0_4.toList = ([] : List UInt8) then ((impl_Change.f l0_5).bind fun t115 => ((impl_within.f t115 3 4).bind fun t116 => (some t116))) else (some false)) else (some false)) else (some false))) = some r := by rw [if_pos rfl] at H; exact H
           clear H
           have H := H1
           clear H1
           replace H := Option.bind_eq_some_iff.mp H
           obtain ⟨t114, A820, H⟩ := H
           replace H : (if a0_1 = t114 then (if a0_3 = 0 then (if a0_4.toList = ([] : List UInt8) then ((impl_Change.f l0_5).bind fun t115 => ((impl_within.f t115 3 4).bind fun t116 => (some t116))) else (some false)) else (some false)) else (some false)) = some r := H
           have A82 := AM A820
           clear A820
           by_cases c83 : a0_1 = t114
           ·
            rw [if_pos c83] at H
            have c83b0 : (a0_1 == t114) = true := beq_iff_eq.mpr c83
            have c83b1 : (a0_1 != t114) = false := bne_eq_false_iff_eq.mpr c83
            clear c83
            by_cases c84 : a0_3 = 0
            ·
             rw [if_pos c84] at H
             have c84b0 : (a0_3 == 0) = true := beq_iff_eq.mpr c84
             have c84b1 : (a0_3 != 0) = false := bne_eq_false_iff_eq.mpr c84
             clear c84
             by_cases c85 : a0_4.toList = ([] : List UInt8)
             ·
              rw [if_pos c85] at H
              have c85b0 : (a0_4.toList == ([] : List UInt8)) = true := beq_iff_eq.mpr c85
              have c85b1 : (a0_4.toList != ([] : List UInt8)) = false := bne_eq_false_iff_eq.mpr c85
              clear c85
              replace H := Option.bind_eq_some_iff.mp H
              obtain ⟨t115, A860, H⟩ := H
              replace H : ((impl_within.f t115 3 4).bind fun t116 => (some t116)) = some r := H
              have A86 := AM A860
              clear A860
              replace H := Option.bind_eq_some_iff.mp H
              obtain ⟨t116, A870, H⟩ := H
              replace H : (some t116) = some r := H
              have A87 := AM A870
              clear A870
              obtain rfl := Option.some.inj H
              try go_wp2
              have n0_ := AM (kD BK101.out)
              have n1_ := AM (bD HB.out)
              clear BK101
              clear HB
              have BK101 := n0_
              have HB := n1_
              clear n0_ n1_
              refine start_ (n := 28) (S := fun w' => w'.cell? ⟨gb101, 0, none⟩ = some (.int .i64 a0_0) ∧ w'.cell? ⟨gb101, 1, none⟩ = some (.int .i64 a0_1) ∧ w'.cell? ⟨gb101, 2, none⟩ = some (.int .i64 a0_2) ∧ w'.cell? ⟨gb101, 3, none⟩ = some (.int .i64 a0_3) ∧ w'.cell? ⟨gb101, 4, none⟩ = some (.string a0_4) ∧ w'.cell? ⟨gb101, 5, none⟩ = some (.slice A0_5 l0_5.length c0_5)) (ds := []) (upTo 0 28) (by kernel_rfl) rfl rfl ⟨(kC BK101.out 0).trans rfl, (kC BK101.out 1).trans rfl, (kC BK101.out 2).trans rfl, (kC BK101.out 3).trans rfl, (kC BK101.out 4).trans rfl, (kC BK101.out 5).trans rfl⟩ (fun hHeld => ?_); refine with_tabW impl_isSay.tab17 impl_isSay.bits17 (fun HT_ HW_ => ?_)
              generalize wc.drew = w88 at BK101 HB hHeld ⊢
              refine pF 0 1 28 115 ?_
              refine pT2 1 116 (upTo 2 28) ?_ hHeld
              refine one_ (i := 2) (N := some 117) (upTo 3 28) rfl rfl (one_of HT_.out (by kernel_rfl)) (by decide) (fun K hK => ?_)
              refine goes_ Try.func34 (by kernel_rfl) rfl #[.int .i64 a0_2, .int .i64 1] (by rfl) rfl rfl (by (try simp only [mA, mB, mC]); first | done | rfl | (simp only [mD, mE]; rfl)) ?_
              with_reducible refine (impl_isView.calls a0_2 1 true _ A80.out).mono ?_
              rintro e w' ⟨rfl, ⟨nd, rfl⟩⟩
              refine ⟨_, rfl, ?_⟩
              refine hK.out _ _ ⟨(kC BK101.out 0).trans rfl, (kC BK101.out 1).trans rfl, (kC BK101.out 2).trans rfl, (kC BK101.out 3).trans rfl, (kC BK101.out 4).trans rfl, (kC BK101.out 5).trans rfl⟩ (fun hHeld => ?_)
              clear hK K
              refine norm_ (a' := ?_) ?_ ?_
              rotate_left
              ·
               show Act.put _ (some 117) _ = _
               simp only [Act.put, sA, sB, sC, i64_w, i32_w]
               rfl
              refine pF 3 4 28 118 ?_
              refine pF 4 5 28 119 ?_
              refine pF2 6 121 impl_isSay.b12 ?_
              refine pT2 5 120 (upTo 7 28) ?_ hHeld
              refine pT2 7 122 (upTo 8 28) ?_ hHeld
              refine one_ (i := 8) (N := some 123) (upTo 9 28) rfl rfl (one_of HT_.out (by kernel_rfl)) (by decide) (fun K hK => ?_)
              refine goes_ Try.func37 (by kernel_rfl) rfl #[.int .i64 a0_2] (by rfl) rfl rfl (by (try simp only [mA, mB, mC]); first | done | rfl | (simp only [mD, mE]; rfl)) ?_
              with_reducible refine (impl_leader.calls a0_2 t114 _ A82.out).mono ?_
              rintro e w' ⟨rfl, ⟨nd, rfl⟩⟩
              refine ⟨_, rfl, ?_⟩
              refine hK.out _ _ ⟨(kC BK101.out 0).trans rfl, (kC BK101.out 1).trans rfl, (kC BK101.out 2).trans rfl, (kC BK101.out 3).trans rfl, (kC BK101.out 4).trans rfl, (kC BK101.out 5).trans rfl⟩ (fun hHeld => ?_)
              clear hK K
              refine norm_ (a' := ?_) ?_ ?_
              rotate_left
              ·
               show Act.put _ (some 123) _ = _
               simp only [Act.put, sA, sB, sC, i64_w, i32_w]
               rfl
              refine pF 9 10 28 124 ?_
              refine pF 10 11 28 125 ?_
              refine pF 11 12 28 126 ?_
              refine pF 12 13 28 127 ?_
              refine pT2 13 128 (upTo 14 28) ?_ hHeld
              refine pF 14 15 28 129 ?_
              refine pF 15 16 28 130 ?_
              refine pF 16 17 28 131 ?_
              refine pF 17 18 28 132 ?_
              refine pT2 18 133 (upTo 19 28) ?_ hHeld
              refine pF 19 20 28 134 ?_
              refine pF 20 21 28 135 ?_
              refine pF 21 22 28 136 ?_
              refine pF 22 23 28 137 ?_
              refine pT2 23 138 (upTo 24 28) ?_ hHeld
              refine one_ (i := 24) (N := some 139) (upTo 25 28) rfl rfl (one_of HT_.out (by kernel_rfl)) (by decide) (fun K hK => ?_)
              refine goes_ Try.func39 (by kernel_rfl) rfl #[.slice A0_5 l0_5.length c0_5] (by rfl) rfl rfl (by (try simp only [mA, mB, mC]); first | done | rfl | (simp only [mD, mE]; rfl)) ?_
              with_reducible refine (impl_Change.calls _ _ l0_5 t115 _ A86.out).mono ?_
              rintro e w' ⟨rfl, ⟨nd, rfl⟩⟩
              refine ⟨_, rfl, ?_⟩
              refine hK.out _ _ ⟨(kC BK101.out 0).trans rfl, (kC BK101.out 1).trans rfl, (kC BK101.out 2).trans rfl, (kC BK101.out 3).trans rfl, (kC BK101.out 4).trans rfl, (kC BK101.out 5).trans rfl⟩ (fun hHeld => ?_)
              clear hK K
              refine norm_ (a' := ?_) ?_ ?_
              rotate_left
              ·
               show Act.put _ (some 139) _ = _
               simp only [Act.put, sA, sB, sC, i64_w, i32_w]
               rfl
              refine one_ (i := 25) (N := some 140) (upTo 26 28) rfl rfl (one_of HT_.out (by kernel_rfl)) (by decide) (fun K hK => ?_)
              refine goes_ Try.func38 (by kernel_rfl) rfl #[.int .i64 t115, .int .i64 3, .int .i64 4] (by rfl) rfl rfl (by (try simp only [mA, mB, mC]); first | done | rfl | (simp only [mD, mE]; rfl)) ?_
              with_reducible refine (impl_within.calls t115 3 4 t116 _ A87.out).mono ?_
              rintro e w' ⟨rfl, ⟨nd, rfl⟩⟩
              refine ⟨_, rfl, ?_⟩
              refine hK.out _ _ ⟨(kC BK101.out 0).trans rfl, (kC BK101.out 1).trans rfl, (kC BK101.out 2).trans rfl, (kC BK101.out 3).trans rfl, (kC BK101.out 4).trans rfl, (kC BK101.out 5).trans rfl⟩ (fun hHeld => ?_)
              clear hK K
              refine norm_ (a' := ?_) ?_ ?_
              rotate_left
              ·
               show Act.put _ (some 140) _ = _
               simp only [Act.put, sA, sB, sC, i64_w, i32_w]
               rfl
              refine pF 26 27 28 141 ?_
              refine pF 27 28 28 2 ?_
              refine done_ (done_of HT_.out (by kernel_rfl)) ?_
              try go_wp2
              go_ret
              exact ⟨by first | rfl | (simp [*, errW_none, errW_some] <;> rfl), by repeat (first | (with_reducible first | exact HB.out | apply bA | apply bN | apply bD | refine bS ?_ GE101.out) | exact HB.out)⟩
             ·
              rw [if_neg c85] at H
              have c85b0 : (a0_4.toList == ([] : List UInt8)) = false := beq_eq_false_iff_ne.mpr c85
              have c85b1 : (a0_4.toList != ([] : List UInt8)) = true := bne_iff_ne.mpr c85
              obtain rfl := Option.some.inj H
              try go_wp2
              have n0_ := AM (kD BK101.out)
              have n1_ := AM (bD HB.out)
              clear BK101
              clear HB
              have BK101 := n0_
              have HB := n1_
              clear n0_ n1_
              refine start_ (n := 28) (S := fun w' => w'.cell? ⟨gb101, 0, none⟩ = some (.int .i64 a0_0) ∧ w'.cell? ⟨gb101, 1, none⟩ = some (.int .i64 a0_1) ∧ w'.cell? ⟨gb101, 2, none⟩ = some (.int .i64 a0_2) ∧ w'.cell? ⟨gb101, 3, none⟩ = some (.int .i64 a0_3) ∧ w'.cell? ⟨gb101, 4, none⟩ = some (.string a0_4) ∧ w'.cell? ⟨gb101, 5, none⟩ = some (.slice A0_5 l0_5.length c0_5)) (ds := []) (upTo 0 28) (by kernel_rfl) rfl rfl ⟨(kC BK101.out 0).trans rfl, (kC BK101.out 1).trans rfl, (kC BK101.out 2).trans rfl, (kC BK101.out 3).trans rfl, (kC BK101.out 4).trans rfl, (kC BK101.out 5).trans rfl⟩ (fun hHeld => ?_); refine with_tabW impl_isSay.tab17 impl_isSay.bits17 (fun HT_ HW_ => ?_)
              generalize wc.drew = w89 at BK101 HB hHeld ⊢
              refine pF 0 1 28 115 ?_
              refine pT2 1 116 (upTo 2 28) ?_ hHeld
              refine one_ (i := 2) (N := some 117) (upTo 3 28) rfl rfl (one_of HT_.out (by kernel_rfl)) (by decide) (fun K hK => ?_)
              refine goes_ Try.func34 (by kernel_rfl) rfl #[.int .i64 a0_2, .int .i64 1] (by rfl) rfl rfl (by (try simp only [mA, mB, mC]); first | done | rfl | (simp only [mD, mE]; rfl)) ?_
              with_reducible refine (impl_isView.calls a0_2 1 true _ A80.out).mono ?_
              rintro e w' ⟨rfl, ⟨nd, rfl⟩⟩
              refine ⟨_, rfl, ?_⟩
              refine hK.out _ _ ⟨(kC BK101.out 0).trans rfl, (kC BK101.out 1).trans rfl, (kC BK101.out 2).trans rfl, (kC BK101.out 3).trans rfl, (kC BK101.out 4).trans rfl, (kC BK101.out 5).trans rfl⟩ (fun hHeld => ?_)
              clear hK K
              refine norm_ (a' := ?_) ?_ ?_
              rotate_left
              ·
               show Act.put _ (some 117) _ = _
               simp only [Act.put, sA, sB, sC, i64_w, i32_w]
               rfl
              refine pF 3 4 28 118 ?_
              refine pF 4 5 28 119 ?_
              refine pF2 6 121 impl_isSay.b12 ?_
              refine pT2 5 120 (upTo 7 28) ?_ hHeld
              refine pT2 7 122 (upTo 8 28) ?_ hHeld
              refine one_ (i := 8) (N := some 123) (upTo 9 28) rfl rfl (one_of HT_.out (by kernel_rfl)) (by decide) (fun K hK => ?_)
              refine goes_ Try.func37 (by kernel_rfl) rfl #[.int .i64 a0_2] (by rfl) rfl rfl (by (try simp only [mA, mB, mC]); first | done | rfl | (simp only [mD, mE]; rfl)) ?_
              with_reducible refine (impl_leader.calls a0_2 t114 _ A82.out).mono ?_
              rintro e w' ⟨rfl, ⟨nd, rfl⟩⟩
              refine ⟨_, rfl, ?_⟩
              refine hK.out _ _ ⟨(kC BK101.out 0).trans rfl, (kC BK101.out 1).trans rfl, (kC BK101.out 2).trans rfl, (kC BK101.out 3).trans rfl, (kC BK101.out 4).trans rfl, (kC BK101.out 5).trans rfl⟩ (fun hHeld => ?_)
              clear hK K
              refine norm_ (a' := ?_) ?_ ?_
              rotate_left
              ·
               show Act.put _ (some 123) _ = _
               simp only [Act.put, sA, sB, sC, i64_w, i32_w]
               rfl
              refine pF 9 10 28 124 ?_
              refine pF 10 11 28 125 ?_
              refine pF 11 12 28 126 ?_
              refine pF 12 13 28 127 ?_
              refine pT2 13 128 (upTo 14 28) ?_ hHeld
              refine pF 14 15 28 129 ?_
              refine pF 15 16 28 130 ?_
              refine pF 16 17 28 131 ?_
              refine pF 17 18 28 132 ?_
              refine pT2 18 133 (upTo 19 28) ?_ hHeld
              refine pF 19 20 28 134 ?_
              refine pF 20 21 28 135 ?_
              refine pF 21 22 28 136 ?_
              refine pU 22 23 28 137 ?_
              refine pU 23 24 28 138 ?_
              refine pU 24 25 28 139 ?_
              refine pU 25 26 28 140 ?_
              refine pF 26 27 28 141 ?_
              refine pF 27 28 28 2 ?_
              refine done_ (done_of HT_.out (by kernel_rfl)) ?_
              try go_wp2
              go_ret
              exact ⟨by first | rfl | (simp [*, errW_none, errW_some] <;> rfl), by repeat (first | (with_reducible first | exact HB.out | apply bA | apply bN | apply bD | refine bS ?_ GE101.out) | exact HB.out)⟩
            ·
             rw [if_neg c84] at H
             have c84b0 : (a0_3 == 0) = false := beq_eq_false_iff_ne.mpr c84
             have c84b1 : (a0_3 != 0) = true := bne_iff_ne.mpr c84
             obtain rfl := Option.some.inj H
             try go_wp2
             have n0_ := AM (kD BK101.out)
             have n1_ := AM (bD HB.out)
             clear BK101
             clear HB
             have BK101 := n0_
             have HB := n1_
             clear n0_ n1_
             refine start_ (n := 28) (S := fun w' => w'.cell? ⟨gb101, 0, none⟩ = some (.int .i64 a0_0) ∧ w'.cell? ⟨gb101, 1, none⟩ = some (.int .i64 a0_1) ∧ w'.cell? ⟨gb101, 2, none⟩ = some (.int .i64 a0_2) ∧ w'.cell? ⟨gb101, 3, none⟩ = some (.int .i64 a0_3) ∧ w'.cell? ⟨gb101, 4, none⟩ = some (.string a0_4) ∧ w'.cell? ⟨gb101, 5, none⟩ = some (.slice A0_5 l0_5.length c0_5)) (ds := []) (upTo 0 28) (by kernel_rfl) rfl rfl ⟨(kC BK101.out 0).trans rfl, (kC BK101.out 1).trans rfl, (kC BK101.out 2).trans rfl, (kC BK101.out 3).trans rfl, (kC BK101.out 4).trans rfl, (kC BK101.out 5).trans rfl⟩ (fun hHeld => ?_); refine with_tabW impl_isSay.tab17 impl_isSay.bits17 (fun HT_ HW_ => ?_)
             generalize wc.drew = w90 at BK101 HB hHeld ⊢
             refine pF 0 1 28 115 ?_
             refine pT2 1 116 (upTo 2 28) ?_ hHeld
             refine one_ (i := 2) (N := some 117) (upTo 3 28) rfl rfl (one_of HT_.out (by kernel_rfl)) (by decide) (fun K hK => ?_)
             refine goes_ Try.func34 (by kernel_rfl) rfl #[.int .i64 a0_2, .int .i64 1] (by rfl) rfl rfl (by (try simp only [mA, mB, mC]); first | done | rfl | (simp only [mD, mE]; rfl)) ?_
             with_reducible refine (impl_isView.calls a0_2 1 true _ A80.out).mono ?_
             rintro e w' ⟨rfl, ⟨nd, rfl⟩⟩
             refine ⟨_, rfl, ?_⟩
             refine hK.out _ _ ⟨(kC BK101.out 0).trans rfl, (kC BK101.out 1).trans rfl, (kC BK101.out 2).trans rfl, (kC BK101.out 3).trans rfl, (kC BK101.out 4).trans rfl, (kC BK101.out 5).trans rfl⟩ (fun hHeld => ?_)
             clear hK K
             refine norm_ (a' := ?_) ?_ ?_
             rotate_left
             ·
              show Act.put _ (some 117) _ = _
              simp only [Act.put, sA, sB, sC, i64_w, i32_w]
              rfl
             refine pF 3 4 28 118 ?_
             refine pF 4 5 28 119 ?_
             refine pF2 6 121 impl_isSay.b12 ?_
             refine pT2 5 120 (upTo 7 28) ?_ hHeld
             refine pT2 7 122 (upTo 8 28) ?_ hHeld
             refine one_ (i := 8) (N := some 123) (upTo 9 28) rfl rfl (one_of HT_.out (by kernel_rfl)) (by decide) (fun K hK => ?_)
             refine goes_ Try.func37 (by kernel_rfl) rfl #[.int .i64 a0_2] (by rfl) rfl rfl (by (try simp only [mA, mB, mC]); first | done | rfl | (simp only [mD, mE]; rfl)) ?_
             with_reducible refine (impl_leader.calls a0_2 t114 _ A82.out).mono ?_
             rintro e w' ⟨rfl, ⟨nd, rfl⟩⟩
             refine ⟨_, rfl, ?_⟩
             refine hK.out _ _ ⟨(kC BK101.out 0).trans rfl, (kC BK101.out 1).trans rfl, (kC BK101.out 2).trans rfl, (kC BK101.out 3).trans rfl, (kC BK101.out 4).trans rfl, (kC BK101.out 5).trans rfl⟩ (fun hHeld => ?_)
             clear hK K
             refine norm_ (a' := ?_) ?_ ?_
             rotate_left
             ·
              show Act.put _ (some 123) _ = _
              simp only [Act.put, sA, sB, sC, i64_w, i32_w]
              rfl
             refine pF 9 10 28 124 ?_
             refine pF 10 11 28 125 ?_
             refine pF 11 12 28 126 ?_
             refine pF 12 13 28 127 ?_
             refine pT2 13 128 (upTo 14 28) ?_ hHeld
             refine pF 14 15 28 129 ?_
             refine pF 15 16 28 130 ?_
             refine pF 16 17 28 131 ?_
             refine pU 17 18 28 132 ?_
             refine pU 18 19 28 133 ?_
             refine pU 19 20 28 134 ?_
             refine pF 20 21 28 135 ?_
             refine pF 21 22 28 136 ?_
             refine pU 22 23 28 137 ?_
             refine pU 23 24 28 138 ?_
             refine pU 24 25 28 139 ?_
             refine pU 25 26 28 140 ?_
             refine pF 26 27 28 141 ?_
             refine pF 27 28 28 2 ?_
             refine done_ (done_of HT_.out (by kernel_rfl)) ?_
             try go_wp2
             go_ret
             exact ⟨by first | rfl | (simp [*, errW_none, errW_some] <;> rfl), by repeat (first | (with_reducible first | exact HB.out | apply bA | apply bN | apply bD | refine bS ?_ GE101.out) | exact HB.out)⟩
           ·
            rw [if_neg c83] at H
            have c83b0 : (a0_1 == t114) = false := beq_eq_false_iff_ne.mpr c83
            have c83b1 : (a0_1 != t114) = true := bne_iff_ne.mpr c83
            obtain rfl := Option.some.inj H
            try go_wp2
            have n0_ := AM (kD BK101.out)
            have n1_ := AM (bD HB.out)
            clear BK101
            clear HB
            have BK101 := n0_
            have HB := n1_
            clear n0_ n1_
            refine start_ (n := 28) (S := fun w' => w'.cell? ⟨gb101, 0, none⟩ = some (.int .i64 a0_0) ∧ w'.cell? ⟨gb101, 1, none⟩ = some (.int .i64 a0_1) ∧ w'.cell? ⟨gb101, 2, none⟩ = some (.int .i64 a0_2) ∧ w'.cell? ⟨gb101, 3, none⟩ = some (.int .i64 a0_3) ∧ w'.cell? ⟨gb101, 4, none⟩ = some (.string a0_4) ∧ w'.cell? ⟨gb101, 5, none⟩ = some (.slice A0_5 l0_5.length c0_5)) (ds := []) (upTo 0 28) (by kernel_rfl) rfl rfl ⟨(kC BK101.out 0).trans rfl, (kC BK101.out 1).trans rfl, (kC BK101.out 2).trans rfl, (kC BK101.out 3).trans rfl, (kC BK101.out 4).trans rfl, (kC BK101.out 5).trans rfl⟩ (fun hHeld => ?_); refine with_tabW impl_isSay.tab17 impl_isSay.bits17 (fun HT_ HW_ => ?_)
            generalize wc.drew = w91 at BK101 HB hHeld ⊢
            refine pF 0 1 28 115 ?_
            refine pT2 1 116 (upTo 2 28) ?_ hHeld
            refine one_ (i := 2) (N := some 117) (upTo 3 28) rfl rfl (one_of HT_.out (by kernel_rfl)) (by decide) (fun K hK => ?_)
            refine goes_ Try.func34 (by kernel_rfl) rfl #[.int .i64 a0_2, .int .i64 1] (by rfl) rfl rfl (by (try simp only [mA, mB, mC]); first | done | rfl | (simp only [mD, mE]; rfl)) ?_
            with_reducible refine (impl_isView.calls a0_2 1 true _ A80.out).mono ?_
            rintro e w' ⟨rfl, ⟨nd, rfl⟩⟩
            refine ⟨_, rfl, ?_⟩
            refine hK.out _ _ ⟨(kC BK101.out 0).trans rfl, (kC BK101.out 1).trans rfl, (kC BK101.out 2).trans rfl, (kC BK101.out 3).trans rfl, (kC BK101.out 4).trans rfl, (kC BK101.out 5).trans rfl⟩ (fun hHeld => ?_)
            clear hK K
            refine norm_ (a' := ?_) ?_ ?_
            rotate_left
            ·
             show Act.put _ (some 117) _ = _
             simp only [Act.put, sA, sB, sC, i64_w, i32_w]
             rfl
            refine pF 3 4 28 118 ?_
            refine pF 4 5 28 119 ?_
            refine pF2 6 121 impl_isSay.b12 ?_
            refine pT2 5 120 (upTo 7 28) ?_ hHeld
            refine pT2 7 122 (upTo 8 28) ?_ hHeld
            refine one_ (i := 8) (N := some 123) (upTo 9 28) rfl rfl (one_of HT_.out (by kernel_rfl)) (by decide) (fun K hK => ?_)
            refine goes_ Try.func37 (by kernel_rfl) rfl #[.int .i64 a0_2] (by rfl) rfl rfl (by (try simp only [mA, mB, mC]); first | done | rfl | (simp only [mD, mE]; rfl)) ?_
            with_reducible refine (impl_leader.calls a0_2 t114 _ A82.out).mono ?_
            rintro e w' ⟨rfl, ⟨nd, rfl⟩⟩
            refine ⟨_, rfl, ?_⟩
            refine hK.out _ _ ⟨(kC BK101.out 0).trans rfl, (kC BK101.out 1).trans rfl, (kC BK101.out 2).trans rfl, (kC BK101.out 3).trans rfl, (kC BK101.out 4).trans rfl, (kC BK101.out 5).trans rfl⟩ (fun hHeld => ?_)
            clear hK K
            refine norm_ (a' := ?_) ?_ ?_
            rotate_left
            ·
             show Act.put _ (some 123) _ = _
             simp only [Act.put, sA, sB, sC, i64_w, i32_w]
             rfl
            refine pF 9 10 28 124 ?_
            refine pF 10 11 28 125 ?_
            refine pF 11 12 28 126 ?_
            refine pU 12 13 28 127 ?_
            refine pU 13 14 28 128 ?_
            refine pU 14 15 28 129 ?_
            refine pF 15 16 28 130 ?_
            refine pF 16 17 28 131 ?_
            refine pU 17 18 28 132 ?_
            refine pU 18 19 28 133 ?_
            refine pU 19 20 28 134 ?_
            refine pF 20 21 28 135 ?_
            refine pF 21 22 28 136 ?_
            refine pU 22 23 28 137 ?_
            refine pU 23 24 28 138 ?_
            refine pU 24 25 28 139 ?_
            refine pU 25 26 28 140 ?_
            refine pF 26 27 28 141 ?_
            refine pF 27 28 28 2 ?_
            refine done_ (done_of HT_.out (by kernel_rfl)) ?_
            try go_wp2
            go_ret
            exact ⟨by first | rfl | (simp [*, errW_none, errW_some] <;> rfl), by repeat (first | (with_reducible first | exact HB.out | apply bA | apply bN | apply bD | refine bS ?_ GE101.out) | exact HB.out)⟩
          ·
           replace c81 := Bool.eq_false_iff.mpr c81
           subst c81
           have H1 : (some false) = some r := by rw [if_neg (show ¬ (false = true) by decide)] at H; exact H
           clear H
           have H := H1
           clear H1
           obtain rfl := Option.some.inj H
           try go_wp2
           have n0_ := AM (kD BK101.out)
           have n1_ := AM (bD HB.out)
           clear BK101
           clear HB
           have BK101 := n0_
           have HB := n1_
           clear n0_ n1_
           refine start_ (n := 28) (S := fun w' => w'.cell? ⟨gb101, 0, none⟩ = some (.int .i64 a0_0) ∧ w'.cell? ⟨gb101, 1, none⟩ = some (.int .i64 a0_1) ∧ w'.cell? ⟨gb101, 2, none⟩ = some (.int .i64 a0_2) ∧ w'.cell? ⟨gb101, 3, none⟩ = some (.int .i64 a0_3) ∧ w'.cell? ⟨gb101, 4, none⟩ = some (.string a0_4) ∧ w'.cell? ⟨gb101, 5, none⟩ = some (.slice A0_5 l0_5.length c0_5)) (ds := []) (upTo 0 28) (by kernel_rfl) rfl rfl ⟨(kC BK101.out 0).trans rfl, (kC BK101.out 1).trans rfl, (kC BK101.out 2).trans rfl, (kC BK101.out 3).trans rfl, (kC BK101.out 4).trans rfl, (kC BK101.out 5).trans rfl⟩ (fun hHeld => ?_); refine with_tabW impl_isSay.tab17 impl_isSay.bits17 (fun HT_ HW_ => ?_)
           generalize wc.drew = w92 at BK101 HB hHeld ⊢
           refine pF 0 1 28 115 ?_
           refine pT2 1 116 (upTo 2 28) ?_ hHeld
           refine one_ (i := 2) (N := some 117) (upTo 3 28) rfl rfl (one_of HT_.out (by kernel_rfl)) (by decide) (fun K hK => ?_)
           refine goes_ Try.func34 (by kernel_rfl) rfl #[.int .i64 a0_2, .int .i64 1] (by rfl) rfl rfl (by (try simp only [mA, mB, mC]); first | done | rfl | (simp only [mD, mE]; rfl)) ?_
           with_reducible refine (impl_isView.calls a0_2 1 false _ A80.out).mono ?_
           rintro e w' ⟨rfl, ⟨nd, rfl⟩⟩
           refine ⟨_, rfl, ?_⟩
           refine hK.out _ _ ⟨(kC BK101.out 0).trans rfl, (kC BK101.out 1).trans rfl, (kC BK101.out 2).trans rfl, (kC BK101.out 3).trans rfl, (kC BK101.out 4).trans rfl, (kC BK101.out 5).trans rfl⟩ (fun hHeld => ?_)
           clear hK K
           refine norm_ (a' := ?_) ?_ ?_
           rotate_left
           ·
            show Act.put _ (some 117) _ = _
            simp only [Act.put, sA, sB, sC, i64_w, i32_w]
            rfl
           refine pF 3 4 28 118 ?_
           refine pU 4 5 28 119 ?_
           refine pU 5 6 28 120 ?_
           refine pU 6 7 28 121 ?_
           refine pU 7 8 28 122 ?_
           refine pU 8 9 28 123 ?_
           refine pU 9 10 28 124 ?_
           refine pF 10 11 28 125 ?_
           refine pF 11 12 28 126 ?_
           refine pU 12 13 28 127 ?_
           refine pU 13 14 28 128 ?_
           refine pU 14 15 28 129 ?_
           refine pF 15 16 28 130 ?_
           refine pF 16 17 28 131 ?_
           refine pU 17 18 28 132 ?_
           refine pU 18 19 28 133 ?_
           refine pU 19 20 28 134 ?_
           refine pF 20 21 28 135 ?_
           refine pF 21 22 28 136 ?_
           refine pU 22 23 28 137 ?_
           refine pU 23 24 28 138 ?_
           refine pU 24 25 28 139 ?_
           refine pU 25 26 28 140 ?_
           refine pF 26 27 28 141 ?_
           refine pF 27 28 28 2 ?_
           refine done_ (done_of HT_.out (by kernel_rfl)) ?_
           try go_wp2
           go_ret
           exact ⟨by first | rfl | (simp [*, errW_none, errW_some] <;> rfl), by repeat (first | (with_reducible first | exact HB.out | apply bA | apply bN | apply bD | refine bS ?_ GE101.out) | exact HB.out)⟩
         ·
          rw [if_neg c79] at H
          have c79b0 : (a0_0 == 5) = false := beq_eq_false_iff_ne.mpr c79
          have c79b1 : (a0_0 != 5) = true := bne_iff_ne.mpr c79
          obtain rfl := Option.some.inj H
          go_wp2
          go_ret
          exact ⟨by first | rfl | (simp [*, errW_none, errW_some] <;> rfl), by repeat (first | (with_reducible first | exact HB.out | apply bA | apply bN | apply bD | refine bS ?_ GE101.out) | exact HB.out)⟩
 ·
  replace c3 := Bool.eq_false_iff.mpr c3
  subst c3
  have H1 : (some false) = some r := by rw [if_neg (show ¬ (false = true) by decide)] at H; exact H
  clear H
  have H := H1
  clear H1
  obtain rfl := Option.some.inj H
  go_enter Try.func24, Try.ntmps24
  go_wp2_with (first | ((with_reducible refine gate_dst (N := 1) rfl ?_); (try (refine gate_guard (by rfl) ?_; dsimp only)); refine box_event (by rfl) (N := 1) (by rfl) (cs := #[.int .i64 a0_0, .int .i64 a0_1, .int .i64 a0_2, .int .i64 a0_3, .string a0_4, .slice A0_5 l0_5.length c0_5]) (t := 29) (by first | (go_simp; done) | (go_simp; rfl)) ?_; intro gb101 hg w93 hbox hb; have n0_ := AM (below_step (by repeat (first | (with_reducible first | exact HB.out | apply bA | apply bN | apply bD) | exact HB.out)) hb); have n1_ := AM (hbox); have n2_ := AM ((by rw [hg]; exact (bZ (by repeat (first | (with_reducible first | exact HB.out | apply bA | apply bN | apply bD) | exact HB.out))) : w.heap.size ≤ gb101)); have n3_ := n2_; clear HB; have HB := n0_; have BK101 := n1_; have GW101 := n2_; have GE101 := n3_; clear n0_ n1_ n2_ n3_; clear hb hbox hg; have hcz94_0 : w93.cell? ⟨gb101, 0, none⟩ = some (.int .i64 a0_0) := (kC BK101.out 0).trans rfl; have hcz94_1 : w93.cell? ⟨gb101, 1, none⟩ = some (.int .i64 a0_1) := (kC BK101.out 1).trans rfl; have hcz94_2 : w93.cell? ⟨gb101, 2, none⟩ = some (.int .i64 a0_2) := (kC BK101.out 2).trans rfl; have hcz94_3 : w93.cell? ⟨gb101, 3, none⟩ = some (.int .i64 a0_3) := (kC BK101.out 3).trans rfl; have hcz94_4 : w93.cell? ⟨gb101, 4, none⟩ = some (.string a0_4) := (kC BK101.out 4).trans rfl; have hcz94_5 : w93.cell? ⟨gb101, 5, none⟩ = some (.slice A0_5 l0_5.length c0_5) := (kC BK101.out 5).trans rfl; have hfz94_0 := fZ BK101.out 0; have hfz94_1 := fZ BK101.out 1; have hfz94_2 := fZ BK101.out 2; have hfz94_3 := fZ BK101.out 3; have hfz94_4 := fZ BK101.out 4; have hfz94_5 := fZ BK101.out 5) | ((with_reducible refine gate_callee (f := 32) rfl ?_); refine goesL_ (some 7) rfl rfl Try.func32 (by kernel_rfl) rfl #[.int .i64 a0_1] rfl (by (try simp only [mA, mB, mC]); first | done | rfl | (simp only [mD, mE]; rfl)) ?_; (with_reducible refine (impl_isReplica.calls a0_1 false _ A2.out).mono ?_); rintro e w' ⟨rfl, ⟨nd, rfl⟩⟩; refine ⟨_, rfl, ?_⟩))
  go_ret
  exact ⟨by first | rfl | (simp [*, errW_none, errW_some] <;> rfl), by repeat (first | (with_reducible first | exact HB.out | apply bA | apply bN | apply bD | refine bS ?_ GE101.out) | exact HB.out)⟩

end Go.Proofs.Ytlkpjekalidkdaa.Q
