/- Printed by a program of this session (wip/mp.py over the kit's print.py): functions of the translation as plain Lean functions, and that the machine's calls do what these say. -/
import Derived.Test.YtlkpjekalidkdaaQx0
import Derived.Test.YtlkpjekalidkdaaQx8
import Derived.Test.YtlkpjekalidkdaaQx15
namespace Go.Proofs.Ytlkpjekalidkdaa.Q
open Go.RowKit Go.Proofs.Ytlkpjekalidkdaa.HB Go.Proofs.YtlkpjekalidkdaaW.PrintWords Go.Proofs.YtlkpjekalidkdaaW.PrintLast Go.Proofs.YtlkpjekalidkdaaW.PrintMore
attribute [local go_sem] max2_int min2_int max_two min_two max_three min_three max_four min_four   -- for this text's walks alone
set_option linter.unusedVariables false
set_option linter.unusedSimpArgs false

/-! ### impl_sayBytes: function 27 -/
abbrev impl_sayBytes.b0 : Array Bool := #[true, false, true, false, false, false, false, false, false, false, false, false, false, false, false, false, false, false, false, false]
abbrev impl_sayBytes.b1 : Array Bool := #[true, false, true, false, true, false, false, false, false, false, false, false, false, false, false, false, false, false, false, false]
abbrev impl_sayBytes.b2 : Array Bool := #[true, false, true, false, true, false, true, false, false, false, false, false, false, false, false, false, false, false, false, false]
abbrev impl_sayBytes.b3 : Array Bool := #[true, false, true, false, true, false, true, false, false, false, true, false, false, false, false, false, false, false, false, false]
abbrev impl_sayBytes.b4 : Array Bool := #[true, false, true, false, true, false, true, false, false, false, true, false, false, false, true, false, false, false, false, false]
abbrev impl_sayBytes.b5 : Array Bool := #[true, true, true, false, true, false, true, false, false, false, true, false, false, false, true, false, false, false, false, false]
abbrev impl_sayBytes.b6 : Array Bool := #[true, true, true, true, true, false, true, false, false, false, true, false, false, false, true, false, false, false, false, false]
abbrev impl_sayBytes.b7 : Array Bool := #[true, true, true, true, true, true, true, false, false, false, true, false, false, false, true, false, false, false, false, false]
abbrev impl_sayBytes.b8 : Array Bool := #[true, true, true, true, true, true, true, true, false, false, true, false, false, false, true, false, false, false, false, false]
abbrev impl_sayBytes.b9 : Array Bool := #[true, true, true, true, true, true, true, true, false, false, true, true, false, false, true, false, false, false, false, false]
abbrev impl_sayBytes.b10 : Array Bool := #[true, true, true, true, true, true, true, true, false, false, true, true, false, false, true, true, false, false, false, false]
abbrev impl_sayBytes.b11 : Array Bool := #[true, true, true, true, true, true, true, true, true, false, true, true, false, false, true, true, false, false, false, false]
abbrev impl_sayBytes.b12 : Array Bool := #[true, true, true, true, true, true, true, true, true, true, true, true, false, false, true, true, false, false, false, false]
abbrev impl_sayBytes.b13 : Array Bool := #[true, true, true, true, true, true, true, true, true, true, true, true, true, false, true, true, false, false, false, false]
abbrev impl_sayBytes.b14 : Array Bool := #[true, true, false, true, false, false, false, false, false, false, false, false]
abbrev impl_sayBytes.b15 : Array Bool := #[true, true, false, true, false, true, false, false, false, false, false, false]
abbrev impl_sayBytes.b16 : Array Bool := #[true, true, true, true, false, true, false, false, false, false, false, false]
abbrev impl_sayBytes.b17 : Array Bool := #[true, true, false, true, false, false, false, false, false, false, false, false, false, false, false, false, false, false, false, false, false, false]
abbrev impl_sayBytes.b18 : Array Bool := #[true, true, false, true, false, false, false, true, false, false, false, false, false, false, false, false, false, false, false, false, false, false]
abbrev impl_sayBytes.b19 : Array Bool := #[true, true, false, true, false, false, false, true, false, false, false, true, false, false, false, false, false, false, false, false, false, false]
abbrev impl_sayBytes.b20 : Array Bool := #[true, true, false, true, false, false, false, true, false, false, false, true, false, false, false, false, true, false, false, false, false, false]
abbrev impl_sayBytes.b21 : Array Bool := #[true, true, true, true, false, false, false, true, false, false, false, true, false, false, false, false, true, false, false, false, false, false]
abbrev impl_sayBytes.b22 : Array Bool := #[true, true, true, true, true, false, false, true, false, false, false, true, false, false, false, false, true, false, false, false, false, false]
abbrev impl_sayBytes.b23 : Array Bool := #[true, true, true, true, true, false, false, true, true, false, false, true, false, false, false, false, true, false, false, false, false, false]
abbrev impl_sayBytes.b24 : Array Bool := #[true, true, true, true, true, false, false, true, true, false, false, true, true, false, false, false, true, false, false, false, false, false]
abbrev impl_sayBytes.b25 : Array Bool := #[true, true, true, true, true, false, false, true, true, false, false, true, true, false, false, false, true, true, false, false, false, false]
abbrev impl_sayBytes.b26 : Array Bool := #[true, true, true, true, true, true, false, true, true, false, false, true, true, false, false, false, true, true, false, false, false, false]
abbrev impl_sayBytes.b27 : Array Bool := #[true, true, true, true, true, true, true, true, true, false, false, true, true, false, false, false, true, true, false, false, false, false]
abbrev impl_sayBytes.b28 : Array Bool := #[true, true, true, true, true, true, true, true, true, true, false, true, true, false, false, false, true, true, false, false, false, false]
abbrev impl_sayBytes.b29 : Array Bool := #[true, true, true, true, true, true, true, true, true, true, true, true, true, false, false, false, true, true, false, false, false, false]
abbrev impl_sayBytes.b30 : Array Bool := #[true, true, true, true, true, true, true, true, true, true, true, true, true, true, false, false, true, true, false, false, false, false]
abbrev impl_sayBytes.b31 : Array Bool := #[true, true, true, true, true, true, true, true, true, true, true, true, true, true, true, false, true, true, false, false, false, false]
mutual
def impl_sayBytes.l0 : Nat → ByteArray → List (S41) → Int → Int → Option (ByteArray)
  | 0, _, _, _, _ => none
  | k + 1, x3, x28, x29, x30 => if x30 < x29 then (if 0 ≤ x30 then (if x30 < (x28.length : Int) then ((impl_Proof.f ((rd_T41 x28 x30).f2)).bind fun t111 => ((impl_putNums.f k (([(rd_T41 x28 x30).f0, (rd_T41 x28 x30).f1, t111] : List Int))).bind fun t115 => (if x3.size + t115.size ≤ 9223372036854775807 then (impl_sayBytes.l1 k (x3 ++ t115) x28 x29 x30 ((rd_T41 x28 x30).f2) (((rd_T41 x28 x30).f2).length : Int) 0) else (none)))) else (none)) else (none)) else (some x3)
def impl_sayBytes.l1 : Nat → ByteArray → List (S41) → Int → Int → List (S52) → Int → Int → Option (ByteArray)
  | 0, _, _, _, _, _, _, _ => none
  | k + 1, x3, x28, x29, x30, x46, x47, x48 => if x48 < x47 then (if 0 ≤ x48 then (if x48 < (x46.length : Int) then ((impl_putNums.f k (([(rd_T52 x46 x48).f0, (rd_T52 x46 x48).f1] : List Int))).bind fun t121 => ((impl_putText.f k ((rd_T52 x46 x48).f2)).bind fun t122 => (if t121.size + t122.size ≤ 9223372036854775807 then ((impl_size_int64.f ((rd_T52 x46 x48).f3)).bind fun t123 => ((impl_putNum.f k t123).bind fun t124 => (if (t121 ++ t122).size + t124.size ≤ 9223372036854775807 then ((impl_putNums.f k ((rd_T52 x46 x48).f3)).bind fun t125 => (if ((t121 ++ t122) ++ t124).size + t125.size ≤ 9223372036854775807 then (if x3.size + (((t121 ++ t122) ++ t124) ++ t125).size ≤ 9223372036854775807 then (impl_sayBytes.l1 k (x3 ++ (((t121 ++ t122) ++ t124) ++ t125)) x28 x29 x30 x46 x47 (wrap64 (x48 + 1))) else (none)) else (none))) else (none)))) else (none)))) else (none)) else (none)) else (impl_sayBytes.l0 k x3 x28 x29 (wrap64 (x30 + 1)))
end
def impl_sayBytes.f (k : Nat) (a0_0 : Int) (a0_1 : Int) (a0_2 : Int) (a0_3 : Int) (a0_4 : ByteArray) (l0_5 : List (S41)) : Option (ByteArray) := (impl_putNums.f k (([a0_0, a0_1, a0_2, a0_3] : List Int))).bind fun t105 => ((impl_putText.f k a0_4).bind fun t106 => (if t105.size + t106.size ≤ 9223372036854775807 then ((impl_Change.f l0_5).bind fun t107 => ((impl_putNum.f k t107).bind fun t108 => (if (t105 ++ t106).size + t108.size ≤ 9223372036854775807 then (impl_sayBytes.l0 k ((t105 ++ t106) ++ t108) l0_5 (l0_5.length : Int) 0) else (none)))) else (none)))
theorem impl_sayBytes.mono_l : ∀ k, (∀ y0 y1 y2 y3, LeO (impl_sayBytes.l0 k y0 y1 y2 y3) (impl_sayBytes.l0 (k + 1) y0 y1 y2 y3)) ∧ (∀ y0 y1 y2 y3 y4 y5 y6, LeO (impl_sayBytes.l1 k y0 y1 y2 y3 y4 y5 y6) (impl_sayBytes.l1 (k + 1) y0 y1 y2 y3 y4 y5 y6))
  | 0 => ⟨fun _ _ _ _ r h => by simp [impl_sayBytes.l0] at h, fun _ _ _ _ _ _ _ r h => by simp [impl_sayBytes.l1] at h⟩
  | k + 1 => by
    obtain ⟨ih0, ih1⟩ := impl_sayBytes.mono_l k
    refine ⟨?_, ?_⟩
    · intro y0 y1 y2 y3
      unfold impl_sayBytes.l0
      repeat' first
      | (with_reducible exact ih0 _ _ _ _)
      | (with_reducible exact ih1 _ _ _ _ _ _ _)
      | (with_reducible exact impl_putNum.mono _ _)
      | (with_reducible exact impl_putNums.mono _ _)
      | (with_reducible exact impl_putText.mono _ _)
      | (with_reducible exact LeO.refl _)
      | (with_reducible exact LeO.none _)
      | (with_reducible refine LeO.ite ?_ ?_)
      | (with_reducible refine LeO.bind ?_ (fun _ => ?_))
      | exact ih0 _ _ _ _
      | exact ih1 _ _ _ _ _ _ _
      | exact impl_putNum.mono _ _
      | exact impl_putNums.mono _ _
      | exact impl_putText.mono _ _
      | exact LeO.none _
      | refine LeO.ite ?_ ?_
      | refine LeO.bind ?_ (fun _ => ?_)
    · intro y0 y1 y2 y3 y4 y5 y6
      unfold impl_sayBytes.l1
      repeat' first
      | (with_reducible exact ih0 _ _ _ _)
      | (with_reducible exact ih1 _ _ _ _ _ _ _)
      | (with_reducible exact impl_putNum.mono _ _)
      | (with_reducible exact impl_putNums.mono _ _)
      | (with_reducible exact impl_putText.mono _ _)
      | (with_reducible exact LeO.refl _)
      | (with_reducible exact LeO.none _)
      | (with_reducible refine LeO.ite ?_ ?_)
      | (with_reducible refine LeO.bind ?_ (fun _ => ?_))
      | exact ih0 _ _ _ _
      | exact ih1 _ _ _ _ _ _ _
      | exact impl_putNum.mono _ _
      | exact impl_putNums.mono _ _
      | exact impl_putText.mono _ _
      | exact LeO.none _
      | refine LeO.ite ?_ ?_
      | refine LeO.bind ?_ (fun _ => ?_)
theorem impl_sayBytes.mono : ∀ a0 a1 a2 a3 a4 a5 k, LeO (impl_sayBytes.f k a0 a1 a2 a3 a4 a5) (impl_sayBytes.f (k + 1) a0 a1 a2 a3 a4 a5) := by
  intro a0 a1 a2 a3 a4 a5 k
  obtain ⟨ih0, ih1⟩ := impl_sayBytes.mono_l k
  unfold impl_sayBytes.f
  repeat' first
      | (with_reducible exact ih0 _ _ _ _)
      | (with_reducible exact ih1 _ _ _ _ _ _ _)
      | (with_reducible exact impl_putNum.mono _ _)
      | (with_reducible exact impl_putNums.mono _ _)
      | (with_reducible exact impl_putText.mono _ _)
      | (with_reducible exact LeO.refl _)
      | (with_reducible exact LeO.none _)
      | (with_reducible refine LeO.ite ?_ ?_)
      | (with_reducible refine LeO.bind ?_ (fun _ => ?_))
      | exact ih0 _ _ _ _
      | exact ih1 _ _ _ _ _ _ _
      | exact impl_putNum.mono _ _
      | exact impl_putNums.mono _ _
      | exact impl_putText.mono _ _
      | exact LeO.none _
      | refine LeO.ite ?_ ?_
      | refine LeO.bind ?_ (fun _ => ?_)
def impl_sayBytes.T1 : Bool × List (List Nat × List Nat) := (true, [([], []), ([0], [0]), ([], []), ([2], [2]), ([], []), ([4], [4]), ([], []), ([6], [6]), ([1, 3, 5, 7], [1, 3, 5, 7]), ([8], [8]), ([], []), ([10], [10]), ([11, 9], [11]), ([9, 12], [9, 12]), ([], []), ([14], [14]), ([15, 12], [15]), ([16, 16], [16]), ([13, 17], [13, 17]), ([18, 17, 0, 1, 2, 3, 4, 5, 6, 7, 8, 9, 10, 11, 12, 13, 14, 15, 16, 17, 18], [18])])
def impl_sayBytes.B1 : List Nat := [0, 1, 0, 4, 0, 16, 0, 64, 255, 511, 0, 1024, 4095, 8191, 0, 16384, 57343, 122879, 262143, 524287]
theorem impl_sayBytes.tab1 : rtab .any (opsOf Try.f27 1) = impl_sayBytes.T1 := by kernel_rfl
theorem impl_sayBytes.bits1 : waitsOk impl_sayBytes.T1.2 impl_sayBytes.B1 = true := by kernel_rfl
def impl_sayBytes.T5 : Bool × List (List Nat × List Nat) := (true, [([], []), ([], []), ([1], [1]), ([], []), ([3], [3]), ([], []), ([5], [5]), ([6], [6]), ([2, 4, 7], [2, 4, 7]), ([8, 7], [8]), ([0, 9], [0, 9]), ([10, 9, 0, 1, 2, 3, 4, 5, 6, 7, 8, 9, 10], [0, 10])])
def impl_sayBytes.B5 : List Nat := [0, 0, 2, 0, 8, 0, 32, 96, 254, 510, 1023, 2047]
theorem impl_sayBytes.tab5 : rtab .any (opsOf Try.f27 5) = impl_sayBytes.T5 := by kernel_rfl
theorem impl_sayBytes.bits5 : waitsOk impl_sayBytes.T5.2 impl_sayBytes.B5 = true := by kernel_rfl
def impl_sayBytes.T9 : Bool × List (List Nat × List Nat) := (true, [([], []), ([], []), ([1], [1]), ([], []), ([3], [3]), ([2, 4], [2, 4]), ([5], [5]), ([], []), ([7], [7]), ([8, 6], [8]), ([6, 9], [6, 9]), ([], []), ([11], [11]), ([12, 9], [12]), ([13, 13], [13]), ([10, 14], [10, 14]), ([], []), ([16], [16]), ([17, 14], [17]), ([15, 18], [15, 18]), ([0, 19], [0, 19]), ([20, 18, 0, 1, 2, 3, 4, 5, 6, 7, 8, 9, 10, 11, 12, 13, 14, 15, 16, 17, 18, 19, 20], [0, 20])])
def impl_sayBytes.B9 : List Nat := [0, 0, 2, 0, 8, 30, 62, 0, 128, 510, 1022, 0, 2048, 7166, 15358, 32766, 0, 65536, 228350, 524286, 1048575, 2097151]
theorem impl_sayBytes.tab9 : rtab .any (opsOf Try.f27 9) = impl_sayBytes.T9 := by kernel_rfl
theorem impl_sayBytes.bits9 : waitsOk impl_sayBytes.T9.2 impl_sayBytes.B9 = true := by kernel_rfl
set_option maxHeartbeats 60000000 in
set_option maxRecDepth 100000 in
theorem impl_sayBytes.calls (k : Nat) (a0_0 : Int) (a0_1 : Int) (a0_2 : Int) (a0_3 : Int) (a0_4 : ByteArray) (A0_5 : Option Addr) (c0_5 : Nat) (l0_5 : List (S41)) (r : ByteArray) (w : World) (hr0_5 : Kd.C k41 w A0_5 l0_5.length l0_5) (hc0_5 : l0_5.length ≤ c0_5) (h : impl_sayBytes.f k a0_0 a0_1 a0_2 a0_3 a0_4 l0_5 = some r) :
    Calls Try.prog 27 #[.agg #[.int .i64 a0_0, .int .i64 a0_1, .int .i64 a0_2, .int .i64 a0_3, .string a0_4, .slice A0_5 l0_5.length c0_5]] w fun e w' => e = .returned (.string r) ∧ Below w.heap.size w w' := by
 have hu29 := Try.underlying29
 have hu41 := Try.underlying41
 have hu52 := Try.underlying52
 have HR0_5 := AM hr0_5
 have HC0_5 := AM hc0_5
 clear hr0_5 hc0_5
 have HB := AM (Below.refl w.heap.size w)
 have H : ((impl_putNums.f k (([a0_0, a0_1, a0_2, a0_3] : List Int))).bind fun t105 => ((impl_putText.f k a0_4).bind fun t106 => (if t105.size + t106.size ≤ 9223372036854775807 then ((impl_Change.f l0_5).bind fun t107 => ((impl_putNum.f k t107).bind fun t108 => (if (t105 ++ t106).size + t108.size ≤ 9223372036854775807 then (impl_sayBytes.l0 k ((t105 ++ t106) ++ t108) l0_5 (l0_5.length : Int) 0) else (none)))) else (none)))) = some r := h
 clear h
 obtain ⟨y102, hy102⟩ : ∃ y_ : List Int, y_ = (([a0_0, a0_1, a0_2, a0_3] : List Int)) := ⟨_, rfl⟩
 replace H : ((impl_putNums.f k y102).bind fun t105 => ((impl_putText.f k a0_4).bind fun t106 => (if t105.size + t106.size ≤ 9223372036854775807 then ((impl_Change.f l0_5).bind fun t107 => ((impl_putNum.f k t107).bind fun t108 => (if (t105 ++ t106).size + t108.size ≤ 9223372036854775807 then (impl_sayBytes.l0 k ((t105 ++ t106) ++ t108) l0_5 (l0_5.length : Int) 0) else (none)))) else (none)))) = some r := by first | (rw [hy102]; with_reducible exact H) | (have H2_ := (Option.bind_some _ _).symm.trans H; rw [hy102]; with_reducible exact H2_) | (have H2_ := (Option.bind_some _ _).symm.trans H; with_reducible exact H2_) | with_reducible exact H | (rw [hy102]; exact H) | exact H
 have Ny102 := AM hy102
 clear hy102
 replace H := Option.bind_eq_some_iff.mp H
 obtain ⟨t105, A20, H⟩ := H
 replace H : ((impl_putText.f k a0_4).bind fun t106 => (if t105.size + t106.size ≤ 9223372036854775807 then ((impl_Change.f l0_5).bind fun t107 => ((impl_putNum.f k t107).bind fun t108 => (if (t105 ++ t106).size + t108.size ≤ 9223372036854775807 then (impl_sayBytes.l0 k ((t105 ++ t106) ++ t108) l0_5 (l0_5.length : Int) 0) else (none)))) else (none))) = some r := H
 have A2 := AM A20
 clear A20
 replace H := Option.bind_eq_some_iff.mp H
 obtain ⟨t106, A30, H⟩ := H
 replace H : (if t105.size + t106.size ≤ 9223372036854775807 then ((impl_Change.f l0_5).bind fun t107 => ((impl_putNum.f k t107).bind fun t108 => (if (t105 ++ t106).size + t108.size ≤ 9223372036854775807 then (impl_sayBytes.l0 k ((t105 ++ t106) ++ t108) l0_5 (l0_5.length : Int) 0) else (none)))) else (none)) = some r := H
 have A3 := AM A30
 clear A30
 by_cases c4 : t105.size + t106.size ≤ 9223372036854775807
 ·
  rw [if_pos c4] at H
  have c4b0 := eq_true c4
  have c4b1 : decide (t105.size + t106.size ≤ 9223372036854775807) = true := decide_eq_true c4
  try have c4b2 : (9223372036854775807 < t105.size + t106.size) = False := eq_false (Nat.not_lt.2 c4)
  replace H := Option.bind_eq_some_iff.mp H
  obtain ⟨t107, A50, H⟩ := H
  replace H : ((impl_putNum.f k t107).bind fun t108 => (if (t105 ++ t106).size + t108.size ≤ 9223372036854775807 then (impl_sayBytes.l0 k ((t105 ++ t106) ++ t108) l0_5 (l0_5.length : Int) 0) else (none))) = some r := H
  have A5 := AM A50
  clear A50
  replace H := Option.bind_eq_some_iff.mp H
  obtain ⟨t108, A60, H⟩ := H
  replace H : (if (t105 ++ t106).size + t108.size ≤ 9223372036854775807 then (impl_sayBytes.l0 k ((t105 ++ t106) ++ t108) l0_5 (l0_5.length : Int) 0) else (none)) = some r := H
  have A6 := AM A60
  clear A60
  by_cases c7 : (t105 ++ t106).size + t108.size ≤ 9223372036854775807
  ·
   rw [if_pos c7] at H
   have c7b0 := eq_true c7
   have c7b1 : decide ((t105 ++ t106).size + t108.size ≤ 9223372036854775807) = true := decide_eq_true c7
   try have c7b2 : (9223372036854775807 < (t105 ++ t106).size + t108.size) = False := eq_false (Nat.not_lt.2 c7)
   have H' := AM H
   clear H
   go_enter Try.func27, Try.ntmps27
   try go_wp2_with (first | ((with_reducible refine gate_dst (N := 1) rfl ?_); refine box_event (by rfl) (N := 1) (by rfl) (cs := #[.int .i64 a0_0, .int .i64 a0_1, .int .i64 a0_2, .int .i64 a0_3, .string a0_4, .slice A0_5 l0_5.length c0_5]) (t := 29) (by first | (go_simp; done) | (go_simp; rfl)) ?_; intro gb101 hg w8 hbox hb; have n0_ := AM (below_step (by repeat (first | (with_reducible first | exact HB.out | apply bA | apply bN | apply bD) | exact HB.out)) hb); have n1_ := AM (hbox); have n2_ := AM ((by rw [hg]; exact (bZ (by repeat (first | (with_reducible first | exact HB.out | apply bA | apply bN | apply bD) | exact HB.out))) : w.heap.size ≤ gb101)); have n3_ := n2_; clear HB; have HB := n0_; have BK101 := n1_; have GW101 := n2_; have GE101 := n3_; clear n0_ n1_ n2_ n3_; clear hb hbox hg))
   have n0_ := AM (kD BK101.out)
   have n1_ := AM (bD HB.out)
   clear BK101
   clear HB
   have BK101 := n0_
   have HB := n1_
   clear n0_ n1_
   refine start_ (n := 20) (S := fun w' => w'.cell? ⟨gb101, 0, none⟩ = some (.int .i64 a0_0) ∧ w'.cell? ⟨gb101, 1, none⟩ = some (.int .i64 a0_1) ∧ w'.cell? ⟨gb101, 2, none⟩ = some (.int .i64 a0_2) ∧ w'.cell? ⟨gb101, 3, none⟩ = some (.int .i64 a0_3) ∧ w'.cell? ⟨gb101, 4, none⟩ = some (.string a0_4) ∧ w'.cell? ⟨gb101, 5, none⟩ = some (.slice A0_5 l0_5.length c0_5)) (ds := []) (upTo 0 20) (by kernel_rfl) rfl rfl ⟨(kC BK101.out 0).trans rfl, (kC BK101.out 1).trans rfl, (kC BK101.out 2).trans rfl, (kC BK101.out 3).trans rfl, (kC BK101.out 4).trans rfl, (kC BK101.out 5).trans rfl⟩ (fun hHeld => ?_); refine with_tabW impl_sayBytes.tab1 impl_sayBytes.bits1 (fun HT_ HW_ => ?_)
   generalize w8.drew = w9 at BK101 HB hHeld ⊢
   refine pure_ (i := 0) (N := some 8) (v := ?_) (a' := ?_) (upTo 1 20) rfl rfl (any_of HT_.out (by kernel_rfl)) (fun _ _ _ h => h) (Or.inl ⟨by rfl, ?_⟩) ?_ ?_
   rotate_left
   ·
    intro w'
    first
    | (go_simp; with_reducible rfl)
    | (simp only [ByteArray.size_append] at *; go_simp; with_reducible rfl)
   rotate_left
   ·
    simp only [Act.put, sA, sB, sC, i64_w, i32_w]
    rfl
   refine pure_ (i := 2) (N := some 10) (v := ?_) (a' := ?_) impl_sayBytes.b0 rfl rfl (any_of HT_.out (by kernel_rfl)) (fun _ _ _ h => h) (Or.inl ⟨by rfl, ?_⟩) ?_ ?_
   rotate_left
   ·
    intro w'
    first
    | (go_simp; with_reducible rfl)
    | (simp only [ByteArray.size_append] at *; go_simp; with_reducible rfl)
   rotate_left
   ·
    simp only [Act.put, sA, sB, sC, i64_w, i32_w]
    rfl
   refine pure_ (i := 4) (N := some 12) (v := ?_) (a' := ?_) impl_sayBytes.b1 rfl rfl (any_of HT_.out (by kernel_rfl)) (fun _ _ _ h => h) (Or.inl ⟨by rfl, ?_⟩) ?_ ?_
   rotate_left
   ·
    intro w'
    first
    | (go_simp; with_reducible rfl)
    | (simp only [ByteArray.size_append] at *; go_simp; with_reducible rfl)
   rotate_left
   ·
    simp only [Act.put, sA, sB, sC, i64_w, i32_w]
    rfl
   refine pure_ (i := 6) (N := some 14) (v := ?_) (a' := ?_) impl_sayBytes.b2 rfl rfl (any_of HT_.out (by kernel_rfl)) (fun _ _ _ h => h) (Or.inl ⟨by rfl, ?_⟩) ?_ ?_
   rotate_left
   ·
    intro w'
    first
    | (go_simp; with_reducible rfl)
    | (simp only [ByteArray.size_append] at *; go_simp; with_reducible rfl)
   rotate_left
   ·
    simp only [Act.put, sA, sB, sC, i64_w, i32_w]
    rfl
   refine pure_ (i := 10) (N := some 18) (v := ?_) (a' := ?_) impl_sayBytes.b3 rfl rfl (any_of HT_.out (by kernel_rfl)) (fun _ _ _ h => h) (Or.inl ⟨by rfl, ?_⟩) ?_ ?_
   rotate_left
   ·
    intro w'
    first
    | (go_simp; with_reducible rfl)
    | (simp only [ByteArray.size_append] at *; go_simp; with_reducible rfl)
   rotate_left
   ·
    simp only [Act.put, sA, sB, sC, i64_w, i32_w]
    rfl
   refine pure_ (i := 14) (N := some 22) (v := ?_) (a' := ?_) impl_sayBytes.b4 rfl rfl (any_of HT_.out (by kernel_rfl)) (fun _ _ _ h => h) (Or.inl ⟨by rfl, ?_⟩) ?_ ?_
   rotate_left
   ·
    intro w'
    first
    | (go_simp; with_reducible rfl)
    | (simp only [ByteArray.size_append] at *; go_simp; with_reducible rfl)
   rotate_left
   ·
    simp only [Act.put, sA, sB, sC, i64_w, i32_w]
    rfl
   refine pT2 1 9 impl_sayBytes.b5 ?_ hHeld
   refine pT2 3 11 impl_sayBytes.b6 ?_ hHeld
   refine pT2 5 13 impl_sayBytes.b7 ?_ hHeld
   refine pT2 7 15 impl_sayBytes.b8 ?_ hHeld
   refine pT2 11 19 impl_sayBytes.b9 ?_ hHeld
   refine pT2 15 23 impl_sayBytes.b10 ?_ hHeld
   refine one_ (i := 8) (N := some 16) impl_sayBytes.b11 rfl rfl (one_of HT_.out (by kernel_rfl)) (by decide) (fun K hK => ?_)
   refine Kd.R_lit_step (Kd.int .i64) _ 2 ?hg (N := 16) ?hd (xs := ([a0_0, a0_1, a0_2, a0_3] : List Int)) (inner := [.int .i64 a0_0, .int .i64 a0_1, .int .i64 a0_2, .int .i64 a0_3]) (ok := fun _ => True) (okp := fun _ => True) ?hr ?hp (fun _ hk => hk) trivial (Below.refl _ _) (Nat.le_refl _) (by simp) ?_; (case hd => rfl); (case hg => rfl); (case hr => first | (go_simp; done) | (go_simp; rfl)); (case hp => exact (Reps.one (show Kd.M (Kd.int .i64) _ _ _ a0_0 [.int .i64 a0_0] from rfl) (Reps.one (show Kd.M (Kd.int .i64) _ _ _ a0_1 [.int .i64 a0_1] from rfl) (Reps.one (show Kd.M (Kd.int .i64) _ _ _ a0_2 [.int .i64 a0_2] from rfl) (Reps.one (show Kd.M (Kd.int .i64) _ _ _ a0_3 [.int .i64 a0_3] from rfl) (Reps.none _ _))))))
   intro v103 w10 ho11 hb hg_ hnew_
   clear hg_ hnew_
   (first | rw [← Ny102.out] at ho11 | (simp only [Int.reduceToNat] at ho11; rw [← Ny102.out] at ho11))
   have n0_ := AM (Kd.R_lower ho11 (bZ (by repeat (first | (with_reducible first | exact HB.out | apply bA | apply bN | apply bD | refine bS ?_ GE101.out) | exact HB.out))))
   have n1_ := AM (blk_below (g := gb101) (o := .cells #[.int .i64 a0_0, .int .i64 a0_1, .int .i64 a0_2, .int .i64 a0_3, .string a0_4, .slice A0_5 l0_5.length c0_5] 29 (0, 0)) (by (with_reducible repeat (first | apply kN | apply kD | apply kA)); exact BK101.out) hb)
   have n2_ := AM (below_step (by repeat (first | (with_reducible first | exact HB.out | apply bA | apply bN | apply bD | refine bS ?_ GE101.out) | exact HB.out)) hb)
   clear BK101
   clear HB
   have HO104 := n0_
   have BK101 := n1_
   have HB := n2_
   clear n0_ n1_ n2_
   clear hb ho11
   obtain ⟨Ao12, co12, eo12⟩ := Kd.R_slice HO104.out
   (first | subst eo12 | (injection eo12 with f1_ f2_ f3_; have f4_ := f1_.symm; have f5_ := f3_.symm; clear f1_ f2_ f3_; subst f4_; subst f5_))
   refine hK.out _ _ ⟨(kC BK101.out 0).trans rfl, (kC BK101.out 1).trans rfl, (kC BK101.out 2).trans rfl, (kC BK101.out 3).trans rfl, (kC BK101.out 4).trans rfl, (kC BK101.out 5).trans rfl⟩ (fun hHeld => ?_)
   clear hK K
   refine norm_ (a' := ?_) ?_ ?_
   rotate_left
   ·
    show Act.put _ (some 16) _ = _
    simp only [Act.put, sA, sB, sC, i64_w, i32_w]
    rfl
   refine one_ (i := 9) (N := some 17) impl_sayBytes.b12 rfl rfl (one_of HT_.out (by kernel_rfl)) (by decide) (fun K hK => ?_)
   refine goes_ Try.func44 (by kernel_rfl) rfl #[.slice Ao12 y102.length co12] (by rfl) rfl rfl (by (try simp only [mA, mB, mC]); first | done | rfl | (simp only [mD, mE]; rfl)) ?_
   with_reducible refine (impl_putNums.calls k _ _ y102 t105 _ ?side1 ?side2 A2.out).mono ?_
   (case side1 => repeat (first | exact (Kd.R_reads' HO104.out).2.2 | (with_reducible refine cA ?_ _) | (with_reducible refine cN ?_ _) | (with_reducible refine cD ?_)))
   (case side2 => exact (Kd.R_reads' HO104.out).2.1)
   rintro e w13 ⟨rfl, hb⟩
   refine ⟨_, rfl, ?_⟩
   have n0_ := AM (Kd.R_below (by (with_reducible repeat (first | apply rA | apply rN | apply rD)); exact HO104.out) hb)
   have n1_ := AM (blk_below (g := gb101) (o := .cells #[.int .i64 a0_0, .int .i64 a0_1, .int .i64 a0_2, .int .i64 a0_3, .string a0_4, .slice A0_5 l0_5.length c0_5] 29 (0, 0)) (by (with_reducible repeat (first | apply kN | apply kD | apply kA)); exact BK101.out) hb)
   have n2_ := AM (below_step (by repeat (first | (with_reducible first | exact HB.out | apply bA | apply bN | apply bD | refine bS ?_ GE101.out) | exact HB.out)) hb)
   clear HO104
   clear BK101
   clear HB
   have HO104 := n0_
   have BK101 := n1_
   have HB := n2_
   clear n0_ n1_ n2_
   (try clear hb)
   (try clear hb2)
   (try clear hk)
   (try clear hi)
   refine hK.out _ _ ⟨(kC BK101.out 0).trans rfl, (kC BK101.out 1).trans rfl, (kC BK101.out 2).trans rfl, (kC BK101.out 3).trans rfl, (kC BK101.out 4).trans rfl, (kC BK101.out 5).trans rfl⟩ (fun hHeld => ?_)
   clear hK K
   refine norm_ (a' := ?_) ?_ ?_
   rotate_left
   ·
    show Act.put _ (some 17) _ = _
    simp only [Act.put, sA, sB, sC, i64_w, i32_w]
    rfl
   refine one_ (i := 12) (N := some 20) impl_sayBytes.b13 rfl rfl (one_of HT_.out (by kernel_rfl)) (by decide) (fun K hK => ?_)
   refine goes_ Try.func45 (by kernel_rfl) rfl #[.string a0_4] (by rfl) rfl rfl (by (try simp only [mA, mB, mC]); first | done | rfl | (simp only [mD, mE]; rfl)) ?_
   with_reducible refine (impl_putText.calls k a0_4 t106 _ A3.out).mono ?_
   rintro e w14 ⟨rfl, hb⟩
   refine ⟨_, rfl, ?_⟩
   have n0_ := AM (Kd.R_below (by (with_reducible repeat (first | apply rA | apply rN | apply rD)); exact HO104.out) hb)
   have n1_ := AM (blk_below (g := gb101) (o := .cells #[.int .i64 a0_0, .int .i64 a0_1, .int .i64 a0_2, .int .i64 a0_3, .string a0_4, .slice A0_5 l0_5.length c0_5] 29 (0, 0)) (by (with_reducible repeat (first | apply kN | apply kD | apply kA)); exact BK101.out) hb)
   have n2_ := AM (below_step (by repeat (first | (with_reducible first | exact HB.out | apply bA | apply bN | apply bD | refine bS ?_ GE101.out) | exact HB.out)) hb)
   clear HO104
   clear BK101
   clear HB
   have HO104 := n0_
   have BK101 := n1_
   have HB := n2_
   clear n0_ n1_ n2_
   (try clear hb)
   (try clear hb2)
   (try clear hk)
   (try clear hi)
   refine hK.out _ _ ⟨(kC BK101.out 0).trans rfl, (kC BK101.out 1).trans rfl, (kC BK101.out 2).trans rfl, (kC BK101.out 3).trans rfl, (kC BK101.out 4).trans rfl, (kC BK101.out 5).trans rfl⟩ (fun hHeld => ?_)
   clear hK K
   refine norm_ (a' := ?_) ?_ ?_
   rotate_left
   ·
    show Act.put _ (some 20) _ = _
    simp only [Act.put, sA, sB, sC, i64_w, i32_w]
    rfl
   refine pure_ (i := 13) (N := some 21) (v := ?_) (a' := ?_) (upTo 16 20) rfl rfl (any_of HT_.out (by kernel_rfl)) (fun _ _ _ h => h) (Or.inl ⟨by rfl, ?_⟩) ?_ ?_
   rotate_left
   ·
    intro w'
    first
    | (go_simp; with_reducible rfl)
    | (simp only [ByteArray.size_append] at *; go_simp; with_reducible rfl)
   rotate_left
   ·
    simp only [Act.put, sA, sB, sC, i64_w, i32_w]
    rfl
   refine one_ (i := 16) (N := some 24) (upTo 17 20) rfl rfl (one_of HT_.out (by kernel_rfl)) (by decide) (fun K hK => ?_)
   refine goes_ Try.func39 (by kernel_rfl) rfl #[.slice A0_5 l0_5.length c0_5] (by rfl) rfl rfl (by (try simp only [mA, mB, mC]); first | done | rfl | (simp only [mD, mE]; rfl)) ?_
   with_reducible refine (impl_Change.calls _ _ l0_5 t107 _ A5.out).mono ?_
   rintro e w' ⟨rfl, ⟨nd, rfl⟩⟩
   refine ⟨_, rfl, ?_⟩
   refine hK.out _ _ ⟨(kC BK101.out 0).trans rfl, (kC BK101.out 1).trans rfl, (kC BK101.out 2).trans rfl, (kC BK101.out 3).trans rfl, (kC BK101.out 4).trans rfl, (kC BK101.out 5).trans rfl⟩ (fun hHeld => ?_)
   clear hK K
   refine norm_ (a' := ?_) ?_ ?_
   rotate_left
   ·
    show Act.put _ (some 24) _ = _
    simp only [Act.put, sA, sB, sC, i64_w, i32_w]
    rfl
   refine one_ (i := 17) (N := some 25) (upTo 18 20) rfl rfl (one_of HT_.out (by kernel_rfl)) (by decide) (fun K hK => ?_)
   refine goes_ Try.func46 (by kernel_rfl) rfl #[.int .i64 t107] (by rfl) rfl rfl (by (try simp only [mA, mB, mC]); first | done | rfl | (simp only [mD, mE]; rfl)) ?_
   with_reducible refine (impl_putNum.calls k t107 t108 _ A6.out).mono ?_
   rintro e w15 ⟨rfl, hb⟩
   refine ⟨_, rfl, ?_⟩
   have n0_ := AM (Kd.R_below (by (with_reducible repeat (first | apply rA | apply rN | apply rD)); exact HO104.out) hb)
   have n1_ := AM (blk_below (g := gb101) (o := .cells #[.int .i64 a0_0, .int .i64 a0_1, .int .i64 a0_2, .int .i64 a0_3, .string a0_4, .slice A0_5 l0_5.length c0_5] 29 (0, 0)) (by (with_reducible repeat (first | apply kN | apply kD | apply kA)); exact BK101.out) hb)
   have n2_ := AM (below_step (by repeat (first | (with_reducible first | exact HB.out | apply bA | apply bN | apply bD | refine bS ?_ GE101.out) | exact HB.out)) hb)
   clear HO104
   clear BK101
   clear HB
   have HO104 := n0_
   have BK101 := n1_
   have HB := n2_
   clear n0_ n1_ n2_
   (try clear hb)
   (try clear hb2)
   (try clear hk)
   (try clear hi)
   refine hK.out _ _ ⟨(kC BK101.out 0).trans rfl, (kC BK101.out 1).trans rfl, (kC BK101.out 2).trans rfl, (kC BK101.out 3).trans rfl, (kC BK101.out 4).trans rfl, (kC BK101.out 5).trans rfl⟩ (fun hHeld => ?_)
   clear hK K
   refine norm_ (a' := ?_) ?_ ?_
   rotate_left
   ·
    show Act.put _ (some 25) _ = _
    simp only [Act.put, sA, sB, sC, i64_w, i32_w]
    rfl
   refine pure_ (i := 18) (N := some 26) (v := ?_) (a' := ?_) (upTo 19 20) rfl rfl (any_of HT_.out (by kernel_rfl)) (fun _ _ _ h => h) (Or.inl ⟨by rfl, ?_⟩) ?_ ?_
   rotate_left
   ·
    intro w'
    first
    | (go_simp; with_reducible rfl)
    | (simp only [ByteArray.size_append] at *; go_simp; with_reducible rfl)
   rotate_left
   ·
    simp only [Act.put, sA, sB, sC, i64_w, i32_w]
    rfl
   refine pure_ (i := 19) (N := some 3) (v := ?_) (a' := ?_) (upTo 20 20) rfl rfl (any_of HT_.out (by kernel_rfl)) (fun _ _ _ h => h) (Or.inl ⟨by rfl, ?_⟩) ?_ ?_
   rotate_left
   ·
    intro w'
    first
    | (go_simp; with_reducible rfl)
    | (simp only [ByteArray.size_append] at *; go_simp; with_reducible rfl)
   rotate_left
   ·
    simp only [Act.put, sA, sB, sC, i64_w, i32_w]
    rfl
   refine done_ (done_of HT_.out (by kernel_rfl)) ?_
   have hcz16_0 : w15.cell? ⟨gb101, 0, none⟩ = some (.int .i64 a0_0) := (kC BK101.out 0).trans rfl
   have hcz16_1 : w15.cell? ⟨gb101, 1, none⟩ = some (.int .i64 a0_1) := (kC BK101.out 1).trans rfl
   have hcz16_2 : w15.cell? ⟨gb101, 2, none⟩ = some (.int .i64 a0_2) := (kC BK101.out 2).trans rfl
   have hcz16_3 : w15.cell? ⟨gb101, 3, none⟩ = some (.int .i64 a0_3) := (kC BK101.out 3).trans rfl
   have hcz16_4 : w15.cell? ⟨gb101, 4, none⟩ = some (.string a0_4) := (kC BK101.out 4).trans rfl
   have hcz16_5 : w15.cell? ⟨gb101, 5, none⟩ = some (.slice A0_5 l0_5.length c0_5) := (kC BK101.out 5).trans rfl
   have hfz16_0 := fZ BK101.out 0
   have hfz16_1 := fZ BK101.out 1
   have hfz16_2 := fZ BK101.out 2
   have hfz16_3 := fZ BK101.out 3
   have hfz16_4 := fZ BK101.out 4
   have hfz16_5 := fZ BK101.out 5
   try go_wp2
   go_loopg [3, 30] k (fun kq v3 v30 w' => ∃ (x3_1 : ByteArray) (x30_1 : Int), v3 = .string x3_1 ∧ v30 = .int .i64 x30_1 ∧ Aside0 (impl_sayBytes.l0 kq x3_1 l0_5 (l0_5.length : Int) x30_1 = some r) ∧ Aside0 (kq ≤ k) ∧ Aside0 (w'.heap[gb101]? = some (.cells #[.int .i64 a0_0, .int .i64 a0_1, .int .i64 a0_2, .int .i64 a0_3, .string a0_4, (.slice A0_5 l0_5.length c0_5)] 29 (0, 0))) ∧ Aside0 (Below w.heap.size w w'))
   case atStart => exact ⟨((t105 ++ t106) ++ t108), (0), (by first | rfl | (simp; done) | (simp [*]; done)), (by first | rfl | (simp; done) | (simp [*]; done)), H', ⟨Nat.le_refl _⟩, ⟨by (with_reducible repeat (first | apply kN | apply kD | apply kA)); exact BK101.out⟩, ⟨by repeat (first | (with_reducible first | exact HB.out | apply bA | apply bN | apply bD | refine bS ?_ GE101.out) | exact HB.out)⟩⟩
   case round =>
    clear H'
    try clear c2
    try clear p2
    try clear c3
    try clear c4
    try clear c4b0
    try clear c4b1
    try clear c4b2
    try clear c7
    try clear c7b0
    try clear c7b1
    try clear c7b2
    try clear hcz16_0
    try clear hcz16_1
    try clear hcz16_2
    try clear hcz16_3
    try clear hcz16_4
    try clear hcz16_5
    try clear hfz16_0
    try clear hfz16_1
    try clear hfz16_2
    try clear hfz16_3
    try clear hfz16_4
    try clear hfz16_5
    obtain ⟨x3_1, x30_1, rfl, rfl, HA, HK1, BK101, HB⟩ := hrel
    cases gk with
    | zero => exact absurd HA.out (by simp [impl_sayBytes.l0])
    | succ k1 =>
     have H := HA.out
     clear HA
     simp only [impl_sayBytes.l0] at H
     by_cases c17 : x30_1 < (l0_5.length : Int)
     ·
      rw [if_pos c17] at H
      have c17b0 : decide (x30_1 < (l0_5.length : Int)) = true := decide_eq_true c17
      clear c17
      by_cases c18 : 0 ≤ x30_1
      ·
       rw [if_pos c18] at H
       have c18b0 : decide (0 ≤ x30_1) = true := decide_eq_true c18
       clear c18
       by_cases c19 : x30_1 < (l0_5.length : Int)
       ·
        rw [if_pos c19] at H
        have c19b0 : decide (x30_1 < (l0_5.length : Int)) = true := decide_eq_true c19
        clear c19
        replace H := Option.bind_eq_some_iff.mp H
        obtain ⟨t111, A200, H⟩ := H
        replace H : ((impl_putNums.f k1 (([(rd_T41 l0_5 x30_1).f0, (rd_T41 l0_5 x30_1).f1, t111] : List Int))).bind fun t115 => (if x3_1.size + t115.size ≤ 9223372036854775807 then (impl_sayBytes.l1 k1 (x3_1 ++ t115) l0_5 (l0_5.length : Int) x30_1 ((rd_T41 l0_5 x30_1).f2) (((rd_T41 l0_5 x30_1).f2).length : Int) 0) else (none))) = some r := H
        have A20 := AM A200
        clear A200
        obtain ⟨y112, hy112⟩ : ∃ y_ : List Int, y_ = (([(rd_T41 l0_5 x30_1).f0, (rd_T41 l0_5 x30_1).f1, t111] : List Int)) := ⟨_, rfl⟩
        replace H : ((impl_putNums.f k1 y112).bind fun t115 => (if x3_1.size + t115.size ≤ 9223372036854775807 then (impl_sayBytes.l1 k1 (x3_1 ++ t115) l0_5 (l0_5.length : Int) x30_1 ((rd_T41 l0_5 x30_1).f2) (((rd_T41 l0_5 x30_1).f2).length : Int) 0) else (none))) = some r := by first | (rw [hy112]; with_reducible exact H) | (have H2_ := (Option.bind_some _ _).symm.trans H; rw [hy112]; with_reducible exact H2_) | (have H2_ := (Option.bind_some _ _).symm.trans H; with_reducible exact H2_) | with_reducible exact H | (rw [hy112]; exact H) | exact H
        have Ny112 := AM hy112
        clear hy112
        replace H := Option.bind_eq_some_iff.mp H
        obtain ⟨t115, A210, H⟩ := H
        replace H : (if x3_1.size + t115.size ≤ 9223372036854775807 then (impl_sayBytes.l1 k1 (x3_1 ++ t115) l0_5 (l0_5.length : Int) x30_1 ((rd_T41 l0_5 x30_1).f2) (((rd_T41 l0_5 x30_1).f2).length : Int) 0) else (none)) = some r := H
        have A21 := AM A210
        clear A210
        by_cases c22 : x3_1.size + t115.size ≤ 9223372036854775807
        ·
         rw [if_pos c22] at H
         have c22b0 := eq_true c22
         have c22b1 : decide (x3_1.size + t115.size ≤ 9223372036854775807) = true := decide_eq_true c22
         try have c22b2 : (9223372036854775807 < x3_1.size + t115.size) = False := eq_false (Nat.not_lt.2 c22)
         have H' := AM H
         clear H
         have p109 : 0 ≤ (x30_1 : Int) := of_decide_eq_true (by assumption)
         have q109 : x30_1 < (l0_5.length : Int) := of_decide_eq_true (by assumption)
         obtain ⟨ad109, A109_2, c109_2, e109, hx109_0, hx109_1, hx109_2, hl109_2, hi109_2⟩ := at_T41 HR0_5.out x30_1 p109 q109
         cases e109
         replace hx109_0 := pw_cell_below HB.out hx109_0
         replace hx109_1 := pw_cell_below HB.out hx109_1
         replace hx109_2 := pw_cell_below HB.out hx109_2
         have HR109_2 := AM hi109_2
         have HC109_2 := AM hl109_2
         clear hi109_2 hl109_2
         replace p109 := eq_true p109
         replace q109 := eq_true q109
         try go_wp2_with (first | ((with_reducible refine gate_dst (N := 5) rfl ?_); refine box_event (by rfl) (N := 5) (by rfl) (cs := #[.int .i64 0, .int .i64 0, .slice none 0 0]) (t := 41) (by first | (go_simp; done) | (go_simp; rfl)) ?_; intro gb110 hg w23 hbox hb; have n0_ := AM (blk_below (g := gb101) (o := .cells #[.int .i64 a0_0, .int .i64 a0_1, .int .i64 a0_2, .int .i64 a0_3, .string a0_4, .slice (some ad109) l0_5.length c0_5] 29 (0, 0)) (by (with_reducible repeat (first | apply kN | apply kD | apply kA)); exact BK101.out) hb); have n1_ := AM (below_step (by repeat (first | (with_reducible first | exact HB.out | apply bA | apply bN | apply bD | refine bS ?_ GE101.out) | exact HB.out)) hb); have n2_ := AM (hbox); have n3_ := AM ((by rw [hg]; exact (bZ (by repeat (first | (with_reducible first | exact HB.out | apply bA | apply bN | apply bD | refine bS ?_ GE101.out) | exact HB.out))) : w.heap.size ≤ gb110)); have n4_ := n3_; have n5_ := AM ((by rw [hg]; exact Nat.ne_of_lt (blk_lt (g := gb101) (o := .cells #[.int .i64 a0_0, .int .i64 a0_1, .int .i64 a0_2, .int .i64 a0_3, .string a0_4, .slice (some ad109) l0_5.length c0_5] 29 (0, 0)) (by (with_reducible repeat (first | apply kN | apply kD | apply kA)); exact BK101.out)) : gb101 ≠ gb110)); have n6_ := AM ((by rw [hg]; exact Nat.ne_of_gt (blk_lt (g := gb101) (o := .cells #[.int .i64 a0_0, .int .i64 a0_1, .int .i64 a0_2, .int .i64 a0_3, .string a0_4, .slice (some ad109) l0_5.length c0_5] 29 (0, 0)) (by (with_reducible repeat (first | apply kN | apply kD | apply kA)); exact BK101.out)) : gb110 ≠ gb101)); clear BK101; clear HB; have BK101 := n0_; have HB := n1_; have BK110 := n2_; have GW110 := n3_; have GE110 := n4_; have NB101_110 := n5_; have NB110_101 := n6_; clear n0_ n1_ n2_ n3_ n4_ n5_ n6_; clear hb hbox hg; have hnb24 := NB110_101.out; have hnc24 := NB101_110.out; have hcz25_0 : w23.cell? ⟨gb110, 0, none⟩ = some (.int .i64 0) := (kC BK110.out 0).trans rfl; have hcz25_1 : w23.cell? ⟨gb110, 1, none⟩ = some (.int .i64 0) := (kC BK110.out 1).trans rfl; have hcz25_2 : w23.cell? ⟨gb110, 2, none⟩ = some (.slice none 0 0) := (kC BK110.out 2).trans rfl; have hfz25_0 := fZ BK110.out 0; have hfz25_1 := fZ BK110.out 1; have hfz25_2 := fZ BK110.out 2))
         have n0_ : Aside0 ((((w23.setCell ⟨gb110, 0, none⟩ (.int .i64 ((rd_T41 l0_5 x30_1).f0))).setCell ⟨gb110, 1, none⟩ (.int .i64 ((rd_T41 l0_5 x30_1).f1))).setCell ⟨gb110, 2, none⟩ (.slice A109_2 ((rd_T41 l0_5 x30_1).f2).length c109_2)).heap[gb101]? = some (.cells #[.int .i64 a0_0, .int .i64 a0_1, .int .i64 a0_2, .int .i64 a0_3, .string a0_4, .slice (some ad109) l0_5.length c0_5] 29 (0, 0))) := ⟨by (with_reducible repeat (first | apply kN | apply kD | apply kA)); refine blk_far ?_ NB101_110.out _; (with_reducible repeat (first | apply kN | apply kD | apply kA)); refine blk_far ?_ NB101_110.out _; (with_reducible repeat (first | apply kN | apply kD | apply kA)); refine blk_far ?_ NB101_110.out _; (with_reducible repeat (first | apply kN | apply kD | apply kA)); exact BK101.out⟩
         have n1_ : Aside0 ((((w23.setCell ⟨gb110, 0, none⟩ (.int .i64 ((rd_T41 l0_5 x30_1).f0))).setCell ⟨gb110, 1, none⟩ (.int .i64 ((rd_T41 l0_5 x30_1).f1))).setCell ⟨gb110, 2, none⟩ (.slice A109_2 ((rd_T41 l0_5 x30_1).f2).length c109_2)).heap[gb110]? = some (.cells #[.int .i64 ((rd_T41 l0_5 x30_1).f0), .int .i64 ((rd_T41 l0_5 x30_1).f1), .slice A109_2 ((rd_T41 l0_5 x30_1).f2).length c109_2] 41 (0, 0))) := ⟨by (with_reducible repeat (first | apply kN | apply kD | apply kA)); refine blk_put (cs := #[.int .i64 ((rd_T41 l0_5 x30_1).f0), .int .i64 ((rd_T41 l0_5 x30_1).f1), .slice none 0 0]) ?_ 2 _ rfl; (with_reducible repeat (first | apply kN | apply kD | apply kA)); refine blk_put (cs := #[.int .i64 ((rd_T41 l0_5 x30_1).f0), .int .i64 0, .slice none 0 0]) ?_ 1 _ rfl; (with_reducible repeat (first | apply kN | apply kD | apply kA)); refine blk_put (cs := #[.int .i64 0, .int .i64 0, .slice none 0 0]) ?_ 0 _ rfl; (with_reducible repeat (first | apply kN | apply kD | apply kA)); exact BK110.out⟩
         have n2_ : Aside0 (Below w.heap.size w (((w23.setCell ⟨gb110, 0, none⟩ (.int .i64 ((rd_T41 l0_5 x30_1).f0))).setCell ⟨gb110, 1, none⟩ (.int .i64 ((rd_T41 l0_5 x30_1).f1))).setCell ⟨gb110, 2, none⟩ (.slice A109_2 ((rd_T41 l0_5 x30_1).f2).length c109_2))) := ⟨by repeat (first | (with_reducible first | exact HB.out | apply bA | apply bN | apply bD | refine bS ?_ GE101.out | refine bS ?_ GE110.out) | exact HB.out)⟩
         (try clear BK101)
         (try clear BK110)
         (try clear HB)
         generalize (((w23.setCell ⟨gb110, 0, none⟩ (.int .i64 ((rd_T41 l0_5 x30_1).f0))).setCell ⟨gb110, 1, none⟩ (.int .i64 ((rd_T41 l0_5 x30_1).f1))).setCell ⟨gb110, 2, none⟩ (.slice A109_2 ((rd_T41 l0_5 x30_1).f2).length c109_2)) = w26 at n0_ n1_ n2_ ⊢
         have BK101 := n0_
         have BK110 := n1_
         have HB := n2_
         clear n0_ n1_ n2_
         have n0_ := AM (kD BK101.out)
         have n1_ := AM (kD BK110.out)
         have n2_ := AM (bD HB.out)
         clear BK101
         clear BK110
         clear HB
         have BK101 := n0_
         have BK110 := n1_
         have HB := n2_
         clear n0_ n1_ n2_
         refine start_ (n := 12) (S := fun w' => w'.cell? ⟨gb110, 0, none⟩ = some (.int .i64 ((rd_T41 l0_5 x30_1).f0)) ∧ w'.cell? ⟨gb110, 1, none⟩ = some (.int .i64 ((rd_T41 l0_5 x30_1).f1)) ∧ w'.cell? ⟨gb110, 2, none⟩ = some (.slice A109_2 ((rd_T41 l0_5 x30_1).f2).length c109_2)) (ds := []) (upTo 0 12) (by kernel_rfl) rfl rfl ⟨(kC BK110.out 0).trans rfl, (kC BK110.out 1).trans rfl, (kC BK110.out 2).trans rfl⟩ (fun hHeld => ?_); refine with_tabW impl_sayBytes.tab5 impl_sayBytes.bits5 (fun HT_ HW_ => ?_)
         generalize w26.drew = w27 at BK101 BK110 HB hHeld ⊢
         refine pure_ (i := 0) (N := some 34) (v := ?_) (a' := ?_) (upTo 1 12) rfl rfl (any_of HT_.out (by kernel_rfl)) (fun _ _ _ h => h) (Or.inl ⟨by rfl, ?_⟩) ?_ ?_
         rotate_left
         ·
          intro w'
          first
          | (go_simp; with_reducible rfl)
          | (simp only [ByteArray.size_append] at *; go_simp; with_reducible rfl)
         rotate_left
         ·
          simp only [Act.put, sA, sB, sC, i64_w, i32_w]
          rfl
         refine pure_ (i := 1) (N := some 35) (v := ?_) (a' := ?_) (upTo 2 12) rfl rfl (any_of HT_.out (by kernel_rfl)) (fun _ _ _ h => h) (Or.inl ⟨by rfl, ?_⟩) ?_ ?_
         rotate_left
         ·
          intro w'
          first
          | (go_simp; with_reducible rfl)
          | (simp only [ByteArray.size_append] at *; go_simp; with_reducible rfl)
         rotate_left
         ·
          simp only [Act.put, sA, sB, sC, i64_w, i32_w]
          rfl
         refine pure_ (i := 3) (N := some 37) (v := ?_) (a' := ?_) impl_sayBytes.b14 rfl rfl (any_of HT_.out (by kernel_rfl)) (fun _ _ _ h => h) (Or.inl ⟨by rfl, ?_⟩) ?_ ?_
         rotate_left
         ·
          intro w'
          first
          | (go_simp; with_reducible rfl)
          | (simp only [ByteArray.size_append] at *; go_simp; with_reducible rfl)
         rotate_left
         ·
          simp only [Act.put, sA, sB, sC, i64_w, i32_w]
          rfl
         refine pure_ (i := 5) (N := some 39) (v := ?_) (a' := ?_) impl_sayBytes.b15 rfl rfl (any_of HT_.out (by kernel_rfl)) (fun _ _ _ h => h) (Or.inl ⟨by rfl, ?_⟩) ?_ ?_
         rotate_left
         ·
          intro w'
          first
          | (go_simp; with_reducible rfl)
          | (simp only [ByteArray.size_append] at *; go_simp; with_reducible rfl)
         rotate_left
         ·
          simp only [Act.put, sA, sB, sC, i64_w, i32_w]
          rfl
         refine pT2 2 36 impl_sayBytes.b16 ?_ hHeld
         refine pT2 4 38 (upTo 6 12) ?_ hHeld
         refine pT2 6 40 (upTo 7 12) ?_ hHeld
         refine one_ (i := 7) (N := some 41) (upTo 8 12) rfl rfl (one_of HT_.out (by kernel_rfl)) (by decide) (fun K hK => ?_)
         refine goes_ Try.func47 (by kernel_rfl) rfl #[.slice A109_2 ((rd_T41 l0_5 x30_1).f2).length c109_2] (by rfl) rfl rfl (by (try simp only [mA, mB, mC]); first | done | rfl | (simp only [mD, mE]; rfl)) ?_
         with_reducible refine (impl_Proof.calls _ _ ((rd_T41 l0_5 x30_1).f2) t111 _ A20.out).mono ?_
         rintro e w' ⟨rfl, ⟨nd, rfl⟩⟩
         refine ⟨_, rfl, ?_⟩
         refine hK.out _ _ ⟨(kC BK110.out 0).trans rfl, (kC BK110.out 1).trans rfl, (kC BK110.out 2).trans rfl⟩ (fun hHeld => ?_)
         clear hK K
         refine norm_ (a' := ?_) ?_ ?_
         rotate_left
         ·
          show Act.put _ (some 41) _ = _
          simp only [Act.put, sA, sB, sC, i64_w, i32_w]
          rfl
         refine one_ (i := 8) (N := some 42) (upTo 9 12) rfl rfl (one_of HT_.out (by kernel_rfl)) (by decide) (fun K hK => ?_)
         refine Kd.R_lit_step (Kd.int .i64) _ 2 ?hg (N := 42) ?hd (xs := ([(rd_T41 l0_5 x30_1).f0, (rd_T41 l0_5 x30_1).f1, t111] : List Int)) (inner := [.int .i64 ((rd_T41 l0_5 x30_1).f0), .int .i64 ((rd_T41 l0_5 x30_1).f1), .int .i64 t111]) (ok := fun _ => True) (okp := fun _ => True) ?hr ?hp (fun _ hk => hk) trivial (Below.refl _ _) (Nat.le_refl _) (by simp) ?_; (case hd => rfl); (case hg => rfl); (case hr => first | (go_simp; done) | (go_simp; rfl)); (case hp => exact (Reps.one (show Kd.M (Kd.int .i64) _ _ _ ((rd_T41 l0_5 x30_1).f0) [.int .i64 ((rd_T41 l0_5 x30_1).f0)] from rfl) (Reps.one (show Kd.M (Kd.int .i64) _ _ _ ((rd_T41 l0_5 x30_1).f1) [.int .i64 ((rd_T41 l0_5 x30_1).f1)] from rfl) (Reps.one (show Kd.M (Kd.int .i64) _ _ _ t111 [.int .i64 t111] from rfl) (Reps.none _ _)))))
         intro v113 w28 ho29 hb hg_ hnew_
         clear hg_ hnew_
         (first | rw [← Ny112.out] at ho29 | (simp only [Int.reduceToNat] at ho29; rw [← Ny112.out] at ho29))
         have n0_ := AM (Kd.R_lower ho29 (bZ (by repeat (first | (with_reducible first | exact HB.out | apply bA | apply bN | apply bD | refine bS ?_ GE101.out | refine bS ?_ GE110.out) | exact HB.out))))
         have n1_ := AM (blk_below (g := gb101) (o := .cells #[.int .i64 a0_0, .int .i64 a0_1, .int .i64 a0_2, .int .i64 a0_3, .string a0_4, .slice (some ad109) l0_5.length c0_5] 29 (0, 0)) (by (with_reducible repeat (first | apply kN | apply kD | apply kA)); exact BK101.out) hb)
         have n2_ := AM (blk_below (g := gb110) (o := .cells #[.int .i64 ((rd_T41 l0_5 x30_1).f0), .int .i64 ((rd_T41 l0_5 x30_1).f1), .slice A109_2 ((rd_T41 l0_5 x30_1).f2).length c109_2] 41 (0, 0)) (by (with_reducible repeat (first | apply kN | apply kD | apply kA)); exact BK110.out) hb)
         have n3_ := AM (below_step (by repeat (first | (with_reducible first | exact HB.out | apply bA | apply bN | apply bD | refine bS ?_ GE101.out | refine bS ?_ GE110.out) | exact HB.out)) hb)
         clear BK101
         clear BK110
         clear HB
         have HO114 := n0_
         have BK101 := n1_
         have BK110 := n2_
         have HB := n3_
         clear n0_ n1_ n2_ n3_
         clear hb ho29
         obtain ⟨Ao30, co30, eo30⟩ := Kd.R_slice HO114.out
         (first | subst eo30 | (injection eo30 with f1_ f2_ f3_; have f4_ := f1_.symm; have f5_ := f3_.symm; clear f1_ f2_ f3_; subst f4_; subst f5_))
         refine hK.out _ _ ⟨(kC BK110.out 0).trans rfl, (kC BK110.out 1).trans rfl, (kC BK110.out 2).trans rfl⟩ (fun hHeld => ?_)
         clear hK K
         refine norm_ (a' := ?_) ?_ ?_
         rotate_left
         ·
          show Act.put _ (some 42) _ = _
          simp only [Act.put, sA, sB, sC, i64_w, i32_w]
          rfl
         refine one_ (i := 9) (N := some 43) (upTo 10 12) rfl rfl (one_of HT_.out (by kernel_rfl)) (by decide) (fun K hK => ?_)
         refine goes_ Try.func44 (by kernel_rfl) rfl #[.slice Ao30 y112.length co30] (by rfl) rfl rfl (by (try simp only [mA, mB, mC]); first | done | rfl | (simp only [mD, mE]; rfl)) ?_
         with_reducible refine (impl_putNums.calls k1 _ _ y112 t115 _ ?side1 ?side2 A21.out).mono ?_
         (case side1 => repeat (first | exact (Kd.R_reads' HO114.out).2.2 | (with_reducible refine cA ?_ _) | (with_reducible refine cN ?_ _) | (with_reducible refine cD ?_)))
         (case side2 => exact (Kd.R_reads' HO114.out).2.1)
         rintro e w31 ⟨rfl, hb⟩
         refine ⟨_, rfl, ?_⟩
         have n0_ := AM (Kd.R_below (by (with_reducible repeat (first | apply rA | apply rN | apply rD)); exact HO114.out) hb)
         have n1_ := AM (blk_below (g := gb101) (o := .cells #[.int .i64 a0_0, .int .i64 a0_1, .int .i64 a0_2, .int .i64 a0_3, .string a0_4, .slice (some ad109) l0_5.length c0_5] 29 (0, 0)) (by (with_reducible repeat (first | apply kN | apply kD | apply kA)); exact BK101.out) hb)
         have n2_ := AM (blk_below (g := gb110) (o := .cells #[.int .i64 ((rd_T41 l0_5 x30_1).f0), .int .i64 ((rd_T41 l0_5 x30_1).f1), .slice A109_2 ((rd_T41 l0_5 x30_1).f2).length c109_2] 41 (0, 0)) (by (with_reducible repeat (first | apply kN | apply kD | apply kA)); exact BK110.out) hb)
         have n3_ := AM (below_step (by repeat (first | (with_reducible first | exact HB.out | apply bA | apply bN | apply bD | refine bS ?_ GE101.out | refine bS ?_ GE110.out) | exact HB.out)) hb)
         clear HO114
         clear BK101
         clear BK110
         clear HB
         have HO114 := n0_
         have BK101 := n1_
         have BK110 := n2_
         have HB := n3_
         clear n0_ n1_ n2_ n3_
         (try clear hb)
         (try clear hb2)
         (try clear hk)
         (try clear hi)
         refine hK.out _ _ ⟨(kC BK110.out 0).trans rfl, (kC BK110.out 1).trans rfl, (kC BK110.out 2).trans rfl⟩ (fun hHeld => ?_)
         clear hK K
         refine norm_ (a' := ?_) ?_ ?_
         rotate_left
         ·
          show Act.put _ (some 43) _ = _
          simp only [Act.put, sA, sB, sC, i64_w, i32_w]
          rfl
         refine pure_ (i := 10) (N := some 44) (v := ?_) (a' := ?_) (upTo 11 12) rfl rfl (any_of HT_.out (by kernel_rfl)) (fun _ _ _ h => h) (Or.inl ⟨by rfl, ?_⟩) ?_ ?_
         rotate_left
         ·
          intro w'
          first
          | (go_simp; with_reducible rfl)
          | (simp only [ByteArray.size_append] at *; go_simp; with_reducible rfl)
         rotate_left
         ·
          simp only [Act.put, sA, sB, sC, i64_w, i32_w]
          rfl
         refine pure_ (i := 11) (N := some 3) (v := ?_) (a' := ?_) (upTo 12 12) rfl rfl (any_of HT_.out (by kernel_rfl)) (fun _ _ _ h => h) (Or.inl ⟨by rfl, ?_⟩) ?_ ?_
         rotate_left
         ·
          intro w'
          first
          | (go_simp; with_reducible rfl)
          | (simp only [ByteArray.size_append] at *; go_simp; with_reducible rfl)
         rotate_left
         ·
          simp only [Act.put, sA, sB, sC, i64_w, i32_w]
          rfl
         refine done_ (done_of HT_.out (by kernel_rfl)) ?_
         have hcz32_0 : w31.cell? ⟨gb110, 0, none⟩ = some (.int .i64 ((rd_T41 l0_5 x30_1).f0)) := (kC BK110.out 0).trans rfl
         have hcz32_1 : w31.cell? ⟨gb110, 1, none⟩ = some (.int .i64 ((rd_T41 l0_5 x30_1).f1)) := (kC BK110.out 1).trans rfl
         have hcz32_2 : w31.cell? ⟨gb110, 2, none⟩ = some (.slice A109_2 ((rd_T41 l0_5 x30_1).f2).length c109_2) := (kC BK110.out 2).trans rfl
         have hfz32_0 := fZ BK110.out 0
         have hfz32_1 := fZ BK110.out 1
         have hfz32_2 := fZ BK110.out 2
         try go_wp2
         go_loopg [3, 48] k1 (fun kq v3 v48 w' => ∃ (x3_2 : ByteArray) (x48_2 : Int), v3 = .string x3_2 ∧ v48 = .int .i64 x48_2 ∧ Aside0 (impl_sayBytes.l1 kq x3_2 l0_5 (l0_5.length : Int) x30_1 ((rd_T41 l0_5 x30_1).f2) (((rd_T41 l0_5 x30_1).f2).length : Int) x48_2 = some r) ∧ Aside0 (kq ≤ k1) ∧ Aside0 (w'.heap[gb101]? = some (.cells #[.int .i64 a0_0, .int .i64 a0_1, .int .i64 a0_2, .int .i64 a0_3, .string a0_4, (.slice (some ad109) l0_5.length c0_5)] 29 (0, 0))) ∧ Aside0 (w'.heap[gb110]? = some (.cells #[.int .i64 ((rd_T41 l0_5 x30_1).f0), .int .i64 ((rd_T41 l0_5 x30_1).f1), (.slice A109_2 ((rd_T41 l0_5 x30_1).f2).length c109_2)] 41 (0, 0))) ∧ Aside0 (Below w.heap.size w w'))
         case atStart => exact ⟨(x3_1 ++ t115), (0), (by first | rfl | (simp; done) | (simp [*]; done)), (by first | rfl | (simp; done) | (simp [*]; done)), H', ⟨Nat.le_refl _⟩, ⟨by (with_reducible repeat (first | apply kN | apply kD | apply kA)); exact BK101.out⟩, ⟨by (with_reducible repeat (first | apply kN | apply kD | apply kA)); exact BK110.out⟩, ⟨by repeat (first | (with_reducible first | exact HB.out | apply bA | apply bN | apply bD | refine bS ?_ GE101.out | refine bS ?_ GE110.out) | exact HB.out)⟩⟩
         case round =>
          clear H'
          try clear c1
          try clear p1
          try clear q1
          try clear hx1
          try clear c2
          try clear p2
          try clear c3
          try clear c4
          try clear c4b0
          try clear c4b1
          try clear c4b2
          try clear c7
          try clear c7b0
          try clear c7b1
          try clear c7b2
          try clear c10
          try clear p10
          try clear q10
          try clear hx10
          try clear c17
          try clear c17b0
          try clear c18
          try clear c18b0
          try clear c19
          try clear c19b0
          try clear c22
          try clear c22b0
          try clear c22b1
          try clear c22b2
          try clear c24
          try clear c27
          try clear hcz16_0
          try clear hcz16_1
          try clear hcz16_2
          try clear hcz16_3
          try clear hcz16_4
          try clear hcz16_5
          try clear hcz25_0
          try clear hcz25_1
          try clear hcz25_2
          try clear hcz32_0
          try clear hcz32_1
          try clear hcz32_2
          try clear hfz16_0
          try clear hfz16_1
          try clear hfz16_2
          try clear hfz16_3
          try clear hfz16_4
          try clear hfz16_5
          try clear hfz25_0
          try clear hfz25_1
          try clear hfz25_2
          try clear hfz32_0
          try clear hfz32_1
          try clear hfz32_2
          try clear hx109_0
          try clear hx109_1
          try clear hx109_2
          try clear p109
          try clear p2
          try clear q109
          obtain ⟨x3_2, x48_2, rfl, rfl, HA, HK2, BK101, BK110, HB⟩ := hrel
          cases gk with
          | zero => exact absurd HA.out (by simp [impl_sayBytes.l1])
          | succ k2 =>
           have H := HA.out
           clear HA
           simp only [impl_sayBytes.l1] at H
           by_cases c33 : x48_2 < (((rd_T41 l0_5 x30_1).f2).length : Int)
           ·
            rw [if_pos c33] at H
            have c33b0 : decide (x48_2 < (((rd_T41 l0_5 x30_1).f2).length : Int)) = true := decide_eq_true c33
            clear c33
            by_cases c34 : 0 ≤ x48_2
            ·
             rw [if_pos c34] at H
             have c34b0 : decide (0 ≤ x48_2) = true := decide_eq_true c34
             clear c34
             by_cases c35 : x48_2 < (((rd_T41 l0_5 x30_1).f2).length : Int)
             ·
              rw [if_pos c35] at H
              have c35b0 : decide (x48_2 < (((rd_T41 l0_5 x30_1).f2).length : Int)) = true := decide_eq_true c35
              clear c35
              obtain ⟨y118, hy118⟩ : ∃ y_ : List Int, y_ = (([(rd_T52 ((rd_T41 l0_5 x30_1).f2) x48_2).f0, (rd_T52 ((rd_T41 l0_5 x30_1).f2) x48_2).f1] : List Int)) := ⟨_, rfl⟩
              replace H : ((impl_putNums.f k2 y118).bind fun t121 => ((impl_putText.f k2 ((rd_T52 ((rd_T41 l0_5 x30_1).f2) x48_2).f2)).bind fun t122 => (if t121.size + t122.size ≤ 9223372036854775807 then ((impl_size_int64.f ((rd_T52 ((rd_T41 l0_5 x30_1).f2) x48_2).f3)).bind fun t123 => ((impl_putNum.f k2 t123).bind fun t124 => (if (t121 ++ t122).size + t124.size ≤ 9223372036854775807 then ((impl_putNums.f k2 ((rd_T52 ((rd_T41 l0_5 x30_1).f2) x48_2).f3)).bind fun t125 => (if ((t121 ++ t122) ++ t124).size + t125.size ≤ 9223372036854775807 then (if x3_2.size + (((t121 ++ t122) ++ t124) ++ t125).size ≤ 9223372036854775807 then (impl_sayBytes.l1 k2 (x3_2 ++ (((t121 ++ t122) ++ t124) ++ t125)) l0_5 (l0_5.length : Int) x30_1 ((rd_T41 l0_5 x30_1).f2) (((rd_T41 l0_5 x30_1).f2).length : Int) (wrap64 (x48_2 + 1))) else (none)) else (none))) else (none)))) else (none)))) = some r := by first | (rw [hy118]; with_reducible exact H) | (have H2_ := (Option.bind_some _ _).symm.trans H; rw [hy118]; with_reducible exact H2_) | (have H2_ := (Option.bind_some _ _).symm.trans H; with_reducible exact H2_) | with_reducible exact H | (rw [hy118]; exact H) | exact H
              have Ny118 := AM hy118
              clear hy118
              replace H := Option.bind_eq_some_iff.mp H
              obtain ⟨t121, A360, H⟩ := H
              replace H : ((impl_putText.f k2 ((rd_T52 ((rd_T41 l0_5 x30_1).f2) x48_2).f2)).bind fun t122 => (if t121.size + t122.size ≤ 9223372036854775807 then ((impl_size_int64.f ((rd_T52 ((rd_T41 l0_5 x30_1).f2) x48_2).f3)).bind fun t123 => ((impl_putNum.f k2 t123).bind fun t124 => (if (t121 ++ t122).size + t124.size ≤ 9223372036854775807 then ((impl_putNums.f k2 ((rd_T52 ((rd_T41 l0_5 x30_1).f2) x48_2).f3)).bind fun t125 => (if ((t121 ++ t122) ++ t124).size + t125.size ≤ 9223372036854775807 then (if x3_2.size + (((t121 ++ t122) ++ t124) ++ t125).size ≤ 9223372036854775807 then (impl_sayBytes.l1 k2 (x3_2 ++ (((t121 ++ t122) ++ t124) ++ t125)) l0_5 (l0_5.length : Int) x30_1 ((rd_T41 l0_5 x30_1).f2) (((rd_T41 l0_5 x30_1).f2).length : Int) (wrap64 (x48_2 + 1))) else (none)) else (none))) else (none)))) else (none))) = some r := H
              have A36 := AM A360
              clear A360
              replace H := Option.bind_eq_some_iff.mp H
              obtain ⟨t122, A370, H⟩ := H
              replace H : (if t121.size + t122.size ≤ 9223372036854775807 then ((impl_size_int64.f ((rd_T52 ((rd_T41 l0_5 x30_1).f2) x48_2).f3)).bind fun t123 => ((impl_putNum.f k2 t123).bind fun t124 => (if (t121 ++ t122).size + t124.size ≤ 9223372036854775807 then ((impl_putNums.f k2 ((rd_T52 ((rd_T41 l0_5 x30_1).f2) x48_2).f3)).bind fun t125 => (if ((t121 ++ t122) ++ t124).size + t125.size ≤ 9223372036854775807 then (if x3_2.size + (((t121 ++ t122) ++ t124) ++ t125).size ≤ 9223372036854775807 then (impl_sayBytes.l1 k2 (x3_2 ++ (((t121 ++ t122) ++ t124) ++ t125)) l0_5 (l0_5.length : Int) x30_1 ((rd_T41 l0_5 x30_1).f2) (((rd_T41 l0_5 x30_1).f2).length : Int) (wrap64 (x48_2 + 1))) else (none)) else (none))) else (none)))) else (none)) = some r := H
              have A37 := AM A370
              clear A370
              by_cases c38 : t121.size + t122.size ≤ 9223372036854775807
              ·
               rw [if_pos c38] at H
               have c38b0 := eq_true c38
               have c38b1 : decide (t121.size + t122.size ≤ 9223372036854775807) = true := decide_eq_true c38
               try have c38b2 : (9223372036854775807 < t121.size + t122.size) = False := eq_false (Nat.not_lt.2 c38)
               replace H := Option.bind_eq_some_iff.mp H
               obtain ⟨t123, A390, H⟩ := H
               replace H : ((impl_putNum.f k2 t123).bind fun t124 => (if (t121 ++ t122).size + t124.size ≤ 9223372036854775807 then ((impl_putNums.f k2 ((rd_T52 ((rd_T41 l0_5 x30_1).f2) x48_2).f3)).bind fun t125 => (if ((t121 ++ t122) ++ t124).size + t125.size ≤ 9223372036854775807 then (if x3_2.size + (((t121 ++ t122) ++ t124) ++ t125).size ≤ 9223372036854775807 then (impl_sayBytes.l1 k2 (x3_2 ++ (((t121 ++ t122) ++ t124) ++ t125)) l0_5 (l0_5.length : Int) x30_1 ((rd_T41 l0_5 x30_1).f2) (((rd_T41 l0_5 x30_1).f2).length : Int) (wrap64 (x48_2 + 1))) else (none)) else (none))) else (none))) = some r := H
               have A39 := AM A390
               clear A390
               replace H := Option.bind_eq_some_iff.mp H
               obtain ⟨t124, A400, H⟩ := H
               replace H : (if (t121 ++ t122).size + t124.size ≤ 9223372036854775807 then ((impl_putNums.f k2 ((rd_T52 ((rd_T41 l0_5 x30_1).f2) x48_2).f3)).bind fun t125 => (if ((t121 ++ t122) ++ t124).size + t125.size ≤ 9223372036854775807 then (if x3_2.size + (((t121 ++ t122) ++ t124) ++ t125).size ≤ 9223372036854775807 then (impl_sayBytes.l1 k2 (x3_2 ++ (((t121 ++ t122) ++ t124) ++ t125)) l0_5 (l0_5.length : Int) x30_1 ((rd_T41 l0_5 x30_1).f2) (((rd_T41 l0_5 x30_1).f2).length : Int) (wrap64 (x48_2 + 1))) else (none)) else (none))) else (none)) = some r := H
               have A40 := AM A400
               clear A400
               by_cases c41 : (t121 ++ t122).size + t124.size ≤ 9223372036854775807
               ·
                rw [if_pos c41] at H
                have c41b0 := eq_true c41
                have c41b1 : decide ((t121 ++ t122).size + t124.size ≤ 9223372036854775807) = true := decide_eq_true c41
                try have c41b2 : (9223372036854775807 < (t121 ++ t122).size + t124.size) = False := eq_false (Nat.not_lt.2 c41)
                replace H := Option.bind_eq_some_iff.mp H
                obtain ⟨t125, A420, H⟩ := H
                replace H : (if ((t121 ++ t122) ++ t124).size + t125.size ≤ 9223372036854775807 then (if x3_2.size + (((t121 ++ t122) ++ t124) ++ t125).size ≤ 9223372036854775807 then (impl_sayBytes.l1 k2 (x3_2 ++ (((t121 ++ t122) ++ t124) ++ t125)) l0_5 (l0_5.length : Int) x30_1 ((rd_T41 l0_5 x30_1).f2) (((rd_T41 l0_5 x30_1).f2).length : Int) (wrap64 (x48_2 + 1))) else (none)) else (none)) = some r := H
                have A42 := AM A420
                clear A420
                by_cases c43 : ((t121 ++ t122) ++ t124).size + t125.size ≤ 9223372036854775807
                ·
                 rw [if_pos c43] at H
                 have c43b0 := eq_true c43
                 have c43b1 : decide (((t121 ++ t122) ++ t124).size + t125.size ≤ 9223372036854775807) = true := decide_eq_true c43
                 try have c43b2 : (9223372036854775807 < ((t121 ++ t122) ++ t124).size + t125.size) = False := eq_false (Nat.not_lt.2 c43)
                 by_cases c44 : x3_2.size + (((t121 ++ t122) ++ t124) ++ t125).size ≤ 9223372036854775807
                 ·
                  rw [if_pos c44] at H
                  have c44b0 := eq_true c44
                  have c44b1 : decide (x3_2.size + (((t121 ++ t122) ++ t124) ++ t125).size ≤ 9223372036854775807) = true := decide_eq_true c44
                  try have c44b2 : (9223372036854775807 < x3_2.size + (((t121 ++ t122) ++ t124) ++ t125).size) = False := eq_false (Nat.not_lt.2 c44)
                  have H' := AM H
                  clear H
                  have p116 : 0 ≤ (x48_2 : Int) := of_decide_eq_true (by assumption)
                  have q116 : x48_2 < (((rd_T41 l0_5 x30_1).f2).length : Int) := of_decide_eq_true (by assumption)
                  obtain ⟨ad116, A116_3, c116_3, e116, hx116_0, hx116_1, hx116_2, hx116_3, hl116_3, hi116_3⟩ := at_T52 HR109_2.out x48_2 p116 q116
                  cases e116
                  replace hx116_0 := pw_cell_below HB.out hx116_0
                  replace hx116_1 := pw_cell_below HB.out hx116_1
                  replace hx116_2 := pw_cell_below HB.out hx116_2
                  replace hx116_3 := pw_cell_below HB.out hx116_3
                  have HR116_3 := AM hi116_3
                  have HC116_3 := AM hl116_3
                  clear hi116_3 hl116_3
                  replace p116 := eq_true p116
                  replace q116 := eq_true q116
                  try go_wp2_with (first | ((with_reducible refine gate_dst (N := 7) rfl ?_); refine box_event (by rfl) (N := 7) (by rfl) (cs := #[.int .i64 0, .int .i64 0, .string (⟨#[]⟩ : ByteArray), .slice none 0 0]) (t := 52) (by first | (go_simp; done) | (go_simp; rfl)) ?_; intro gb117 hg w45 hbox hb; have n0_ := AM (blk_below (g := gb101) (o := .cells #[.int .i64 a0_0, .int .i64 a0_1, .int .i64 a0_2, .int .i64 a0_3, .string a0_4, .slice (some ad109) l0_5.length c0_5] 29 (0, 0)) (by (with_reducible repeat (first | apply kN | apply kD | apply kA)); exact BK101.out) hb); have n1_ := AM (blk_below (g := gb110) (o := .cells #[.int .i64 ((rd_T41 l0_5 x30_1).f0), .int .i64 ((rd_T41 l0_5 x30_1).f1), .slice (some ad116) ((rd_T41 l0_5 x30_1).f2).length c109_2] 41 (0, 0)) (by (with_reducible repeat (first | apply kN | apply kD | apply kA)); exact BK110.out) hb); have n2_ := AM (below_step (by repeat (first | (with_reducible first | exact HB.out | apply bA | apply bN | apply bD | refine bS ?_ GE101.out | refine bS ?_ GE110.out) | exact HB.out)) hb); have n3_ := AM (hbox); have n4_ := AM ((by rw [hg]; exact (bZ (by repeat (first | (with_reducible first | exact HB.out | apply bA | apply bN | apply bD | refine bS ?_ GE101.out | refine bS ?_ GE110.out) | exact HB.out))) : w.heap.size ≤ gb117)); have n5_ := n4_; have n6_ := AM ((by rw [hg]; exact Nat.ne_of_lt (blk_lt (g := gb101) (o := .cells #[.int .i64 a0_0, .int .i64 a0_1, .int .i64 a0_2, .int .i64 a0_3, .string a0_4, .slice (some ad109) l0_5.length c0_5] 29 (0, 0)) (by (with_reducible repeat (first | apply kN | apply kD | apply kA)); exact BK101.out)) : gb101 ≠ gb117)); have n7_ := AM ((by rw [hg]; exact Nat.ne_of_gt (blk_lt (g := gb101) (o := .cells #[.int .i64 a0_0, .int .i64 a0_1, .int .i64 a0_2, .int .i64 a0_3, .string a0_4, .slice (some ad109) l0_5.length c0_5] 29 (0, 0)) (by (with_reducible repeat (first | apply kN | apply kD | apply kA)); exact BK101.out)) : gb117 ≠ gb101)); have n8_ := AM ((by rw [hg]; exact Nat.ne_of_lt (blk_lt (g := gb110) (o := .cells #[.int .i64 ((rd_T41 l0_5 x30_1).f0), .int .i64 ((rd_T41 l0_5 x30_1).f1), .slice (some ad116) ((rd_T41 l0_5 x30_1).f2).length c109_2] 41 (0, 0)) (by (with_reducible repeat (first | apply kN | apply kD | apply kA)); exact BK110.out)) : gb110 ≠ gb117)); have n9_ := AM ((by rw [hg]; exact Nat.ne_of_gt (blk_lt (g := gb110) (o := .cells #[.int .i64 ((rd_T41 l0_5 x30_1).f0), .int .i64 ((rd_T41 l0_5 x30_1).f1), .slice (some ad116) ((rd_T41 l0_5 x30_1).f2).length c109_2] 41 (0, 0)) (by (with_reducible repeat (first | apply kN | apply kD | apply kA)); exact BK110.out)) : gb117 ≠ gb110)); clear BK101; clear BK110; clear HB; have BK101 := n0_; have BK110 := n1_; have HB := n2_; have BK117 := n3_; have GW117 := n4_; have GE117 := n5_; have NB101_117 := n6_; have NB117_101 := n7_; have NB110_117 := n8_; have NB117_110 := n9_; clear n0_ n1_ n2_ n3_ n4_ n5_ n6_ n7_ n8_ n9_; clear hb hbox hg; have hnb46 := NB117_101.out; have hnc46 := NB101_117.out; have hnb47 := NB117_110.out; have hnc47 := NB110_117.out; have hcz48_0 : w45.cell? ⟨gb117, 0, none⟩ = some (.int .i64 0) := (kC BK117.out 0).trans rfl; have hcz48_1 : w45.cell? ⟨gb117, 1, none⟩ = some (.int .i64 0) := (kC BK117.out 1).trans rfl; have hcz48_2 : w45.cell? ⟨gb117, 2, none⟩ = some (.string (⟨#[]⟩ : ByteArray)) := (kC BK117.out 2).trans rfl; have hcz48_3 : w45.cell? ⟨gb117, 3, none⟩ = some (.slice none 0 0) := (kC BK117.out 3).trans rfl; have hfz48_0 := fZ BK117.out 0; have hfz48_1 := fZ BK117.out 1; have hfz48_2 := fZ BK117.out 2; have hfz48_3 := fZ BK117.out 3))
                  have n0_ : Aside0 (((((w45.setCell ⟨gb117, 0, none⟩ (.int .i64 ((rd_T52 ((rd_T41 l0_5 x30_1).f2) x48_2).f0))).setCell ⟨gb117, 1, none⟩ (.int .i64 ((rd_T52 ((rd_T41 l0_5 x30_1).f2) x48_2).f1))).setCell ⟨gb117, 2, none⟩ (.string ((rd_T52 ((rd_T41 l0_5 x30_1).f2) x48_2).f2))).setCell ⟨gb117, 3, none⟩ (.slice A116_3 ((rd_T52 ((rd_T41 l0_5 x30_1).f2) x48_2).f3).length c116_3)).heap[gb101]? = some (.cells #[.int .i64 a0_0, .int .i64 a0_1, .int .i64 a0_2, .int .i64 a0_3, .string a0_4, .slice (some ad109) l0_5.length c0_5] 29 (0, 0))) := ⟨by (with_reducible repeat (first | apply kN | apply kD | apply kA)); refine blk_far ?_ NB101_117.out _; (with_reducible repeat (first | apply kN | apply kD | apply kA)); refine blk_far ?_ NB101_117.out _; (with_reducible repeat (first | apply kN | apply kD | apply kA)); refine blk_far ?_ NB101_117.out _; (with_reducible repeat (first | apply kN | apply kD | apply kA)); refine blk_far ?_ NB101_117.out _; (with_reducible repeat (first | apply kN | apply kD | apply kA)); exact BK101.out⟩
                  have n1_ : Aside0 (((((w45.setCell ⟨gb117, 0, none⟩ (.int .i64 ((rd_T52 ((rd_T41 l0_5 x30_1).f2) x48_2).f0))).setCell ⟨gb117, 1, none⟩ (.int .i64 ((rd_T52 ((rd_T41 l0_5 x30_1).f2) x48_2).f1))).setCell ⟨gb117, 2, none⟩ (.string ((rd_T52 ((rd_T41 l0_5 x30_1).f2) x48_2).f2))).setCell ⟨gb117, 3, none⟩ (.slice A116_3 ((rd_T52 ((rd_T41 l0_5 x30_1).f2) x48_2).f3).length c116_3)).heap[gb110]? = some (.cells #[.int .i64 ((rd_T41 l0_5 x30_1).f0), .int .i64 ((rd_T41 l0_5 x30_1).f1), .slice (some ad116) ((rd_T41 l0_5 x30_1).f2).length c109_2] 41 (0, 0))) := ⟨by (with_reducible repeat (first | apply kN | apply kD | apply kA)); refine blk_far ?_ NB110_117.out _; (with_reducible repeat (first | apply kN | apply kD | apply kA)); refine blk_far ?_ NB110_117.out _; (with_reducible repeat (first | apply kN | apply kD | apply kA)); refine blk_far ?_ NB110_117.out _; (with_reducible repeat (first | apply kN | apply kD | apply kA)); refine blk_far ?_ NB110_117.out _; (with_reducible repeat (first | apply kN | apply kD | apply kA)); exact BK110.out⟩
                  have n2_ : Aside0 (((((w45.setCell ⟨gb117, 0, none⟩ (.int .i64 ((rd_T52 ((rd_T41 l0_5 x30_1).f2) x48_2).f0))).setCell ⟨gb117, 1, none⟩ (.int .i64 ((rd_T52 ((rd_T41 l0_5 x30_1).f2) x48_2).f1))).setCell ⟨gb117, 2, none⟩ (.string ((rd_T52 ((rd_T41 l0_5 x30_1).f2) x48_2).f2))).setCell ⟨gb117, 3, none⟩ (.slice A116_3 ((rd_T52 ((rd_T41 l0_5 x30_1).f2) x48_2).f3).length c116_3)).heap[gb117]? = some (.cells #[.int .i64 ((rd_T52 ((rd_T41 l0_5 x30_1).f2) x48_2).f0), .int .i64 ((rd_T52 ((rd_T41 l0_5 x30_1).f2) x48_2).f1), .string ((rd_T52 ((rd_T41 l0_5 x30_1).f2) x48_2).f2), .slice A116_3 ((rd_T52 ((rd_T41 l0_5 x30_1).f2) x48_2).f3).length c116_3] 52 (0, 0))) := ⟨by (with_reducible repeat (first | apply kN | apply kD | apply kA)); refine blk_put (cs := #[.int .i64 ((rd_T52 ((rd_T41 l0_5 x30_1).f2) x48_2).f0), .int .i64 ((rd_T52 ((rd_T41 l0_5 x30_1).f2) x48_2).f1), .string ((rd_T52 ((rd_T41 l0_5 x30_1).f2) x48_2).f2), .slice none 0 0]) ?_ 3 _ rfl; (with_reducible repeat (first | apply kN | apply kD | apply kA)); refine blk_put (cs := #[.int .i64 ((rd_T52 ((rd_T41 l0_5 x30_1).f2) x48_2).f0), .int .i64 ((rd_T52 ((rd_T41 l0_5 x30_1).f2) x48_2).f1), .string (⟨#[]⟩ : ByteArray), .slice none 0 0]) ?_ 2 _ rfl; (with_reducible repeat (first | apply kN | apply kD | apply kA)); refine blk_put (cs := #[.int .i64 ((rd_T52 ((rd_T41 l0_5 x30_1).f2) x48_2).f0), .int .i64 0, .string (⟨#[]⟩ : ByteArray), .slice none 0 0]) ?_ 1 _ rfl; (with_reducible repeat (first | apply kN | apply kD | apply kA)); refine blk_put (cs := #[.int .i64 0, .int .i64 0, .string (⟨#[]⟩ : ByteArray), .slice none 0 0]) ?_ 0 _ rfl; (with_reducible repeat (first | apply kN | apply kD | apply kA)); exact BK117.out⟩
                  have n3_ : Aside0 (Below w.heap.size w ((((w45.setCell ⟨gb117, 0, none⟩ (.int .i64 ((rd_T52 ((rd_T41 l0_5 x30_1).f2) x48_2).f0))).setCell ⟨gb117, 1, none⟩ (.int .i64 ((rd_T52 ((rd_T41 l0_5 x30_1).f2) x48_2).f1))).setCell ⟨gb117, 2, none⟩ (.string ((rd_T52 ((rd_T41 l0_5 x30_1).f2) x48_2).f2))).setCell ⟨gb117, 3, none⟩ (.slice A116_3 ((rd_T52 ((rd_T41 l0_5 x30_1).f2) x48_2).f3).length c116_3))) := ⟨by repeat (first | (with_reducible first | exact HB.out | apply bA | apply bN | apply bD | refine bS ?_ GE101.out | refine bS ?_ GE110.out | refine bS ?_ GE117.out) | exact HB.out)⟩
                  (try clear BK101)
                  (try clear BK110)
                  (try clear BK117)
                  (try clear HB)
                  generalize ((((w45.setCell ⟨gb117, 0, none⟩ (.int .i64 ((rd_T52 ((rd_T41 l0_5 x30_1).f2) x48_2).f0))).setCell ⟨gb117, 1, none⟩ (.int .i64 ((rd_T52 ((rd_T41 l0_5 x30_1).f2) x48_2).f1))).setCell ⟨gb117, 2, none⟩ (.string ((rd_T52 ((rd_T41 l0_5 x30_1).f2) x48_2).f2))).setCell ⟨gb117, 3, none⟩ (.slice A116_3 ((rd_T52 ((rd_T41 l0_5 x30_1).f2) x48_2).f3).length c116_3)) = w49 at n0_ n1_ n2_ n3_ ⊢
                  have BK101 := n0_
                  have BK110 := n1_
                  have BK117 := n2_
                  have HB := n3_
                  clear n0_ n1_ n2_ n3_
                  have n0_ := AM (kD BK101.out)
                  have n1_ := AM (kD BK110.out)
                  have n2_ := AM (kD BK117.out)
                  have n3_ := AM (bD HB.out)
                  clear BK101
                  clear BK110
                  clear BK117
                  clear HB
                  have BK101 := n0_
                  have BK110 := n1_
                  have BK117 := n2_
                  have HB := n3_
                  clear n0_ n1_ n2_ n3_
                  refine start_ (n := 22) (S := fun w' => w'.cell? ⟨gb117, 0, none⟩ = some (.int .i64 ((rd_T52 ((rd_T41 l0_5 x30_1).f2) x48_2).f0)) ∧ w'.cell? ⟨gb117, 1, none⟩ = some (.int .i64 ((rd_T52 ((rd_T41 l0_5 x30_1).f2) x48_2).f1)) ∧ w'.cell? ⟨gb117, 2, none⟩ = some (.string ((rd_T52 ((rd_T41 l0_5 x30_1).f2) x48_2).f2)) ∧ w'.cell? ⟨gb117, 3, none⟩ = some (.slice A116_3 ((rd_T52 ((rd_T41 l0_5 x30_1).f2) x48_2).f3).length c116_3)) (ds := []) (upTo 0 22) (by kernel_rfl) rfl rfl ⟨(kC BK117.out 0).trans rfl, (kC BK117.out 1).trans rfl, (kC BK117.out 2).trans rfl, (kC BK117.out 3).trans rfl⟩ (fun hHeld => ?_); refine with_tabW impl_sayBytes.tab9 impl_sayBytes.bits9 (fun HT_ HW_ => ?_)
                  generalize w49.drew = w50 at BK101 BK110 BK117 HB hHeld ⊢
                  refine pure_ (i := 0) (N := some 52) (v := ?_) (a' := ?_) (upTo 1 22) rfl rfl (any_of HT_.out (by kernel_rfl)) (fun _ _ _ h => h) (Or.inl ⟨by rfl, ?_⟩) ?_ ?_
                  rotate_left
                  ·
                   intro w'
                   first
                   | (go_simp; with_reducible rfl)
                   | (simp only [ByteArray.size_append] at *; go_simp; with_reducible rfl)
                  rotate_left
                  ·
                   simp only [Act.put, sA, sB, sC, i64_w, i32_w]
                   rfl
                  refine pure_ (i := 1) (N := some 53) (v := ?_) (a' := ?_) (upTo 2 22) rfl rfl (any_of HT_.out (by kernel_rfl)) (fun _ _ _ h => h) (Or.inl ⟨by rfl, ?_⟩) ?_ ?_
                  rotate_left
                  ·
                   intro w'
                   first
                   | (go_simp; with_reducible rfl)
                   | (simp only [ByteArray.size_append] at *; go_simp; with_reducible rfl)
                  rotate_left
                  ·
                   simp only [Act.put, sA, sB, sC, i64_w, i32_w]
                   rfl
                  refine pure_ (i := 3) (N := some 55) (v := ?_) (a' := ?_) impl_sayBytes.b17 rfl rfl (any_of HT_.out (by kernel_rfl)) (fun _ _ _ h => h) (Or.inl ⟨by rfl, ?_⟩) ?_ ?_
                  rotate_left
                  ·
                   intro w'
                   first
                   | (go_simp; with_reducible rfl)
                   | (simp only [ByteArray.size_append] at *; go_simp; with_reducible rfl)
                  rotate_left
                  ·
                   simp only [Act.put, sA, sB, sC, i64_w, i32_w]
                   rfl
                  refine pure_ (i := 7) (N := some 59) (v := ?_) (a' := ?_) impl_sayBytes.b18 rfl rfl (any_of HT_.out (by kernel_rfl)) (fun _ _ _ h => h) (Or.inl ⟨by rfl, ?_⟩) ?_ ?_
                  rotate_left
                  ·
                   intro w'
                   first
                   | (go_simp; with_reducible rfl)
                   | (simp only [ByteArray.size_append] at *; go_simp; with_reducible rfl)
                  rotate_left
                  ·
                   simp only [Act.put, sA, sB, sC, i64_w, i32_w]
                   rfl
                  refine pure_ (i := 11) (N := some 63) (v := ?_) (a' := ?_) impl_sayBytes.b19 rfl rfl (any_of HT_.out (by kernel_rfl)) (fun _ _ _ h => h) (Or.inl ⟨by rfl, ?_⟩) ?_ ?_
                  rotate_left
                  ·
                   intro w'
                   first
                   | (go_simp; with_reducible rfl)
                   | (simp only [ByteArray.size_append] at *; go_simp; with_reducible rfl)
                  rotate_left
                  ·
                   simp only [Act.put, sA, sB, sC, i64_w, i32_w]
                   rfl
                  refine pure_ (i := 16) (N := some 68) (v := ?_) (a' := ?_) impl_sayBytes.b20 rfl rfl (any_of HT_.out (by kernel_rfl)) (fun _ _ _ h => h) (Or.inl ⟨by rfl, ?_⟩) ?_ ?_
                  rotate_left
                  ·
                   intro w'
                   first
                   | (go_simp; with_reducible rfl)
                   | (simp only [ByteArray.size_append] at *; go_simp; with_reducible rfl)
                  rotate_left
                  ·
                   simp only [Act.put, sA, sB, sC, i64_w, i32_w]
                   rfl
                  refine pT2 2 54 impl_sayBytes.b21 ?_ hHeld
                  refine pT2 4 56 impl_sayBytes.b22 ?_ hHeld
                  refine pT2 8 60 impl_sayBytes.b23 ?_ hHeld
                  refine pT2 12 64 impl_sayBytes.b24 ?_ hHeld
                  refine pT2 17 69 impl_sayBytes.b25 ?_ hHeld
                  refine one_ (i := 5) (N := some 57) impl_sayBytes.b26 rfl rfl (one_of HT_.out (by kernel_rfl)) (by decide) (fun K hK => ?_)
                  refine Kd.R_lit_step (Kd.int .i64) _ 2 ?hg (N := 57) ?hd (xs := ([(rd_T52 ((rd_T41 l0_5 x30_1).f2) x48_2).f0, (rd_T52 ((rd_T41 l0_5 x30_1).f2) x48_2).f1] : List Int)) (inner := [.int .i64 ((rd_T52 ((rd_T41 l0_5 x30_1).f2) x48_2).f0), .int .i64 ((rd_T52 ((rd_T41 l0_5 x30_1).f2) x48_2).f1)]) (ok := fun _ => True) (okp := fun _ => True) ?hr ?hp (fun _ hk => hk) trivial (Below.refl _ _) (Nat.le_refl _) (by simp) ?_; (case hd => rfl); (case hg => rfl); (case hr => first | (go_simp; done) | (go_simp; rfl)); (case hp => exact (Reps.one (show Kd.M (Kd.int .i64) _ _ _ ((rd_T52 ((rd_T41 l0_5 x30_1).f2) x48_2).f0) [.int .i64 ((rd_T52 ((rd_T41 l0_5 x30_1).f2) x48_2).f0)] from rfl) (Reps.one (show Kd.M (Kd.int .i64) _ _ _ ((rd_T52 ((rd_T41 l0_5 x30_1).f2) x48_2).f1) [.int .i64 ((rd_T52 ((rd_T41 l0_5 x30_1).f2) x48_2).f1)] from rfl) (Reps.none _ _))))
                  intro v119 w51 ho52 hb hg_ hnew_
                  clear hg_ hnew_
                  (first | rw [← Ny118.out] at ho52 | (simp only [Int.reduceToNat] at ho52; rw [← Ny118.out] at ho52))
                  have n0_ := AM (Kd.R_lower ho52 (bZ (by repeat (first | (with_reducible first | exact HB.out | apply bA | apply bN | apply bD | refine bS ?_ GE101.out | refine bS ?_ GE110.out | refine bS ?_ GE117.out) | exact HB.out))))
                  have n1_ := AM (blk_below (g := gb101) (o := .cells #[.int .i64 a0_0, .int .i64 a0_1, .int .i64 a0_2, .int .i64 a0_3, .string a0_4, .slice (some ad109) l0_5.length c0_5] 29 (0, 0)) (by (with_reducible repeat (first | apply kN | apply kD | apply kA)); exact BK101.out) hb)
                  have n2_ := AM (blk_below (g := gb110) (o := .cells #[.int .i64 ((rd_T41 l0_5 x30_1).f0), .int .i64 ((rd_T41 l0_5 x30_1).f1), .slice (some ad116) ((rd_T41 l0_5 x30_1).f2).length c109_2] 41 (0, 0)) (by (with_reducible repeat (first | apply kN | apply kD | apply kA)); exact BK110.out) hb)
                  have n3_ := AM (blk_below (g := gb117) (o := .cells #[.int .i64 ((rd_T52 ((rd_T41 l0_5 x30_1).f2) x48_2).f0), .int .i64 ((rd_T52 ((rd_T41 l0_5 x30_1).f2) x48_2).f1), .string ((rd_T52 ((rd_T41 l0_5 x30_1).f2) x48_2).f2), .slice A116_3 ((rd_T52 ((rd_T41 l0_5 x30_1).f2) x48_2).f3).length c116_3] 52 (0, 0)) (by (with_reducible repeat (first | apply kN | apply kD | apply kA)); exact BK117.out) hb)
                  have n4_ := AM (below_step (by repeat (first | (with_reducible first | exact HB.out | apply bA | apply bN | apply bD | refine bS ?_ GE101.out | refine bS ?_ GE110.out | refine bS ?_ GE117.out) | exact HB.out)) hb)
                  clear BK101
                  clear BK110
                  clear BK117
                  clear HB
                  have HO120 := n0_
                  have BK101 := n1_
                  have BK110 := n2_
                  have BK117 := n3_
                  have HB := n4_
                  clear n0_ n1_ n2_ n3_ n4_
                  clear hb ho52
                  obtain ⟨Ao53, co53, eo53⟩ := Kd.R_slice HO120.out
                  (first | subst eo53 | (injection eo53 with f1_ f2_ f3_; have f4_ := f1_.symm; have f5_ := f3_.symm; clear f1_ f2_ f3_; subst f4_; subst f5_))
                  refine hK.out _ _ ⟨(kC BK117.out 0).trans rfl, (kC BK117.out 1).trans rfl, (kC BK117.out 2).trans rfl, (kC BK117.out 3).trans rfl⟩ (fun hHeld => ?_)
                  clear hK K
                  refine norm_ (a' := ?_) ?_ ?_
                  rotate_left
                  ·
                   show Act.put _ (some 57) _ = _
                   simp only [Act.put, sA, sB, sC, i64_w, i32_w]
                   rfl
                  refine one_ (i := 6) (N := some 58) impl_sayBytes.b27 rfl rfl (one_of HT_.out (by kernel_rfl)) (by decide) (fun K hK => ?_)
                  refine goes_ Try.func44 (by kernel_rfl) rfl #[.slice Ao53 y118.length co53] (by rfl) rfl rfl (by (try simp only [mA, mB, mC]); first | done | rfl | (simp only [mD, mE]; rfl)) ?_
                  with_reducible refine (impl_putNums.calls k2 _ _ y118 t121 _ ?side1 ?side2 A36.out).mono ?_
                  (case side1 => repeat (first | exact (Kd.R_reads' HO120.out).2.2 | (with_reducible refine cA ?_ _) | (with_reducible refine cN ?_ _) | (with_reducible refine cD ?_)))
                  (case side2 => exact (Kd.R_reads' HO120.out).2.1)
                  rintro e w54 ⟨rfl, hb⟩
                  refine ⟨_, rfl, ?_⟩
                  have n0_ := AM (Kd.R_below (by (with_reducible repeat (first | apply rA | apply rN | apply rD)); exact HO120.out) hb)
                  have n1_ := AM (blk_below (g := gb101) (o := .cells #[.int .i64 a0_0, .int .i64 a0_1, .int .i64 a0_2, .int .i64 a0_3, .string a0_4, .slice (some ad109) l0_5.length c0_5] 29 (0, 0)) (by (with_reducible repeat (first | apply kN | apply kD | apply kA)); exact BK101.out) hb)
                  have n2_ := AM (blk_below (g := gb110) (o := .cells #[.int .i64 ((rd_T41 l0_5 x30_1).f0), .int .i64 ((rd_T41 l0_5 x30_1).f1), .slice (some ad116) ((rd_T41 l0_5 x30_1).f2).length c109_2] 41 (0, 0)) (by (with_reducible repeat (first | apply kN | apply kD | apply kA)); exact BK110.out) hb)
                  have n3_ := AM (blk_below (g := gb117) (o := .cells #[.int .i64 ((rd_T52 ((rd_T41 l0_5 x30_1).f2) x48_2).f0), .int .i64 ((rd_T52 ((rd_T41 l0_5 x30_1).f2) x48_2).f1), .string ((rd_T52 ((rd_T41 l0_5 x30_1).f2) x48_2).f2), .slice A116_3 ((rd_T52 ((rd_T41 l0_5 x30_1).f2) x48_2).f3).length c116_3] 52 (0, 0)) (by (with_reducible repeat (first | apply kN | apply kD | apply kA)); exact BK117.out) hb)
                  have n4_ := AM (below_step (by repeat (first | (with_reducible first | exact HB.out | apply bA | apply bN | apply bD | refine bS ?_ GE101.out | refine bS ?_ GE110.out | refine bS ?_ GE117.out) | exact HB.out)) hb)
                  clear HO120
                  clear BK101
                  clear BK110
                  clear BK117
                  clear HB
                  have HO120 := n0_
                  have BK101 := n1_
                  have BK110 := n2_
                  have BK117 := n3_
                  have HB := n4_
                  clear n0_ n1_ n2_ n3_ n4_
                  (try clear hb)
                  (try clear hb2)
                  (try clear hk)
                  (try clear hi)
                  refine hK.out _ _ ⟨(kC BK117.out 0).trans rfl, (kC BK117.out 1).trans rfl, (kC BK117.out 2).trans rfl, (kC BK117.out 3).trans rfl⟩ (fun hHeld => ?_)
                  clear hK K
                  refine norm_ (a' := ?_) ?_ ?_
                  rotate_left
                  ·
                   show Act.put _ (some 58) _ = _
                   simp only [Act.put, sA, sB, sC, i64_w, i32_w]
                   rfl
                  refine one_ (i := 9) (N := some 61) impl_sayBytes.b28 rfl rfl (one_of HT_.out (by kernel_rfl)) (by decide) (fun K hK => ?_)
                  refine goes_ Try.func45 (by kernel_rfl) rfl #[.string ((rd_T52 ((rd_T41 l0_5 x30_1).f2) x48_2).f2)] (by rfl) rfl rfl (by (try simp only [mA, mB, mC]); first | done | rfl | (simp only [mD, mE]; rfl)) ?_
                  with_reducible refine (impl_putText.calls k2 ((rd_T52 ((rd_T41 l0_5 x30_1).f2) x48_2).f2) t122 _ A37.out).mono ?_
                  rintro e w55 ⟨rfl, hb⟩
                  refine ⟨_, rfl, ?_⟩
                  have n0_ := AM (Kd.R_below (by (with_reducible repeat (first | apply rA | apply rN | apply rD)); exact HO120.out) hb)
                  have n1_ := AM (blk_below (g := gb101) (o := .cells #[.int .i64 a0_0, .int .i64 a0_1, .int .i64 a0_2, .int .i64 a0_3, .string a0_4, .slice (some ad109) l0_5.length c0_5] 29 (0, 0)) (by (with_reducible repeat (first | apply kN | apply kD | apply kA)); exact BK101.out) hb)
                  have n2_ := AM (blk_below (g := gb110) (o := .cells #[.int .i64 ((rd_T41 l0_5 x30_1).f0), .int .i64 ((rd_T41 l0_5 x30_1).f1), .slice (some ad116) ((rd_T41 l0_5 x30_1).f2).length c109_2] 41 (0, 0)) (by (with_reducible repeat (first | apply kN | apply kD | apply kA)); exact BK110.out) hb)
                  have n3_ := AM (blk_below (g := gb117) (o := .cells #[.int .i64 ((rd_T52 ((rd_T41 l0_5 x30_1).f2) x48_2).f0), .int .i64 ((rd_T52 ((rd_T41 l0_5 x30_1).f2) x48_2).f1), .string ((rd_T52 ((rd_T41 l0_5 x30_1).f2) x48_2).f2), .slice A116_3 ((rd_T52 ((rd_T41 l0_5 x30_1).f2) x48_2).f3).length c116_3] 52 (0, 0)) (by (with_reducible repeat (first | apply kN | apply kD | apply kA)); exact BK117.out) hb)
                  have n4_ := AM (below_step (by repeat (first | (with_reducible first | exact HB.out | apply bA | apply bN | apply bD | refine bS ?_ GE101.out | refine bS ?_ GE110.out | refine bS ?_ GE117.out) | exact HB.out)) hb)
                  clear HO120
                  clear BK101
                  clear BK110
                  clear BK117
                  clear HB
                  have HO120 := n0_
                  have BK101 := n1_
                  have BK110 := n2_
                  have BK117 := n3_
                  have HB := n4_
                  clear n0_ n1_ n2_ n3_ n4_
                  (try clear hb)
                  (try clear hb2)
                  (try clear hk)
                  (try clear hi)
                  refine hK.out _ _ ⟨(kC BK117.out 0).trans rfl, (kC BK117.out 1).trans rfl, (kC BK117.out 2).trans rfl, (kC BK117.out 3).trans rfl⟩ (fun hHeld => ?_)
                  clear hK K
                  refine norm_ (a' := ?_) ?_ ?_
                  rotate_left
                  ·
                   show Act.put _ (some 61) _ = _
                   simp only [Act.put, sA, sB, sC, i64_w, i32_w]
                   rfl
                  refine pure_ (i := 10) (N := some 62) (v := ?_) (a' := ?_) impl_sayBytes.b29 rfl rfl (any_of HT_.out (by kernel_rfl)) (fun _ _ _ h => h) (Or.inl ⟨by rfl, ?_⟩) ?_ ?_
                  rotate_left
                  ·
                   intro w'
                   first
                   | (go_simp; with_reducible rfl)
                   | (simp only [ByteArray.size_append] at *; go_simp; with_reducible rfl)
                  rotate_left
                  ·
                   simp only [Act.put, sA, sB, sC, i64_w, i32_w]
                   rfl
                  refine one_ (i := 13) (N := some 65) impl_sayBytes.b30 rfl rfl (one_of HT_.out (by kernel_rfl)) (by decide) (fun K hK => ?_)
                  refine goes_ Try.func48 (by kernel_rfl) rfl #[.slice A116_3 ((rd_T52 ((rd_T41 l0_5 x30_1).f2) x48_2).f3).length c116_3] (by rfl) rfl rfl (by (try simp only [mA, mB, mC]); first | done | rfl | (simp only [mD, mE]; rfl)) ?_
                  with_reducible refine (impl_size_int64.calls _ _ ((rd_T52 ((rd_T41 l0_5 x30_1).f2) x48_2).f3) t123 _ A39.out).mono ?_
                  rintro e w' ⟨rfl, ⟨nd, rfl⟩⟩
                  refine ⟨_, rfl, ?_⟩
                  refine hK.out _ _ ⟨(kC BK117.out 0).trans rfl, (kC BK117.out 1).trans rfl, (kC BK117.out 2).trans rfl, (kC BK117.out 3).trans rfl⟩ (fun hHeld => ?_)
                  clear hK K
                  refine norm_ (a' := ?_) ?_ ?_
                  rotate_left
                  ·
                   show Act.put _ (some 65) _ = _
                   simp only [Act.put, sA, sB, sC, i64_w, i32_w]
                   rfl
                  refine one_ (i := 14) (N := some 66) impl_sayBytes.b31 rfl rfl (one_of HT_.out (by kernel_rfl)) (by decide) (fun K hK => ?_)
                  refine goes_ Try.func46 (by kernel_rfl) rfl #[.int .i64 t123] (by rfl) rfl rfl (by (try simp only [mA, mB, mC]); first | done | rfl | (simp only [mD, mE]; rfl)) ?_
                  with_reducible refine (impl_putNum.calls k2 t123 t124 _ A40.out).mono ?_
                  rintro e w56 ⟨rfl, hb⟩
                  refine ⟨_, rfl, ?_⟩
                  have n0_ := AM (Kd.R_below (by (with_reducible repeat (first | apply rA | apply rN | apply rD)); exact HO120.out) hb)
                  have n1_ := AM (blk_below (g := gb101) (o := .cells #[.int .i64 a0_0, .int .i64 a0_1, .int .i64 a0_2, .int .i64 a0_3, .string a0_4, .slice (some ad109) l0_5.length c0_5] 29 (0, 0)) (by (with_reducible repeat (first | apply kN | apply kD | apply kA)); exact BK101.out) hb)
                  have n2_ := AM (blk_below (g := gb110) (o := .cells #[.int .i64 ((rd_T41 l0_5 x30_1).f0), .int .i64 ((rd_T41 l0_5 x30_1).f1), .slice (some ad116) ((rd_T41 l0_5 x30_1).f2).length c109_2] 41 (0, 0)) (by (with_reducible repeat (first | apply kN | apply kD | apply kA)); exact BK110.out) hb)
                  have n3_ := AM (blk_below (g := gb117) (o := .cells #[.int .i64 ((rd_T52 ((rd_T41 l0_5 x30_1).f2) x48_2).f0), .int .i64 ((rd_T52 ((rd_T41 l0_5 x30_1).f2) x48_2).f1), .string ((rd_T52 ((rd_T41 l0_5 x30_1).f2) x48_2).f2), .slice A116_3 ((rd_T52 ((rd_T41 l0_5 x30_1).f2) x48_2).f3).length c116_3] 52 (0, 0)) (by (with_reducible repeat (first | apply kN | apply kD | apply kA)); exact BK117.out) hb)
                  have n4_ := AM (below_step (by repeat (first | (with_reducible first | exact HB.out | apply bA | apply bN | apply bD | refine bS ?_ GE101.out | refine bS ?_ GE110.out | refine bS ?_ GE117.out) | exact HB.out)) hb)
                  clear HO120
                  clear BK101
                  clear BK110
                  clear BK117
                  clear HB
                  have HO120 := n0_
                  have BK101 := n1_
                  have BK110 := n2_
                  have BK117 := n3_
                  have HB := n4_
                  clear n0_ n1_ n2_ n3_ n4_
                  (try clear hb)
                  (try clear hb2)
                  (try clear hk)
                  (try clear hi)
                  refine hK.out _ _ ⟨(kC BK117.out 0).trans rfl, (kC BK117.out 1).trans rfl, (kC BK117.out 2).trans rfl, (kC BK117.out 3).trans rfl⟩ (fun hHeld => ?_)
                  clear hK K
                  refine norm_ (a' := ?_) ?_ ?_
                  rotate_left
                  ·
                   show Act.put _ (some 66) _ = _
                   simp only [Act.put, sA, sB, sC, i64_w, i32_w]
                   rfl
                  refine pure_ (i := 15) (N := some 67) (v := ?_) (a' := ?_) (upTo 18 22) rfl rfl (any_of HT_.out (by kernel_rfl)) (fun _ _ _ h => h) (Or.inl ⟨by rfl, ?_⟩) ?_ ?_
                  rotate_left
                  ·
                   intro w'
                   first
                   | (go_simp; with_reducible rfl)
                   | (simp only [ByteArray.size_append] at *; go_simp; with_reducible rfl)
                  rotate_left
                  ·
                   simp only [Act.put, sA, sB, sC, i64_w, i32_w]
                   rfl
                  refine one_ (i := 18) (N := some 70) (upTo 19 22) rfl rfl (one_of HT_.out (by kernel_rfl)) (by decide) (fun K hK => ?_)
                  refine goes_ Try.func44 (by kernel_rfl) rfl #[.slice A116_3 ((rd_T52 ((rd_T41 l0_5 x30_1).f2) x48_2).f3).length c116_3] (by rfl) rfl rfl (by (try simp only [mA, mB, mC]); first | done | rfl | (simp only [mD, mE]; rfl)) ?_
                  with_reducible refine (impl_putNums.calls k2 _ _ ((rd_T52 ((rd_T41 l0_5 x30_1).f2) x48_2).f3) t125 _ ?side1 ?side2 A42.out).mono ?_
                  (case side1 => repeat (first | exact (cB HR116_3.out HB.out) | (with_reducible refine cA ?_ _) | (with_reducible refine cN ?_ _) | (with_reducible refine cD ?_)))
                  (case side2 => exact HC116_3.out)
                  rintro e w57 ⟨rfl, hb⟩
                  refine ⟨_, rfl, ?_⟩
                  have n0_ := AM (Kd.R_below (by (with_reducible repeat (first | apply rA | apply rN | apply rD)); exact HO120.out) hb)
                  have n1_ := AM (blk_below (g := gb101) (o := .cells #[.int .i64 a0_0, .int .i64 a0_1, .int .i64 a0_2, .int .i64 a0_3, .string a0_4, .slice (some ad109) l0_5.length c0_5] 29 (0, 0)) (by (with_reducible repeat (first | apply kN | apply kD | apply kA)); exact BK101.out) hb)
                  have n2_ := AM (blk_below (g := gb110) (o := .cells #[.int .i64 ((rd_T41 l0_5 x30_1).f0), .int .i64 ((rd_T41 l0_5 x30_1).f1), .slice (some ad116) ((rd_T41 l0_5 x30_1).f2).length c109_2] 41 (0, 0)) (by (with_reducible repeat (first | apply kN | apply kD | apply kA)); exact BK110.out) hb)
                  have n3_ := AM (blk_below (g := gb117) (o := .cells #[.int .i64 ((rd_T52 ((rd_T41 l0_5 x30_1).f2) x48_2).f0), .int .i64 ((rd_T52 ((rd_T41 l0_5 x30_1).f2) x48_2).f1), .string ((rd_T52 ((rd_T41 l0_5 x30_1).f2) x48_2).f2), .slice A116_3 ((rd_T52 ((rd_T41 l0_5 x30_1).f2) x48_2).f3).length c116_3] 52 (0, 0)) (by (with_reducible repeat (first | apply kN | apply kD | apply kA)); exact BK117.out) hb)
                  have n4_ := AM (below_step (by repeat (first | (with_reducible first | exact HB.out | apply bA | apply bN | apply bD | refine bS ?_ GE101.out | refine bS ?_ GE110.out | refine bS ?_ GE117.out) | exact HB.out)) hb)
                  clear HO120
                  clear BK101
                  clear BK110
                  clear BK117
                  clear HB
                  have HO120 := n0_
                  have BK101 := n1_
                  have BK110 := n2_
                  have BK117 := n3_
                  have HB := n4_
                  clear n0_ n1_ n2_ n3_ n4_
                  (try clear hb)
                  (try clear hb2)
                  (try clear hk)
                  (try clear hi)
                  refine hK.out _ _ ⟨(kC BK117.out 0).trans rfl, (kC BK117.out 1).trans rfl, (kC BK117.out 2).trans rfl, (kC BK117.out 3).trans rfl⟩ (fun hHeld => ?_)
                  clear hK K
                  refine norm_ (a' := ?_) ?_ ?_
                  rotate_left
                  ·
                   show Act.put _ (some 70) _ = _
                   simp only [Act.put, sA, sB, sC, i64_w, i32_w]
                   rfl
                  refine pure_ (i := 19) (N := some 71) (v := ?_) (a' := ?_) (upTo 20 22) rfl rfl (any_of HT_.out (by kernel_rfl)) (fun _ _ _ h => h) (Or.inl ⟨by rfl, ?_⟩) ?_ ?_
                  rotate_left
                  ·
                   intro w'
                   first
                   | (go_simp; with_reducible rfl)
                   | (simp only [ByteArray.size_append] at *; go_simp; with_reducible rfl)
                  rotate_left
                  ·
                   simp only [Act.put, sA, sB, sC, i64_w, i32_w]
                   rfl
                  refine pure_ (i := 20) (N := some 72) (v := ?_) (a' := ?_) (upTo 21 22) rfl rfl (any_of HT_.out (by kernel_rfl)) (fun _ _ _ h => h) (Or.inl ⟨by rfl, ?_⟩) ?_ ?_
                  rotate_left
                  ·
                   intro w'
                   first
                   | (go_simp; with_reducible rfl)
                   | (simp only [ByteArray.size_append] at *; go_simp; with_reducible rfl)
                  rotate_left
                  ·
                   simp only [Act.put, sA, sB, sC, i64_w, i32_w]
                   rfl
                  refine pure_ (i := 21) (N := some 3) (v := ?_) (a' := ?_) (upTo 22 22) rfl rfl (any_of HT_.out (by kernel_rfl)) (fun _ _ _ h => h) (Or.inl ⟨by rfl, ?_⟩) ?_ ?_
                  rotate_left
                  ·
                   intro w'
                   first
                   | (go_simp; with_reducible rfl)
                   | (simp only [ByteArray.size_append] at *; go_simp; with_reducible rfl)
                  rotate_left
                  ·
                   simp only [Act.put, sA, sB, sC, i64_w, i32_w]
                   rfl
                  refine done_ (done_of HT_.out (by kernel_rfl)) ?_
                  try go_wp2
                  go_roundg k2
                  case measure => have := HK1.out; have := HK2.out; omega
                  case rel => exact ⟨(x3_2 ++ (((t121 ++ t122) ++ t124) ++ t125)), (wrap64 (x48_2 + 1)), (by first | rfl | (simp; done) | (simp [*]; done)), (by first | rfl | (simp; done) | (simp [*]; done)), H', ⟨by have := HK1.out; have := HK2.out; omega⟩, ⟨by (with_reducible repeat (first | apply kN | apply kD | apply kA)); exact BK101.out⟩, ⟨by (with_reducible repeat (first | apply kN | apply kD | apply kA)); exact BK110.out⟩, ⟨by repeat (first | (with_reducible first | exact HB.out | apply bA | apply bN | apply bD | refine bS ?_ GE101.out | refine bS ?_ GE110.out | refine bS ?_ GE117.out) | exact HB.out)⟩⟩
                 ·
                  rw [if_neg c44] at H
                  exact absurd H (by simp)
                ·
                 rw [if_neg c43] at H
                 exact absurd H (by simp)
               ·
                rw [if_neg c41] at H
                exact absurd H (by simp)
              ·
               rw [if_neg c38] at H
               exact absurd H (by simp)
             ·
              rw [if_neg c35] at H
              exact absurd H (by simp)
            ·
             rw [if_neg c34] at H
             exact absurd H (by simp)
           ·
            rw [if_neg c33] at H
            have c33b0 : decide (x48_2 < (((rd_T41 l0_5 x30_1).f2).length : Int)) = false := decide_eq_false c33
            clear c33
            have H' := AM H
            clear H
            go_wp2
            go_roundg k2
            case measure => have := HK1.out; have := HK2.out; omega
            case rel => exact ⟨(x3_2), (wrap64 (x30_1 + 1)), (by first | rfl | (simp; done) | (simp [*]; done)), (by first | rfl | (simp; done) | (simp [*]; done)), H', ⟨by have := HK1.out; have := HK2.out; omega⟩, ⟨by (with_reducible repeat (first | apply kN | apply kD | apply kA)); exact BK101.out⟩, ⟨by repeat (first | (with_reducible first | exact HB.out | apply bA | apply bN | apply bD | refine bS ?_ GE101.out | refine bS ?_ GE110.out) | exact HB.out)⟩⟩
        ·
         rw [if_neg c22] at H
         exact absurd H (by simp)
       ·
        rw [if_neg c19] at H
        exact absurd H (by simp)
      ·
       rw [if_neg c18] at H
       exact absurd H (by simp)
     ·
      rw [if_neg c17] at H
      have c17b0 : decide (x30_1 < (l0_5.length : Int)) = false := decide_eq_false c17
      clear c17
      obtain rfl := Option.some.inj H
      go_wp2
      go_ret
      exact ⟨by first | rfl | (simp [*, errW_none, errW_some] <;> rfl), by repeat (first | (with_reducible first | exact HB.out | apply bA | apply bN | apply bD | refine bS ?_ GE101.out) | exact HB.out)⟩
  ·
   rw [if_neg c7] at H
   exact absurd H (by simp)
 ·
  rw [if_neg c4] at H
  exact absurd H (by simp)

end Go.Proofs.Ytlkpjekalidkdaa.Q
