/- Printed by a program of this session (wip/mp.py over the kit's print.py): functions of the translation as plain Lean functions, and that the machine's calls do what these say. -/
import Derived.Test.YtlkpjekalidkdaaQx0
import Derived.Test.YtlkpjekalidkdaaQx1
import Derived.Test.YtlkpjekalidkdaaQx2
import Derived.Test.YtlkpjekalidkdaaQx3
namespace Go.Proofs.Ytlkpjekalidkdaa.Q
open Go.RowKit Go.Proofs.Ytlkpjekalidkdaa.HB Go.Proofs.YtlkpjekalidkdaaW.PrintWords Go.Proofs.YtlkpjekalidkdaaW.PrintLast Go.Proofs.YtlkpjekalidkdaaW.PrintMore
attribute [local go_sem] max2_int min2_int max_two min_two max_three min_three max_four min_four   -- for this text's walks alone
set_option linter.unusedVariables false
set_option linter.unusedSimpArgs false

/-! ### spec_SayRight: function 7 -/
abbrev spec_SayRight.b0 : Array Bool := #[true, true, true, true, true, true, true, true, true, true, true, true, true, true, true, true, true, true, true, true, false, true, false, false, false, false, false, false]
abbrev spec_SayRight.b1 : Array Bool := #[true, true, true, true, true, true, true, true, true, true, true, true, true, true, true, true, true, true, true, true, true, true, true, true, true, true, true, true, false, false, false, false, true, false, false, false, false, false, false, false, false, false, false, false, false, false, false]
abbrev spec_SayRight.b2 : Array Bool := #[true, true, true, true, true, true, true, true, true, true, true, true, true, true, true, true, true, true, true, true, true, true, true, true, true, true, true, true, true, false, false, false, true, false, false, false, false, false, false, false, false, false, false, false, false, false, false]
abbrev spec_SayRight.b3 : Array Bool := #[true, true, true, true, true, true, true, true, true, true, true, true, true, true, true, true, true, true, true, true, true, true, true, true, true, true, true, true, true, true, false, false, true, false, false, false, false, false, false, false, false, false, false, false, false, false, false]
abbrev spec_SayRight.b4 : Array Bool := #[true, true, true, true, true, true, true, true, true, true, true, true, true, true, true, true, true, true, true, true, true, true, true, true, true, true, true, true, true, true, true, false, true, false, false, false, false, false, false, false, false, false, false, false, false, false, false]
abbrev spec_SayRight.b5 : Array Bool := #[true, true, true, true, true, true, true, true, true, true, true, true, true, true, true, true, true, true, true, true, true, true, true, true, true, true, true, true, true, true, true, true, true, true, true, true, true, true, false, false, false, false, true, false, false, false, false]
abbrev spec_SayRight.b6 : Array Bool := #[true, true, true, true, true, true, true, true, true, true, true, true, true, true, true, true, true, true, true, true, true, true, true, true, true, true, true, true, true, true, true, true, true, true, true, true, true, true, true, false, false, false, true, false, false, false, false]
abbrev spec_SayRight.b7 : Array Bool := #[true, true, true, true, true, true, true, true, true, true, true, true, true, true, true, true, true, true, true, true, true, true, true, true, true, true, true, true, true, true, true, true, true, true, true, true, true, true, true, true, false, false, true, false, false, false, false]
abbrev spec_SayRight.b8 : Array Bool := #[true, true, true, true, true, true, true, true, true, true, true, true, true, true, true, true, true, true, true, true, true, true, true, true, true, true, true, true, true, true, true, true, true, true, true, true, true, true, true, true, true, false, true, false, false, false, false]
abbrev spec_SayRight.b9 : Array Bool := #[true, true, true, true, true, false, true, false, false, false, false, false, false, false, false, false, false, false, false, false, false, false, false, false, false, false, false, false, false]
abbrev spec_SayRight.b10 : Array Bool := #[true, true, true, true, true, true, true, true, true, true, true, true, true, true, true, true, true, true, true, true, true, true, true, false, true, false, false, false, false]
mutual
def spec_SayRight.j0 : Nat → Bool → Int → Int → Int → Int → ByteArray → List (S41) → Option (Bool)
  | 0, _, _, _, _, _, _, _ => none
  | k + 1, x12, x102000, x102001, x102002, x102003, x102004, x102005 => if x12 = true then (some false) else (if x102000 = 1 then (spec_SayRight.j1 k x102000 (x102000 == 1) x102000 x102001 x102002 x102003 x102004 x102005) else (if x102000 = 2 then (spec_SayRight.j1 k x102000 (x102000 == 2) x102000 x102001 x102002 x102003 x102004 x102005) else (spec_SayRight.j1 k x102000 (x102000 == 3) x102000 x102001 x102002 x102003 x102004 x102005)))
def spec_SayRight.j1 : Nat → Int → Bool → Int → Int → Int → Int → ByteArray → List (S41) → Option (Bool)
  | 0, _, _, _, _, _, _, _, _ => none
  | k + 1, x14, x15, x102000, x102001, x102002, x102003, x102004, x102005 => if x15 = true then ((spec_l10Seq.f x102003).bind fun t104 => (if t104 = true then ((spec_OpRight.f x102004).bind fun t105 => (if t105 = true then (if (x102005.length : Int) = 0 then (if x102000 = 1 then ((spec_Leader.f x102002).bind fun t106 => (some (x102001 == t106))) else (some true)) else (some false)) else (some false))) else (some false))) else (if x14 = 4 then (if x102002 ≥ 1 then (if x102003 = 0 then (if x102004.toList = ([] : List UInt8) then (if (x102005.length : Int) = 1 then (if 0 < (x102005.length : Int) then ((spec_ChangeRight.f k ((rd_T41 x102005 0).f0) ((rd_T41 x102005 0).f1) ((rd_T41 x102005 0).f2)).bind fun t108 => (if t108 = true then (if ((rd_T41 x102005 0).f0) = x102001 then (some (((rd_T41 x102005 0).f1) == x102002)) else (some false)) else (some false))) else (none)) else (some false)) else (some false)) else (some false)) else (some false)) else (if x14 = 5 then (if x102002 ≥ 1 then ((spec_Leader.f x102002).bind fun t111 => (if x102001 = t111 then (if x102003 = 0 then (if x102004.toList = ([] : List UInt8) then ((spec_l10Changes.f k x102005 x102002).bind fun t112 => (some t112)) else (some false)) else (some false)) else (some false))) else (some false)) else (some false)))
end
def spec_SayRight.f (k : Nat) (a0_0 : Int) (a0_1 : Int) (a0_2 : Int) (a0_3 : Int) (a0_4 : ByteArray) (l0_5 : List (S41)) : Option (Bool) := (spec_l09Who.f a0_1).bind fun t102 => (if t102 = true then ((spec_l10View.f a0_2).bind fun t103 => (spec_SayRight.j0 k (!t103) a0_0 a0_1 a0_2 a0_3 a0_4 l0_5)) else (spec_SayRight.j0 k true a0_0 a0_1 a0_2 a0_3 a0_4 l0_5))
theorem spec_SayRight.mono_l : ∀ k, (∀ y0 y1 y2 y3 y4 y5 y6, LeO (spec_SayRight.j0 k y0 y1 y2 y3 y4 y5 y6) (spec_SayRight.j0 (k + 1) y0 y1 y2 y3 y4 y5 y6)) ∧ (∀ y0 y1 y2 y3 y4 y5 y6 y7, LeO (spec_SayRight.j1 k y0 y1 y2 y3 y4 y5 y6 y7) (spec_SayRight.j1 (k + 1) y0 y1 y2 y3 y4 y5 y6 y7))
  | 0 => ⟨fun _ _ _ _ _ _ _ r h => by simp [spec_SayRight.j0] at h, fun _ _ _ _ _ _ _ _ r h => by simp [spec_SayRight.j1] at h⟩
  | k + 1 => by
    obtain ⟨ih0, ih1⟩ := spec_SayRight.mono_l k
    refine ⟨?_, ?_⟩
    · intro y0 y1 y2 y3 y4 y5 y6
      unfold spec_SayRight.j0
      repeat' first
      | (with_reducible exact ih0 _ _ _ _ _ _ _)
      | (with_reducible exact ih1 _ _ _ _ _ _ _ _)
      | (with_reducible exact spec_ChangeRight.mono _ _ _ _)
      | (with_reducible exact spec_l10Changes.mono _ _ _)
      | (with_reducible exact LeO.refl _)
      | (with_reducible exact LeO.none _)
      | (with_reducible refine LeO.ite ?_ ?_)
      | (with_reducible refine LeO.bind ?_ (fun _ => ?_))
      | exact ih0 _ _ _ _ _ _ _
      | exact ih1 _ _ _ _ _ _ _ _
      | exact spec_ChangeRight.mono _ _ _ _
      | exact spec_l10Changes.mono _ _ _
      | exact LeO.none _
      | refine LeO.ite ?_ ?_
      | refine LeO.bind ?_ (fun _ => ?_)
    · intro y0 y1 y2 y3 y4 y5 y6 y7
      unfold spec_SayRight.j1
      repeat' first
      | (with_reducible exact ih0 _ _ _ _ _ _ _)
      | (with_reducible exact ih1 _ _ _ _ _ _ _ _)
      | (with_reducible exact spec_ChangeRight.mono _ _ _ _)
      | (with_reducible exact spec_l10Changes.mono _ _ _)
      | (with_reducible exact LeO.refl _)
      | (with_reducible exact LeO.none _)
      | (with_reducible refine LeO.ite ?_ ?_)
      | (with_reducible refine LeO.bind ?_ (fun _ => ?_))
      | exact ih0 _ _ _ _ _ _ _
      | exact ih1 _ _ _ _ _ _ _ _
      | exact spec_ChangeRight.mono _ _ _ _
      | exact spec_l10Changes.mono _ _ _
      | exact LeO.none _
      | refine LeO.ite ?_ ?_
      | refine LeO.bind ?_ (fun _ => ?_)
theorem spec_SayRight.mono : ∀ a0 a1 a2 a3 a4 a5 k, LeO (spec_SayRight.f k a0 a1 a2 a3 a4 a5) (spec_SayRight.f (k + 1) a0 a1 a2 a3 a4 a5) := by
  intro a0 a1 a2 a3 a4 a5 k
  obtain ⟨ih0, ih1⟩ := spec_SayRight.mono_l k
  unfold spec_SayRight.f
  repeat' first
      | (with_reducible exact ih0 _ _ _ _ _ _ _)
      | (with_reducible exact ih1 _ _ _ _ _ _ _ _)
      | (with_reducible exact spec_ChangeRight.mono _ _ _ _)
      | (with_reducible exact spec_l10Changes.mono _ _ _)
      | (with_reducible exact LeO.refl _)
      | (with_reducible exact LeO.none _)
      | (with_reducible refine LeO.ite ?_ ?_)
      | (with_reducible refine LeO.bind ?_ (fun _ => ?_))
      | exact ih0 _ _ _ _ _ _ _
      | exact ih1 _ _ _ _ _ _ _ _
      | exact spec_ChangeRight.mono _ _ _ _
      | exact spec_l10Changes.mono _ _ _
      | exact LeO.none _
      | refine LeO.ite ?_ ?_
      | refine LeO.bind ?_ (fun _ => ?_)
def spec_SayRight.T7 : Bool × List (List Nat × List Nat) := (true, [([], []), ([0], [0]), ([1], [1]), ([2, 2], [2]), ([3], [3]), ([4, 3], [3, 4]), ([5, 3, 3], [3, 5]), ([3, 6], [3, 6]), ([7, 6], [7]), ([8], [8]), ([9, 8], [8, 9]), ([10, 8], [8, 10]), ([11, 8], [8, 11]), ([8, 12], [8, 12]), ([13, 8], [13]), ([14], [14]), ([15, 14], [14, 15]), ([16, 14], [14, 16]), ([17, 14, 14], [14, 17]), ([18], [18]), ([19, 18], [18, 19]), ([18], [18]), ([21, 18], [18, 21]), ([22, 18, 18], [18, 22]), ([20, 23, 18], [18, 20, 23]), ([18, 24, 14], [14, 18, 24]), ([14, 25], [14, 25]), ([26, 23, 0, 1, 2, 3, 4, 5, 6, 7, 8, 9, 10, 11, 12, 13, 14, 15, 16, 17, 18, 19, 20, 21, 22, 23, 24, 25, 26], [26])])
def spec_SayRight.B7 : List Nat := [0, 1, 3, 7, 15, 31, 63, 127, 255, 511, 1023, 2047, 4095, 8191, 16383, 32767, 65535, 131071, 262143, 524287, 1048575, 524287, 2621439, 6815743, 16777215, 33554431, 67108863, 134217727]
theorem spec_SayRight.tab7 : rtab .any (opsOf Try.f7 7) = spec_SayRight.T7 := by kernel_rfl
theorem spec_SayRight.bits7 : waitsOk spec_SayRight.T7.2 spec_SayRight.B7 = true := by kernel_rfl
def spec_SayRight.T9 : Bool × List (List Nat × List Nat) := (true, [([], []), ([0], [0]), ([1], [1]), ([2], [2]), ([3], [3]), ([4, 3], [3, 4]), ([5, 3], [3, 5]), ([3, 6], [3, 6]), ([7, 3], [7]), ([8], [8]), ([9, 8], [8, 9]), ([10, 8], [8, 10]), ([8, 11], [8, 11]), ([12, 8], [12]), ([13], [13]), ([14, 13], [13, 14]), ([15, 13], [13, 15]), ([16, 13], [13, 16]), ([13, 17], [13, 17]), ([18, 13], [18]), ([19], [19]), ([20, 19], [19, 20]), ([21, 19], [19, 21]), ([22, 19], [19, 22]), ([23, 19, 19], [19, 23]), ([19, 24], [19, 24]), ([25, 24], [25]), ([26], [26]), ([27, 26], [26, 27]), ([28, 26], [26, 28]), ([29, 26], [26, 29]), ([30, 26], [26, 30]), ([26], [26]), ([32, 26], [26, 32]), ([31, 33, 26], [26, 31, 33]), ([26, 34], [26, 34]), ([35, 26], [35]), ([36], [36]), ([37, 36], [36, 37]), ([38, 36], [36, 38]), ([39, 36], [36, 39]), ([40, 36], [36, 40]), ([36], [36]), ([42, 36], [36, 42]), ([41, 43, 36], [36, 41, 43]), ([36, 44], [36, 44]), ([45, 36, 0, 1, 2, 3, 4, 5, 6, 7, 8, 9, 10, 11, 12, 13, 14, 15, 16, 17, 18, 19, 20, 21, 22, 23, 24, 25, 26, 27, 28, 29, 30, 31, 32, 33, 34, 35, 36, 37, 38, 39, 40, 41, 42, 43, 44, 45], [45])])
def spec_SayRight.B9 : List Nat := [0, 1, 3, 7, 15, 31, 63, 127, 255, 511, 1023, 2047, 4095, 8191, 16383, 32767, 65535, 131071, 262143, 524287, 1048575, 2097151, 4194303, 8388607, 16777215, 33554431, 67108863, 134217727, 268435455, 536870911, 1073741823, 2147483647, 134217727, 4429185023, 17179869183, 34359738367, 68719476735, 137438953471, 274877906943, 549755813887, 1099511627775, 2199023255551, 137438953471, 4535485464575, 17592186044415, 35184372088831, 70368744177663]
theorem spec_SayRight.tab9 : rtab .any (opsOf Try.f7 9) = spec_SayRight.T9 := by kernel_rfl
theorem spec_SayRight.bits9 : waitsOk spec_SayRight.T9.2 spec_SayRight.B9 = true := by kernel_rfl
def spec_SayRight.T11 : Bool × List (List Nat × List Nat) := (true, [([], []), ([0], [0]), ([1], [1]), ([2], [2]), ([3], [3]), ([4, 3], [3, 4]), ([3], [3]), ([6, 3], [3, 6]), ([7, 3, 3], [3, 7]), ([5, 8, 3], [3, 5, 8]), ([3, 9], [3, 9]), ([10, 8], [10]), ([11], [11]), ([12, 11], [11, 12]), ([13, 11], [11, 13]), ([11, 14], [11, 14]), ([15, 11], [15]), ([16], [16]), ([17, 16], [16, 17]), ([18, 16], [16, 18]), ([16, 19], [16, 19]), ([20, 16], [20]), ([21], [21]), ([22, 21], [21, 22]), ([21], [21]), ([24, 21], [21, 24]), ([23, 25, 21, 21], [21, 23, 25]), ([21, 26], [21, 26]), ([27, 26, 0, 1, 2, 3, 4, 5, 6, 7, 8, 9, 10, 11, 12, 13, 14, 15, 16, 17, 18, 19, 20, 21, 22, 23, 24, 25, 26, 27], [27])])
def spec_SayRight.B11 : List Nat := [0, 1, 3, 7, 15, 31, 15, 79, 207, 511, 1023, 2047, 4095, 8191, 16383, 32767, 65535, 131071, 262143, 524287, 1048575, 2097151, 4194303, 8388607, 4194303, 20971519, 67108863, 134217727, 268435455]
theorem spec_SayRight.tab11 : rtab .any (opsOf Try.f7 11) = spec_SayRight.T11 := by kernel_rfl
theorem spec_SayRight.bits11 : waitsOk spec_SayRight.T11.2 spec_SayRight.B11 = true := by kernel_rfl
set_option maxHeartbeats 60000000 in
set_option maxRecDepth 100000 in
theorem spec_SayRight.calls (k : Nat) (a0_0 : Int) (a0_1 : Int) (a0_2 : Int) (a0_3 : Int) (a0_4 : ByteArray) (A0_5 : Option Addr) (c0_5 : Nat) (l0_5 : List (S41)) (r : Bool) (w : World) (hr0_5 : Kd.C k41 w A0_5 l0_5.length l0_5) (hc0_5 : l0_5.length ≤ c0_5) (h : spec_SayRight.f k a0_0 a0_1 a0_2 a0_3 a0_4 l0_5 = some r) :
    Calls Try.prog 7 #[.agg #[.int .i64 a0_0, .int .i64 a0_1, .int .i64 a0_2, .int .i64 a0_3, .string a0_4, .slice A0_5 l0_5.length c0_5]] w fun e w' => e = .returned (.bool r) ∧ Below w.heap.size w w' := by
 have hu29 := Try.underlying29
 have hu41 := Try.underlying41
 have HR0_5 := AM hr0_5
 have HC0_5 := AM hc0_5
 clear hr0_5 hc0_5
 have HB := AM (Below.refl w.heap.size w)
 have H : ((spec_l09Who.f a0_1).bind fun t102 => (if t102 = true then ((spec_l10View.f a0_2).bind fun t103 => (spec_SayRight.j0 k (!t103) a0_0 a0_1 a0_2 a0_3 a0_4 l0_5)) else (spec_SayRight.j0 k true a0_0 a0_1 a0_2 a0_3 a0_4 l0_5))) = some r := h
 clear h
 have HC2 := AM H
 clear H
 go_enter Try.func7, Try.ntmps7
 go_upto_region 1 with (first | ((with_reducible refine gate_dst (N := 1) rfl ?_); (try (refine gate_guard (by rfl) ?_; dsimp only)); refine box_event (by rfl) (N := 1) (by rfl) (cs := #[.int .i64 a0_0, .int .i64 a0_1, .int .i64 a0_2, .int .i64 a0_3, .string a0_4, .slice A0_5 l0_5.length c0_5]) (t := 29) (by first | (go_simp; done) | (go_simp; rfl)) ?_; intro gb101 hg w3 hbox hb; have n0_ := AM (below_step (by repeat (first | (with_reducible first | exact HB.out | apply bA | apply bN | apply bD) | exact HB.out)) hb); have n1_ := AM (hbox); have n2_ := AM ((by rw [hg]; exact (bZ (by repeat (first | (with_reducible first | exact HB.out | apply bA | apply bN | apply bD) | exact HB.out))) : w.heap.size ≤ gb101)); have n3_ := n2_; clear HB; have HB := n0_; have BK101 := n1_; have GW101 := n2_; have GE101 := n3_; clear n0_ n1_ n2_ n3_; clear hb hbox hg))
 (try simp only [Act.put, List.setIfInBounds_toArray, List.set_cons_zero, List.set_cons_succ])
 go_cut [12] (fun v12 wc => ∃ (kq : Nat) (x12_1 : Bool), v12 = .bool x12_1 ∧ Aside0 (spec_SayRight.j0 kq x12_1 a0_0 a0_1 a0_2 a0_3 a0_4 l0_5 = some r) ∧ Aside0 (kq ≤ k) ∧ Aside0 (wc.heap[gb101]? = some (.cells #[.int .i64 a0_0, .int .i64 a0_1, .int .i64 a0_2, .int .i64 a0_3, .string a0_4, (.slice A0_5 l0_5.length c0_5)] 29 (0, 0))) ∧ Aside0 (Below w.heap.size w wc))
 case first =>
  have H := HC2.out
  clear HC2
  replace H := Option.bind_eq_some_iff.mp H
  obtain ⟨t102, A40, H⟩ := H
  replace H : (if t102 = true then ((spec_l10View.f a0_2).bind fun t103 => (spec_SayRight.j0 k (!t103) a0_0 a0_1 a0_2 a0_3 a0_4 l0_5)) else (spec_SayRight.j0 k true a0_0 a0_1 a0_2 a0_3 a0_4 l0_5)) = some r := H
  have A4 := AM A40
  clear A40
  by_cases c5 : t102 = true
  ·
   subst c5
   have H1 : ((spec_l10View.f a0_2).bind fun t103 => (spec_SayRight.j0 k (!t103) a0_0 a0_1 a0_2 a0_3 a0_4 l0_5)) = some r := by rw [if_pos rfl] at H; exact H
   clear H
   have H := H1
   clear H1
   replace H := Option.bind_eq_some_iff.mp H
   obtain ⟨t103, A60, H⟩ := H
   replace H : (spec_SayRight.j0 k (!t103) a0_0 a0_1 a0_2 a0_3 a0_4 l0_5) = some r := H
   have A6 := AM A60
   clear A60
   have H' := AM H
   clear H
   have hcz7_0 : w3.cell? ⟨gb101, 0, none⟩ = some (.int .i64 a0_0) := (kC BK101.out 0).trans rfl
   have hcz7_1 : w3.cell? ⟨gb101, 1, none⟩ = some (.int .i64 a0_1) := (kC BK101.out 1).trans rfl
   have hcz7_2 : w3.cell? ⟨gb101, 2, none⟩ = some (.int .i64 a0_2) := (kC BK101.out 2).trans rfl
   have hcz7_3 : w3.cell? ⟨gb101, 3, none⟩ = some (.int .i64 a0_3) := (kC BK101.out 3).trans rfl
   have hcz7_4 : w3.cell? ⟨gb101, 4, none⟩ = some (.string a0_4) := (kC BK101.out 4).trans rfl
   have hcz7_5 : w3.cell? ⟨gb101, 5, none⟩ = some (.slice A0_5 l0_5.length c0_5) := (kC BK101.out 5).trans rfl
   have hfz7_0 := fZ BK101.out 0
   have hfz7_1 := fZ BK101.out 1
   have hfz7_2 := fZ BK101.out 2
   have hfz7_3 := fZ BK101.out 3
   have hfz7_4 := fZ BK101.out 4
   have hfz7_5 := fZ BK101.out 5
   go_wp2_with (first | ((with_reducible refine gate_callee (f := 16) rfl ?_); refine goesL_ (some 5) rfl rfl Try.func16 (by kernel_rfl) rfl #[.int .i64 a0_1] rfl (by (try simp only [mA, mB, mC]); first | done | rfl | (simp only [mD, mE]; rfl)) ?_; (with_reducible refine (spec_l09Who.calls a0_1 true _ A4.out).mono ?_); rintro e w' ⟨rfl, ⟨nd, rfl⟩⟩; refine ⟨_, rfl, ?_⟩) | (go_at_call 17; (with_reducible refine (spec_l10View.calls a0_2 t103 _ A6.out).mono ?_); rintro e w' ⟨rfl, ⟨nd, rfl⟩⟩))
   go_meet
   case rel => exact ⟨_, (!t103), (by first | rfl | (simp; done) | (simp [*]; done)), H', ⟨by first | omega | exact Nat.le_refl _⟩, ⟨by (with_reducible repeat (first | apply kN | apply kD | apply kA)); exact BK101.out⟩, ⟨by repeat (first | (with_reducible first | exact HB.out | apply bA | apply bN | apply bD | refine bS ?_ GE101.out) | exact HB.out)⟩⟩
  ·
   replace c5 := Bool.eq_false_iff.mpr c5
   subst c5
   have H1 : (spec_SayRight.j0 k true a0_0 a0_1 a0_2 a0_3 a0_4 l0_5) = some r := by rw [if_neg (show ¬ (false = true) by decide)] at H; exact H
   clear H
   have H := H1
   clear H1
   have H' := AM H
   clear H
   have hcz8_0 : w3.cell? ⟨gb101, 0, none⟩ = some (.int .i64 a0_0) := (kC BK101.out 0).trans rfl
   have hcz8_1 : w3.cell? ⟨gb101, 1, none⟩ = some (.int .i64 a0_1) := (kC BK101.out 1).trans rfl
   have hcz8_2 : w3.cell? ⟨gb101, 2, none⟩ = some (.int .i64 a0_2) := (kC BK101.out 2).trans rfl
   have hcz8_3 : w3.cell? ⟨gb101, 3, none⟩ = some (.int .i64 a0_3) := (kC BK101.out 3).trans rfl
   have hcz8_4 : w3.cell? ⟨gb101, 4, none⟩ = some (.string a0_4) := (kC BK101.out 4).trans rfl
   have hcz8_5 : w3.cell? ⟨gb101, 5, none⟩ = some (.slice A0_5 l0_5.length c0_5) := (kC BK101.out 5).trans rfl
   have hfz8_0 := fZ BK101.out 0
   have hfz8_1 := fZ BK101.out 1
   have hfz8_2 := fZ BK101.out 2
   have hfz8_3 := fZ BK101.out 3
   have hfz8_4 := fZ BK101.out 4
   have hfz8_5 := fZ BK101.out 5
   go_wp2_with (first | ((with_reducible refine gate_callee (f := 16) rfl ?_); refine goesL_ (some 5) rfl rfl Try.func16 (by kernel_rfl) rfl #[.int .i64 a0_1] rfl (by (try simp only [mA, mB, mC]); first | done | rfl | (simp only [mD, mE]; rfl)) ?_; (with_reducible refine (spec_l09Who.calls a0_1 false _ A4.out).mono ?_); rintro e w' ⟨rfl, ⟨nd, rfl⟩⟩; refine ⟨_, rfl, ?_⟩))
   go_meet
   case rel => exact ⟨_, (true), (by first | rfl | (simp; done) | (simp [*]; done)), H', ⟨by first | omega | exact Nat.le_refl _⟩, ⟨by (with_reducible repeat (first | apply kN | apply kD | apply kA)); exact BK101.out⟩, ⟨by repeat (first | (with_reducible first | exact HB.out | apply bA | apply bN | apply bD | refine bS ?_ GE101.out) | exact HB.out)⟩⟩
 case rest =>
  clear HC2
  try clear c1
  try clear p2
  try clear c5
  try clear c7
  try clear hcz7_0
  try clear hcz7_1
  try clear hcz7_2
  try clear hcz7_3
  try clear hcz7_4
  try clear hcz7_5
  try clear hcz8_0
  try clear hcz8_1
  try clear hcz8_2
  try clear hcz8_3
  try clear hcz8_4
  try clear hcz8_5
  try clear hfz7_0
  try clear hfz7_1
  try clear hfz7_2
  try clear hfz7_3
  try clear hfz7_4
  try clear hfz7_5
  try clear hfz8_0
  try clear hfz8_1
  try clear hfz8_2
  try clear hfz8_3
  try clear hfz8_4
  try clear hfz8_5
  obtain ⟨kq, x12_1, rfl, HA, HJ1, BK101, HB⟩ := hcut
  cases kq with
  | zero => exact absurd HA.out (by simp [spec_SayRight.j0])
  | succ kj1 =>
   have H := HA.out
   clear HA
   simp only [spec_SayRight.j0] at H
   by_cases c9 : x12_1 = true
   ·
    subst c9
    have H1 : (some false) = some r := by rw [if_pos rfl] at H; exact H
    clear H
    have H := H1
    clear H1
    obtain rfl := Option.some.inj H
    go_wp2
    go_ret
    exact ⟨by first | rfl | (simp [*, errW_none, errW_some] <;> rfl), by repeat (first | (with_reducible first | exact HB.out | apply bA | apply bN | apply bD | refine bS ?_ GE101.out) | exact HB.out)⟩
   ·
    replace c9 := Bool.eq_false_iff.mpr c9
    subst c9
    have H1 : (if a0_0 = 1 then (spec_SayRight.j1 kj1 a0_0 (a0_0 == 1) a0_0 a0_1 a0_2 a0_3 a0_4 l0_5) else (if a0_0 = 2 then (spec_SayRight.j1 kj1 a0_0 (a0_0 == 2) a0_0 a0_1 a0_2 a0_3 a0_4 l0_5) else (spec_SayRight.j1 kj1 a0_0 (a0_0 == 3) a0_0 a0_1 a0_2 a0_3 a0_4 l0_5))) = some r := by rw [if_neg (show ¬ (false = true) by decide)] at H; exact H
    clear H
    have H := H1
    clear H1
    have HC10 := AM H
    clear H
    have hcz11_0 : wc.cell? ⟨gb101, 0, none⟩ = some (.int .i64 a0_0) := (kC BK101.out 0).trans rfl
    have hcz11_1 : wc.cell? ⟨gb101, 1, none⟩ = some (.int .i64 a0_1) := (kC BK101.out 1).trans rfl
    have hcz11_2 : wc.cell? ⟨gb101, 2, none⟩ = some (.int .i64 a0_2) := (kC BK101.out 2).trans rfl
    have hcz11_3 : wc.cell? ⟨gb101, 3, none⟩ = some (.int .i64 a0_3) := (kC BK101.out 3).trans rfl
    have hcz11_4 : wc.cell? ⟨gb101, 4, none⟩ = some (.string a0_4) := (kC BK101.out 4).trans rfl
    have hcz11_5 : wc.cell? ⟨gb101, 5, none⟩ = some (.slice A0_5 l0_5.length c0_5) := (kC BK101.out 5).trans rfl
    have hfz11_0 := fZ BK101.out 0
    have hfz11_1 := fZ BK101.out 1
    have hfz11_2 := fZ BK101.out 2
    have hfz11_3 := fZ BK101.out 3
    have hfz11_4 := fZ BK101.out 4
    have hfz11_5 := fZ BK101.out 5
    go_upto_if 15 with (fail)
    go_cut [15] (fun v15 wc => ∃ (kq : Nat) (x15_9 : Bool), v15 = .bool x15_9 ∧ Aside0 (spec_SayRight.j1 kq a0_0 x15_9 a0_0 a0_1 a0_2 a0_3 a0_4 l0_5 = some r) ∧ Aside0 (kq ≤ kj1) ∧ Aside0 (wc.heap[gb101]? = some (.cells #[.int .i64 a0_0, .int .i64 a0_1, .int .i64 a0_2, .int .i64 a0_3, .string a0_4, (.slice A0_5 l0_5.length c0_5)] 29 (0, 0))) ∧ Aside0 (Below w.heap.size w wc))
    case first =>
     have H := HC10.out
     clear HC10
     by_cases c12 : a0_0 = 1
     ·
      rw [if_pos c12] at H
      have c12b0 : (a0_0 == 1) = true := beq_iff_eq.mpr c12
      have c12b1 : (a0_0 != 1) = false := bne_eq_false_iff_eq.mpr c12
      clear c12
      (first | rw [c12b0] | (simp only [i64_w, i32_w]; rw [c12b0]) | skip)
      have H' := AM H
      clear H
      go_wp2
      go_meet
      case rel => exact ⟨_, ((a0_0 == 1)), (by first | rfl | (simp; done) | (simp [*]; done)), H', ⟨by have := HJ1.out; first | omega | exact Nat.le_refl _⟩, ⟨by (with_reducible repeat (first | apply kN | apply kD | apply kA)); exact BK101.out⟩, ⟨by repeat (first | (with_reducible first | exact HB.out | apply bA | apply bN | apply bD | refine bS ?_ GE101.out) | exact HB.out)⟩⟩
     ·
      rw [if_neg c12] at H
      have c12b0 : (a0_0 == 1) = false := beq_eq_false_iff_ne.mpr c12
      have c12b1 : (a0_0 != 1) = true := bne_iff_ne.mpr c12
      (first | rw [c12b0] | (simp only [i64_w, i32_w]; rw [c12b0]) | skip)
      by_cases c13 : a0_0 = 2
      ·
       rw [if_pos c13] at H
       have c13b0 : (a0_0 == 2) = true := beq_iff_eq.mpr c13
       have c13b1 : (a0_0 != 2) = false := bne_eq_false_iff_eq.mpr c13
       clear c13
       have H' := AM H
       clear H
       go_wp2
       go_meet
       case rel => exact ⟨_, ((a0_0 == 2)), (by first | rfl | (simp; done) | (simp [*]; done)), H', ⟨by have := HJ1.out; first | omega | exact Nat.le_refl _⟩, ⟨by (with_reducible repeat (first | apply kN | apply kD | apply kA)); exact BK101.out⟩, ⟨by repeat (first | (with_reducible first | exact HB.out | apply bA | apply bN | apply bD | refine bS ?_ GE101.out) | exact HB.out)⟩⟩
      ·
       rw [if_neg c13] at H
       have c13b0 : (a0_0 == 2) = false := beq_eq_false_iff_ne.mpr c13
       have c13b1 : (a0_0 != 2) = true := bne_iff_ne.mpr c13
       have H' := AM H
       clear H
       go_wp2
       go_meet
       case rel => exact ⟨_, ((a0_0 == 3)), (by first | rfl | (simp; done) | (simp [*]; done)), H', ⟨by have := HJ1.out; first | omega | exact Nat.le_refl _⟩, ⟨by (with_reducible repeat (first | apply kN | apply kD | apply kA)); exact BK101.out⟩, ⟨by repeat (first | (with_reducible first | exact HB.out | apply bA | apply bN | apply bD | refine bS ?_ GE101.out) | exact HB.out)⟩⟩
    case rest =>
     clear HC10
     try clear c1
     try clear p2
     try clear c5
     try clear c7
     try clear c9
     try clear c12
     try clear c12b0
     try clear c12b1
     try clear c13
     try clear c13b0
     try clear c13b1
     try clear hcz11_0
     try clear hcz11_1
     try clear hcz11_2
     try clear hcz11_3
     try clear hcz11_4
     try clear hcz11_5
     try clear hcz7_0
     try clear hcz7_1
     try clear hcz7_2
     try clear hcz7_3
     try clear hcz7_4
     try clear hcz7_5
     try clear hcz8_0
     try clear hcz8_1
     try clear hcz8_2
     try clear hcz8_3
     try clear hcz8_4
     try clear hcz8_5
     try clear hfz11_0
     try clear hfz11_1
     try clear hfz11_2
     try clear hfz11_3
     try clear hfz11_4
     try clear hfz11_5
     try clear hfz7_0
     try clear hfz7_1
     try clear hfz7_2
     try clear hfz7_3
     try clear hfz7_4
     try clear hfz7_5
     try clear hfz8_0
     try clear hfz8_1
     try clear hfz8_2
     try clear hfz8_3
     try clear hfz8_4
     try clear hfz8_5
     try clear p2
     obtain ⟨kq, x15_9, rfl, HA, HJ9, BK101, HB⟩ := hcut
     cases kq with
     | zero => exact absurd HA.out (by simp [spec_SayRight.j1])
     | succ kj9 =>
      have H := HA.out
      clear HA
      simp only [spec_SayRight.j1] at H
      by_cases c14 : x15_9 = true
      ·
       subst c14
       have H1 : ((spec_l10Seq.f a0_3).bind fun t104 => (if t104 = true then ((spec_OpRight.f a0_4).bind fun t105 => (if t105 = true then (if (l0_5.length : Int) = 0 then (if a0_0 = 1 then ((spec_Leader.f a0_2).bind fun t106 => (some (a0_1 == t106))) else (some true)) else (some false)) else (some false))) else (some false))) = some r := by rw [if_pos rfl] at H; exact H
       clear H
       have H := H1
       clear H1
       replace H := Option.bind_eq_some_iff.mp H
       obtain ⟨t104, A150, H⟩ := H
       replace H : (if t104 = true then ((spec_OpRight.f a0_4).bind fun t105 => (if t105 = true then (if (l0_5.length : Int) = 0 then (if a0_0 = 1 then ((spec_Leader.f a0_2).bind fun t106 => (some (a0_1 == t106))) else (some true)) else (some false)) else (some false))) else (some false)) = some r := H
       have A15 := AM A150
       clear A150
       by_cases c16 : t104 = true
       ·
        subst c16
        have H1 : ((spec_OpRight.f a0_4).bind fun t105 => (if t105 = true then (if (l0_5.length : Int) = 0 then (if a0_0 = 1 then ((spec_Leader.f a0_2).bind fun t106 => (some (a0_1 == t106))) else (some true)) else (some false)) else (some false))) = some r := by rw [if_pos rfl] at H; exact H
        clear H
        have H := H1
        clear H1
        replace H := Option.bind_eq_some_iff.mp H
        obtain ⟨t105, A170, H⟩ := H
        replace H : (if t105 = true then (if (l0_5.length : Int) = 0 then (if a0_0 = 1 then ((spec_Leader.f a0_2).bind fun t106 => (some (a0_1 == t106))) else (some true)) else (some false)) else (some false)) = some r := H
        have A17 := AM A170
        clear A170
        by_cases c18 : t105 = true
        ·
         subst c18
         have H1 : (if (l0_5.length : Int) = 0 then (if a0_0 = 1 then ((spec_Leader.f a0_2).bind fun t106 => (some (a0_1 == t106))) else (some true)) else (some false)) = some r := by rw [if_pos rfl] at H; exact H
         clear H
         have H := H1
         clear H1
         by_cases c19 : (l0_5.length : Int) = 0
         ·
          rw [if_pos c19] at H
          have c19b0 : ((l0_5.length : Int) == 0) = true := beq_iff_eq.mpr c19
          have c19b1 : ((l0_5.length : Int) != 0) = false := bne_eq_false_iff_eq.mpr c19
          clear c19
          by_cases c20 : a0_0 = 1
          ·
           rw [if_pos c20] at H
           have c20b0 : (a0_0 == 1) = true := beq_iff_eq.mpr c20
           have c20b1 : (a0_0 != 1) = false := bne_eq_false_iff_eq.mpr c20
           clear c20
           replace H := Option.bind_eq_some_iff.mp H
           obtain ⟨t106, A210, H⟩ := H
           replace H : (some (a0_1 == t106)) = some r := H
           have A21 := AM A210
           clear A210
           obtain rfl := Option.some.inj H
           try go_wp2
           have n0_ := AM (kD BK101.out)
           have n1_ := AM (bD HB.out)
           clear BK101
           clear HB
           have BK101 := n0_
           have HB := n1_
           clear n0_ n1_
           refine start_ (n := 28) (S := fun w' => w'.cell? ⟨gb101, 0, none⟩ = some (.int .i64 a0_0) ∧ w'.cell? ⟨gb101, 1, none⟩ = some (.int .i64 a0_1) ∧ w'.cell? ⟨gb101, 2, none⟩ = some (.int .i64 a0_2) ∧ w'.cell? ⟨gb101, 3, none⟩ = some (.int .i64 a0_3) ∧ w'.cell? ⟨gb101, 4, none⟩ = some (.string a0_4) ∧ w'.cell? ⟨gb101, 5, none⟩ = some (.slice A0_5 l0_5.length c0_5)) (ds := []) (upTo 0 28) (by kernel_rfl) rfl rfl ⟨(kC BK101.out 0).trans rfl, (kC BK101.out 1).trans rfl, (kC BK101.out 2).trans rfl, (kC BK101.out 3).trans rfl, (kC BK101.out 4).trans rfl, (kC BK101.out 5).trans rfl⟩ (fun hHeld => ?_); refine with_tabW spec_SayRight.tab7 spec_SayRight.bits7 (fun HT_ HW_ => ?_)
           generalize wc.drew = w22 at BK101 HB hHeld ⊢
           refine pF 0 1 28 19 ?_
           refine pT2 1 20 (upTo 2 28) ?_ hHeld
           refine one_ (i := 2) (N := some 21) (upTo 3 28) rfl rfl (one_of HT_.out (by kernel_rfl)) (by decide) (fun K hK => ?_)
           refine goes_ Try.func18 (by kernel_rfl) rfl #[.int .i64 a0_3] (by rfl) rfl rfl (by (try simp only [mA, mB, mC]); first | done | rfl | (simp only [mD, mE]; rfl)) ?_
           with_reducible refine (spec_l10Seq.calls a0_3 true _ A15.out).mono ?_
           rintro e w' ⟨rfl, ⟨nd, rfl⟩⟩
           refine ⟨_, rfl, ?_⟩
           refine hK.out _ _ ⟨(kC BK101.out 0).trans rfl, (kC BK101.out 1).trans rfl, (kC BK101.out 2).trans rfl, (kC BK101.out 3).trans rfl, (kC BK101.out 4).trans rfl, (kC BK101.out 5).trans rfl⟩ (fun hHeld => ?_)
           clear hK K
           refine norm_ (a' := ?_) ?_ ?_
           rotate_left
           ·
            show Act.put _ (some 21) _ = _
            simp only [Act.put, sA, sB, sC, i64_w, i32_w]
            rfl
           refine pF 3 4 28 22 ?_
           refine pF 4 5 28 23 ?_
           refine pT2 5 24 (upTo 6 28) ?_ hHeld
           refine one_ (i := 6) (N := some 25) (upTo 7 28) rfl rfl (one_of HT_.out (by kernel_rfl)) (by decide) (fun K hK => ?_)
           refine goes_ Try.func19 (by kernel_rfl) rfl #[.string a0_4] (by rfl) rfl rfl (by (try simp only [mA, mB, mC]); first | done | rfl | (simp only [mD, mE]; rfl)) ?_
           with_reducible refine (spec_OpRight.calls a0_4 true _ A17.out).mono ?_
           rintro e w' ⟨rfl, ⟨nd, rfl⟩⟩
           refine ⟨_, rfl, ?_⟩
           refine hK.out _ _ ⟨(kC BK101.out 0).trans rfl, (kC BK101.out 1).trans rfl, (kC BK101.out 2).trans rfl, (kC BK101.out 3).trans rfl, (kC BK101.out 4).trans rfl, (kC BK101.out 5).trans rfl⟩ (fun hHeld => ?_)
           clear hK K
           refine norm_ (a' := ?_) ?_ ?_
           rotate_left
           ·
            show Act.put _ (some 25) _ = _
            simp only [Act.put, sA, sB, sC, i64_w, i32_w]
            rfl
           refine pF 7 8 28 26 ?_
           refine pF 8 9 28 27 ?_
           refine pF 9 10 28 28 ?_
           refine pT2 10 29 (upTo 11 28) ?_ hHeld
           refine pF 11 12 28 30 ?_
           refine pF 12 13 28 31 ?_
           refine pF 13 14 28 32 ?_
           refine pF 14 15 28 33 ?_
           refine pF 15 16 28 34 ?_
           refine pT2 16 35 (upTo 17 28) ?_ hHeld
           refine pF 17 18 28 36 ?_
           refine pF 18 19 28 37 ?_
           refine pF 19 20 28 38 ?_
           refine pF2 21 40 spec_SayRight.b0 ?_
           refine pT2 20 39 (upTo 22 28) ?_ hHeld
           refine pT2 22 41 (upTo 23 28) ?_ hHeld
           refine one_ (i := 23) (N := some 42) (upTo 24 28) rfl rfl (one_of HT_.out (by kernel_rfl)) (by decide) (fun K hK => ?_)
           refine goes_ Try.func20 (by kernel_rfl) rfl #[.int .i64 a0_2] (by rfl) rfl rfl (by (try simp only [mA, mB, mC]); first | done | rfl | (simp only [mD, mE]; rfl)) ?_
           with_reducible refine (spec_Leader.calls a0_2 t106 _ A21.out).mono ?_
           rintro e w' ⟨rfl, ⟨nd, rfl⟩⟩
           refine ⟨_, rfl, ?_⟩
           refine hK.out _ _ ⟨(kC BK101.out 0).trans rfl, (kC BK101.out 1).trans rfl, (kC BK101.out 2).trans rfl, (kC BK101.out 3).trans rfl, (kC BK101.out 4).trans rfl, (kC BK101.out 5).trans rfl⟩ (fun hHeld => ?_)
           clear hK K
           refine norm_ (a' := ?_) ?_ ?_
           rotate_left
           ·
            show Act.put _ (some 42) _ = _
            simp only [Act.put, sA, sB, sC, i64_w, i32_w]
            rfl
           refine pF 24 25 28 43 ?_
           refine pF 25 26 28 44 ?_
           refine pF 26 27 28 45 ?_
           refine pF 27 28 28 2 ?_
           refine done_ (done_of HT_.out (by kernel_rfl)) ?_
           try go_wp2
           go_ret
           exact ⟨by first | rfl | (simp [*, errW_none, errW_some] <;> rfl), by repeat (first | (with_reducible first | exact HB.out | apply bA | apply bN | apply bD | refine bS ?_ GE101.out) | exact HB.out)⟩
          ·
           rw [if_neg c20] at H
           have c20b0 : (a0_0 == 1) = false := beq_eq_false_iff_ne.mpr c20
           have c20b1 : (a0_0 != 1) = true := bne_iff_ne.mpr c20
           obtain rfl := Option.some.inj H
           try go_wp2
           have n0_ := AM (kD BK101.out)
           have n1_ := AM (bD HB.out)
           clear BK101
           clear HB
           have BK101 := n0_
           have HB := n1_
           clear n0_ n1_
           refine start_ (n := 28) (S := fun w' => w'.cell? ⟨gb101, 0, none⟩ = some (.int .i64 a0_0) ∧ w'.cell? ⟨gb101, 1, none⟩ = some (.int .i64 a0_1) ∧ w'.cell? ⟨gb101, 2, none⟩ = some (.int .i64 a0_2) ∧ w'.cell? ⟨gb101, 3, none⟩ = some (.int .i64 a0_3) ∧ w'.cell? ⟨gb101, 4, none⟩ = some (.string a0_4) ∧ w'.cell? ⟨gb101, 5, none⟩ = some (.slice A0_5 l0_5.length c0_5)) (ds := []) (upTo 0 28) (by kernel_rfl) rfl rfl ⟨(kC BK101.out 0).trans rfl, (kC BK101.out 1).trans rfl, (kC BK101.out 2).trans rfl, (kC BK101.out 3).trans rfl, (kC BK101.out 4).trans rfl, (kC BK101.out 5).trans rfl⟩ (fun hHeld => ?_); refine with_tabW spec_SayRight.tab7 spec_SayRight.bits7 (fun HT_ HW_ => ?_)
           generalize wc.drew = w23 at BK101 HB hHeld ⊢
           refine pF 0 1 28 19 ?_
           refine pT2 1 20 (upTo 2 28) ?_ hHeld
           refine one_ (i := 2) (N := some 21) (upTo 3 28) rfl rfl (one_of HT_.out (by kernel_rfl)) (by decide) (fun K hK => ?_)
           refine goes_ Try.func18 (by kernel_rfl) rfl #[.int .i64 a0_3] (by rfl) rfl rfl (by (try simp only [mA, mB, mC]); first | done | rfl | (simp only [mD, mE]; rfl)) ?_
           with_reducible refine (spec_l10Seq.calls a0_3 true _ A15.out).mono ?_
           rintro e w' ⟨rfl, ⟨nd, rfl⟩⟩
           refine ⟨_, rfl, ?_⟩
           refine hK.out _ _ ⟨(kC BK101.out 0).trans rfl, (kC BK101.out 1).trans rfl, (kC BK101.out 2).trans rfl, (kC BK101.out 3).trans rfl, (kC BK101.out 4).trans rfl, (kC BK101.out 5).trans rfl⟩ (fun hHeld => ?_)
           clear hK K
           refine norm_ (a' := ?_) ?_ ?_
           rotate_left
           ·
            show Act.put _ (some 21) _ = _
            simp only [Act.put, sA, sB, sC, i64_w, i32_w]
            rfl
           refine pF 3 4 28 22 ?_
           refine pF 4 5 28 23 ?_
           refine pT2 5 24 (upTo 6 28) ?_ hHeld
           refine one_ (i := 6) (N := some 25) (upTo 7 28) rfl rfl (one_of HT_.out (by kernel_rfl)) (by decide) (fun K hK => ?_)
           refine goes_ Try.func19 (by kernel_rfl) rfl #[.string a0_4] (by rfl) rfl rfl (by (try simp only [mA, mB, mC]); first | done | rfl | (simp only [mD, mE]; rfl)) ?_
           with_reducible refine (spec_OpRight.calls a0_4 true _ A17.out).mono ?_
           rintro e w' ⟨rfl, ⟨nd, rfl⟩⟩
           refine ⟨_, rfl, ?_⟩
           refine hK.out _ _ ⟨(kC BK101.out 0).trans rfl, (kC BK101.out 1).trans rfl, (kC BK101.out 2).trans rfl, (kC BK101.out 3).trans rfl, (kC BK101.out 4).trans rfl, (kC BK101.out 5).trans rfl⟩ (fun hHeld => ?_)
           clear hK K
           refine norm_ (a' := ?_) ?_ ?_
           rotate_left
           ·
            show Act.put _ (some 25) _ = _
            simp only [Act.put, sA, sB, sC, i64_w, i32_w]
            rfl
           refine pF 7 8 28 26 ?_
           refine pF 8 9 28 27 ?_
           refine pF 9 10 28 28 ?_
           refine pT2 10 29 (upTo 11 28) ?_ hHeld
           refine pF 11 12 28 30 ?_
           refine pF 12 13 28 31 ?_
           refine pF 13 14 28 32 ?_
           refine pF 14 15 28 33 ?_
           refine pF 15 16 28 34 ?_
           refine pT2 16 35 (upTo 17 28) ?_ hHeld
           refine pF 17 18 28 36 ?_
           refine pF 18 19 28 37 ?_
           refine pU 19 20 28 38 ?_
           refine pU 20 21 28 39 ?_
           refine pU 21 22 28 40 ?_
           refine pU 22 23 28 41 ?_
           refine pU 23 24 28 42 ?_
           refine pU 24 25 28 43 ?_
           refine pF 25 26 28 44 ?_
           refine pF 26 27 28 45 ?_
           refine pF 27 28 28 2 ?_
           refine done_ (done_of HT_.out (by kernel_rfl)) ?_
           try go_wp2
           go_ret
           exact ⟨by first | rfl | (simp [*, errW_none, errW_some] <;> rfl), by repeat (first | (with_reducible first | exact HB.out | apply bA | apply bN | apply bD | refine bS ?_ GE101.out) | exact HB.out)⟩
         ·
          rw [if_neg c19] at H
          have c19b0 : ((l0_5.length : Int) == 0) = false := beq_eq_false_iff_ne.mpr c19
          have c19b1 : ((l0_5.length : Int) != 0) = true := bne_iff_ne.mpr c19
          have c19b2 : ¬ (l0_5 = []) := fun h_ => c19 (by rw [h_]; rfl)
          obtain rfl := Option.some.inj H
          try go_wp2
          have n0_ := AM (kD BK101.out)
          have n1_ := AM (bD HB.out)
          clear BK101
          clear HB
          have BK101 := n0_
          have HB := n1_
          clear n0_ n1_
          refine start_ (n := 28) (S := fun w' => w'.cell? ⟨gb101, 0, none⟩ = some (.int .i64 a0_0) ∧ w'.cell? ⟨gb101, 1, none⟩ = some (.int .i64 a0_1) ∧ w'.cell? ⟨gb101, 2, none⟩ = some (.int .i64 a0_2) ∧ w'.cell? ⟨gb101, 3, none⟩ = some (.int .i64 a0_3) ∧ w'.cell? ⟨gb101, 4, none⟩ = some (.string a0_4) ∧ w'.cell? ⟨gb101, 5, none⟩ = some (.slice A0_5 l0_5.length c0_5)) (ds := []) (upTo 0 28) (by kernel_rfl) rfl rfl ⟨(kC BK101.out 0).trans rfl, (kC BK101.out 1).trans rfl, (kC BK101.out 2).trans rfl, (kC BK101.out 3).trans rfl, (kC BK101.out 4).trans rfl, (kC BK101.out 5).trans rfl⟩ (fun hHeld => ?_); refine with_tabW spec_SayRight.tab7 spec_SayRight.bits7 (fun HT_ HW_ => ?_)
          generalize wc.drew = w24 at BK101 HB hHeld ⊢
          refine pF 0 1 28 19 ?_
          refine pT2 1 20 (upTo 2 28) ?_ hHeld
          refine one_ (i := 2) (N := some 21) (upTo 3 28) rfl rfl (one_of HT_.out (by kernel_rfl)) (by decide) (fun K hK => ?_)
          refine goes_ Try.func18 (by kernel_rfl) rfl #[.int .i64 a0_3] (by rfl) rfl rfl (by (try simp only [mA, mB, mC]); first | done | rfl | (simp only [mD, mE]; rfl)) ?_
          with_reducible refine (spec_l10Seq.calls a0_3 true _ A15.out).mono ?_
          rintro e w' ⟨rfl, ⟨nd, rfl⟩⟩
          refine ⟨_, rfl, ?_⟩
          refine hK.out _ _ ⟨(kC BK101.out 0).trans rfl, (kC BK101.out 1).trans rfl, (kC BK101.out 2).trans rfl, (kC BK101.out 3).trans rfl, (kC BK101.out 4).trans rfl, (kC BK101.out 5).trans rfl⟩ (fun hHeld => ?_)
          clear hK K
          refine norm_ (a' := ?_) ?_ ?_
          rotate_left
          ·
           show Act.put _ (some 21) _ = _
           simp only [Act.put, sA, sB, sC, i64_w, i32_w]
           rfl
          refine pF 3 4 28 22 ?_
          refine pF 4 5 28 23 ?_
          refine pT2 5 24 (upTo 6 28) ?_ hHeld
          refine one_ (i := 6) (N := some 25) (upTo 7 28) rfl rfl (one_of HT_.out (by kernel_rfl)) (by decide) (fun K hK => ?_)
          refine goes_ Try.func19 (by kernel_rfl) rfl #[.string a0_4] (by rfl) rfl rfl (by (try simp only [mA, mB, mC]); first | done | rfl | (simp only [mD, mE]; rfl)) ?_
          with_reducible refine (spec_OpRight.calls a0_4 true _ A17.out).mono ?_
          rintro e w' ⟨rfl, ⟨nd, rfl⟩⟩
          refine ⟨_, rfl, ?_⟩
          refine hK.out _ _ ⟨(kC BK101.out 0).trans rfl, (kC BK101.out 1).trans rfl, (kC BK101.out 2).trans rfl, (kC BK101.out 3).trans rfl, (kC BK101.out 4).trans rfl, (kC BK101.out 5).trans rfl⟩ (fun hHeld => ?_)
          clear hK K
          refine norm_ (a' := ?_) ?_ ?_
          rotate_left
          ·
           show Act.put _ (some 25) _ = _
           simp only [Act.put, sA, sB, sC, i64_w, i32_w]
           rfl
          refine pF 7 8 28 26 ?_
          refine pF 8 9 28 27 ?_
          refine pF 9 10 28 28 ?_
          refine pT2 10 29 (upTo 11 28) ?_ hHeld
          refine pF 11 12 28 30 ?_
          refine pF 12 13 28 31 ?_
          refine pF 13 14 28 32 ?_
          refine pF 14 15 28 33 ?_
          refine pU 15 16 28 34 ?_
          refine pU 16 17 28 35 ?_
          refine pU 17 18 28 36 ?_
          refine pU 18 19 28 37 ?_
          refine pU 19 20 28 38 ?_
          refine pU 20 21 28 39 ?_
          refine pU 21 22 28 40 ?_
          refine pU 22 23 28 41 ?_
          refine pU 23 24 28 42 ?_
          refine pU 24 25 28 43 ?_
          refine pU 25 26 28 44 ?_
          refine pF 26 27 28 45 ?_
          refine pF 27 28 28 2 ?_
          refine done_ (done_of HT_.out (by kernel_rfl)) ?_
          try go_wp2
          go_ret
          exact ⟨by first | rfl | (simp [*, errW_none, errW_some] <;> rfl), by repeat (first | (with_reducible first | exact HB.out | apply bA | apply bN | apply bD | refine bS ?_ GE101.out) | exact HB.out)⟩
        ·
         replace c18 := Bool.eq_false_iff.mpr c18
         subst c18
         have H1 : (some false) = some r := by rw [if_neg (show ¬ (false = true) by decide)] at H; exact H
         clear H
         have H := H1
         clear H1
         obtain rfl := Option.some.inj H
         try go_wp2
         have n0_ := AM (kD BK101.out)
         have n1_ := AM (bD HB.out)
         clear BK101
         clear HB
         have BK101 := n0_
         have HB := n1_
         clear n0_ n1_
         refine start_ (n := 28) (S := fun w' => w'.cell? ⟨gb101, 0, none⟩ = some (.int .i64 a0_0) ∧ w'.cell? ⟨gb101, 1, none⟩ = some (.int .i64 a0_1) ∧ w'.cell? ⟨gb101, 2, none⟩ = some (.int .i64 a0_2) ∧ w'.cell? ⟨gb101, 3, none⟩ = some (.int .i64 a0_3) ∧ w'.cell? ⟨gb101, 4, none⟩ = some (.string a0_4) ∧ w'.cell? ⟨gb101, 5, none⟩ = some (.slice A0_5 l0_5.length c0_5)) (ds := []) (upTo 0 28) (by kernel_rfl) rfl rfl ⟨(kC BK101.out 0).trans rfl, (kC BK101.out 1).trans rfl, (kC BK101.out 2).trans rfl, (kC BK101.out 3).trans rfl, (kC BK101.out 4).trans rfl, (kC BK101.out 5).trans rfl⟩ (fun hHeld => ?_); refine with_tabW spec_SayRight.tab7 spec_SayRight.bits7 (fun HT_ HW_ => ?_)
         generalize wc.drew = w25 at BK101 HB hHeld ⊢
         refine pF 0 1 28 19 ?_
         refine pT2 1 20 (upTo 2 28) ?_ hHeld
         refine one_ (i := 2) (N := some 21) (upTo 3 28) rfl rfl (one_of HT_.out (by kernel_rfl)) (by decide) (fun K hK => ?_)
         refine goes_ Try.func18 (by kernel_rfl) rfl #[.int .i64 a0_3] (by rfl) rfl rfl (by (try simp only [mA, mB, mC]); first | done | rfl | (simp only [mD, mE]; rfl)) ?_
         with_reducible refine (spec_l10Seq.calls a0_3 true _ A15.out).mono ?_
         rintro e w' ⟨rfl, ⟨nd, rfl⟩⟩
         refine ⟨_, rfl, ?_⟩
         refine hK.out _ _ ⟨(kC BK101.out 0).trans rfl, (kC BK101.out 1).trans rfl, (kC BK101.out 2).trans rfl, (kC BK101.out 3).trans rfl, (kC BK101.out 4).trans rfl, (kC BK101.out 5).trans rfl⟩ (fun hHeld => ?_)
         clear hK K
         refine norm_ (a' := ?_) ?_ ?_
         rotate_left
         ·
          show Act.put _ (some 21) _ = _
          simp only [Act.put, sA, sB, sC, i64_w, i32_w]
          rfl
         refine pF 3 4 28 22 ?_
         refine pF 4 5 28 23 ?_
         refine pT2 5 24 (upTo 6 28) ?_ hHeld
         refine one_ (i := 6) (N := some 25) (upTo 7 28) rfl rfl (one_of HT_.out (by kernel_rfl)) (by decide) (fun K hK => ?_)
         refine goes_ Try.func19 (by kernel_rfl) rfl #[.string a0_4] (by rfl) rfl rfl (by (try simp only [mA, mB, mC]); first | done | rfl | (simp only [mD, mE]; rfl)) ?_
         with_reducible refine (spec_OpRight.calls a0_4 false _ A17.out).mono ?_
         rintro e w' ⟨rfl, ⟨nd, rfl⟩⟩
         refine ⟨_, rfl, ?_⟩
         refine hK.out _ _ ⟨(kC BK101.out 0).trans rfl, (kC BK101.out 1).trans rfl, (kC BK101.out 2).trans rfl, (kC BK101.out 3).trans rfl, (kC BK101.out 4).trans rfl, (kC BK101.out 5).trans rfl⟩ (fun hHeld => ?_)
         clear hK K
         refine norm_ (a' := ?_) ?_ ?_
         rotate_left
         ·
          show Act.put _ (some 25) _ = _
          simp only [Act.put, sA, sB, sC, i64_w, i32_w]
          rfl
         refine pF 7 8 28 26 ?_
         refine pF 8 9 28 27 ?_
         refine pU 9 10 28 28 ?_
         refine pU 10 11 28 29 ?_
         refine pU 11 12 28 30 ?_
         refine pU 12 13 28 31 ?_
         refine pF 13 14 28 32 ?_
         refine pF 14 15 28 33 ?_
         refine pU 15 16 28 34 ?_
         refine pU 16 17 28 35 ?_
         refine pU 17 18 28 36 ?_
         refine pU 18 19 28 37 ?_
         refine pU 19 20 28 38 ?_
         refine pU 20 21 28 39 ?_
         refine pU 21 22 28 40 ?_
         refine pU 22 23 28 41 ?_
         refine pU 23 24 28 42 ?_
         refine pU 24 25 28 43 ?_
         refine pU 25 26 28 44 ?_
         refine pF 26 27 28 45 ?_
         refine pF 27 28 28 2 ?_
         refine done_ (done_of HT_.out (by kernel_rfl)) ?_
         try go_wp2
         go_ret
         exact ⟨by first | rfl | (simp [*, errW_none, errW_some] <;> rfl), by repeat (first | (with_reducible first | exact HB.out | apply bA | apply bN | apply bD | refine bS ?_ GE101.out) | exact HB.out)⟩
       ·
        replace c16 := Bool.eq_false_iff.mpr c16
        subst c16
        have H1 : (some false) = some r := by rw [if_neg (show ¬ (false = true) by decide)] at H; exact H
        clear H
        have H := H1
        clear H1
        obtain rfl := Option.some.inj H
        try go_wp2
        have n0_ := AM (kD BK101.out)
        have n1_ := AM (bD HB.out)
        clear BK101
        clear HB
        have BK101 := n0_
        have HB := n1_
        clear n0_ n1_
        refine start_ (n := 28) (S := fun w' => w'.cell? ⟨gb101, 0, none⟩ = some (.int .i64 a0_0) ∧ w'.cell? ⟨gb101, 1, none⟩ = some (.int .i64 a0_1) ∧ w'.cell? ⟨gb101, 2, none⟩ = some (.int .i64 a0_2) ∧ w'.cell? ⟨gb101, 3, none⟩ = some (.int .i64 a0_3) ∧ w'.cell? ⟨gb101, 4, none⟩ = some (.string a0_4) ∧ w'.cell? ⟨gb101, 5, none⟩ = some (.slice A0_5 l0_5.length c0_5)) (ds := []) (upTo 0 28) (by kernel_rfl) rfl rfl ⟨(kC BK101.out 0).trans rfl, (kC BK101.out 1).trans rfl, (kC BK101.out 2).trans rfl, (kC BK101.out 3).trans rfl, (kC BK101.out 4).trans rfl, (kC BK101.out 5).trans rfl⟩ (fun hHeld => ?_); refine with_tabW spec_SayRight.tab7 spec_SayRight.bits7 (fun HT_ HW_ => ?_)
        generalize wc.drew = w26 at BK101 HB hHeld ⊢
        refine pF 0 1 28 19 ?_
        refine pT2 1 20 (upTo 2 28) ?_ hHeld
        refine one_ (i := 2) (N := some 21) (upTo 3 28) rfl rfl (one_of HT_.out (by kernel_rfl)) (by decide) (fun K hK => ?_)
        refine goes_ Try.func18 (by kernel_rfl) rfl #[.int .i64 a0_3] (by rfl) rfl rfl (by (try simp only [mA, mB, mC]); first | done | rfl | (simp only [mD, mE]; rfl)) ?_
        with_reducible refine (spec_l10Seq.calls a0_3 false _ A15.out).mono ?_
        rintro e w' ⟨rfl, ⟨nd, rfl⟩⟩
        refine ⟨_, rfl, ?_⟩
        refine hK.out _ _ ⟨(kC BK101.out 0).trans rfl, (kC BK101.out 1).trans rfl, (kC BK101.out 2).trans rfl, (kC BK101.out 3).trans rfl, (kC BK101.out 4).trans rfl, (kC BK101.out 5).trans rfl⟩ (fun hHeld => ?_)
        clear hK K
        refine norm_ (a' := ?_) ?_ ?_
        rotate_left
        ·
         show Act.put _ (some 21) _ = _
         simp only [Act.put, sA, sB, sC, i64_w, i32_w]
         rfl
        refine pF 3 4 28 22 ?_
        refine pU 4 5 28 23 ?_
        refine pU 5 6 28 24 ?_
        refine pU 6 7 28 25 ?_
        refine pF 7 8 28 26 ?_
        refine pF 8 9 28 27 ?_
        refine pU 9 10 28 28 ?_
        refine pU 10 11 28 29 ?_
        refine pU 11 12 28 30 ?_
        refine pU 12 13 28 31 ?_
        refine pF 13 14 28 32 ?_
        refine pF 14 15 28 33 ?_
        refine pU 15 16 28 34 ?_
        refine pU 16 17 28 35 ?_
        refine pU 17 18 28 36 ?_
        refine pU 18 19 28 37 ?_
        refine pU 19 20 28 38 ?_
        refine pU 20 21 28 39 ?_
        refine pU 21 22 28 40 ?_
        refine pU 22 23 28 41 ?_
        refine pU 23 24 28 42 ?_
        refine pU 24 25 28 43 ?_
        refine pU 25 26 28 44 ?_
        refine pF 26 27 28 45 ?_
        refine pF 27 28 28 2 ?_
        refine done_ (done_of HT_.out (by kernel_rfl)) ?_
        try go_wp2
        go_ret
        exact ⟨by first | rfl | (simp [*, errW_none, errW_some] <;> rfl), by repeat (first | (with_reducible first | exact HB.out | apply bA | apply bN | apply bD | refine bS ?_ GE101.out) | exact HB.out)⟩
      ·
       replace c14 := Bool.eq_false_iff.mpr c14
       subst c14
       have H1 : (if a0_0 = 4 then (if a0_2 ≥ 1 then (if a0_3 = 0 then (if a0_4.toList = ([] : List UInt8) then (if (l0_5.length : Int) = 1 then (if 0 < (l0_5.length : Int) then ((spec_ChangeRight.f kj9 ((rd_T41 l0_5 0).f0) ((rd_T41 l0_5 0).f1) ((rd_T41 l0_5 0).f2)).bind fun t108 => (if t108 = true then (if ((rd_T41 l0_5 0).f0) = a0_1 then (some (((rd_T41 l0_5 0).f1) == a0_2)) else (some false)) else (some false))) else (none)) else (some false)) else (some false)) else (some false)) else (some false)) else (if a0_0 = 5 then (if a0_2 ≥ 1 then ((spec_Leader.f a0_2).bind fun t111 => (if a0_1 = t111 then (if a0_3 = 0 then (if a0_4.toList = ([] : List UInt8) then ((spec_l10Changes.f kj9 l0_5 a0_2).bind fun t112 => (some t112)) else (some false)) else (some false)) else (some false))) else (some false)) else (some false))) = some r := by rw [if_neg (show ¬ (false = true) by decide)] at H; exact H
       clear H
       have H := H1
       clear H1
       by_cases c27 : a0_0 = 4
       ·
        rw [if_pos c27] at H
        have c27b0 : (a0_0 == 4) = true := beq_iff_eq.mpr c27
        have c27b1 : (a0_0 != 4) = false := bne_eq_false_iff_eq.mpr c27
        clear c27
        by_cases c28 : a0_2 ≥ 1
        ·
         rw [if_pos c28] at H
         have c28b0 : decide (1 ≤ a0_2) = true := decide_eq_true c28
         clear c28
         by_cases c29 : a0_3 = 0
         ·
          rw [if_pos c29] at H
          have c29b0 : (a0_3 == 0) = true := beq_iff_eq.mpr c29
          have c29b1 : (a0_3 != 0) = false := bne_eq_false_iff_eq.mpr c29
          clear c29
          by_cases c30 : a0_4.toList = ([] : List UInt8)
          ·
           rw [if_pos c30] at H
           have c30b0 : (a0_4.toList == ([] : List UInt8)) = true := beq_iff_eq.mpr c30
           have c30b1 : (a0_4.toList != ([] : List UInt8)) = false := bne_eq_false_iff_eq.mpr c30
           clear c30
           by_cases c31 : (l0_5.length : Int) = 1
           ·
            rw [if_pos c31] at H
            have c31b0 : ((l0_5.length : Int) == 1) = true := beq_iff_eq.mpr c31
            have c31b1 : ((l0_5.length : Int) != 1) = false := bne_eq_false_iff_eq.mpr c31
            clear c31
            by_cases c32 : 0 < (l0_5.length : Int)
            ·
             rw [if_pos c32] at H
             have c32b0 : decide (0 < (l0_5.length : Int)) = true := decide_eq_true c32
             have c32b1 : decide (0 < l0_5.length) = true := decide_eq_true (by omega)
             clear c32
             replace H := Option.bind_eq_some_iff.mp H
             obtain ⟨t108, A330, H⟩ := H
             replace H : (if t108 = true then (if ((rd_T41 l0_5 0).f0) = a0_1 then (some (((rd_T41 l0_5 0).f1) == a0_2)) else (some false)) else (some false)) = some r := H
             have A33 := AM A330
             clear A330
             by_cases c34 : t108 = true
             ·
              subst c34
              have H1 : (if ((rd_T41 l0_5 0).f0) = a0_1 then (some (((rd_T41 l0_5 0).f1) == a0_2)) else (some false)) = some r := by rw [if_pos rfl] at H; exact H
              clear H
              have H := H1
              clear H1
              by_cases c35 : ((rd_T41 l0_5 0).f0) = a0_1
              ·
               rw [if_pos c35] at H
               have c35b0 : (((rd_T41 l0_5 0).f0) == a0_1) = true := beq_iff_eq.mpr c35
               have c35b1 : (((rd_T41 l0_5 0).f0) != a0_1) = false := bne_eq_false_iff_eq.mpr c35
               clear c35
               obtain rfl := Option.some.inj H
               try go_wp2
               have n0_ := AM (kD BK101.out)
               have n1_ := AM (bD HB.out)
               clear BK101
               clear HB
               have BK101 := n0_
               have HB := n1_
               clear n0_ n1_
               have p107 : 0 ≤ (0 : Int) := (by omega)
               have q107 : 0 < (l0_5.length : Int) := of_decide_eq_true (by assumption)
               obtain ⟨ad107, A107_2, c107_2, e107, hx107_0, hx107_1, hx107_2, hl107_2, hi107_2⟩ := at_T41 HR0_5.out 0 p107 q107
               have hw107_2 := hx107_2
               (try rw [show ((0 : Int)).toNat = 0 from rfl] at hw107_2)
               (try rw [show 0 * 3 = 0 from rfl] at hw107_2)
               (try rw [Addr.add_zero'] at hw107_2)
               have hw107_1 := hx107_1
               (try rw [show ((0 : Int)).toNat = 0 from rfl] at hw107_1)
               (try rw [show 0 * 3 = 0 from rfl] at hw107_1)
               (try rw [Addr.add_zero'] at hw107_1)
               have hw107_0 := hx107_0
               (try rw [show ((0 : Int)).toNat = 0 from rfl] at hw107_0)
               (try rw [show 0 * 3 = 0 from rfl] at hw107_0)
               (try rw [Addr.add_zero'] at hw107_0)
               cases e107
               have qi107 : (0 < l0_5.length) = True := eq_true (by omega)
               (try rw [show ((0 : Int)).toNat = 0 from rfl] at hx107_0)
               (try rw [show 0 * 3 = 0 from rfl] at hx107_0)
               (try rw [Addr.add_zero'] at hx107_0)
               (try rw [show ((0 : Int)).toNat = 0 from rfl] at hx107_1)
               (try rw [show 0 * 3 = 0 from rfl] at hx107_1)
               (try rw [Addr.add_zero'] at hx107_1)
               (try rw [show ((0 : Int)).toNat = 0 from rfl] at hx107_2)
               (try rw [show 0 * 3 = 0 from rfl] at hx107_2)
               (try rw [Addr.add_zero'] at hx107_2)
               replace hx107_0 := pw_cell_below HB.out hx107_0
               replace hx107_1 := pw_cell_below HB.out hx107_1
               replace hx107_2 := pw_cell_below HB.out hx107_2
               have HR107_2 := AM hi107_2
               have HC107_2 := AM hl107_2
               clear hi107_2 hl107_2
               replace p107 := eq_true p107
               replace q107 := eq_true q107
               have p109 : 0 ≤ (0 : Int) := (by omega)
               have q109 : 0 < (l0_5.length : Int) := of_decide_eq_true (by assumption)
               obtain ⟨ad109, A109_2, c109_2, e109, hx109_0, hx109_1, hx109_2, hl109_2, hi109_2⟩ := at_T41 HR0_5.out 0 p109 q109
               have hw109_2 := hx109_2
               (try rw [show ((0 : Int)).toNat = 0 from rfl] at hw109_2)
               (try rw [show 0 * 3 = 0 from rfl] at hw109_2)
               (try rw [Addr.add_zero'] at hw109_2)
               have hw109_1 := hx109_1
               (try rw [show ((0 : Int)).toNat = 0 from rfl] at hw109_1)
               (try rw [show 0 * 3 = 0 from rfl] at hw109_1)
               (try rw [Addr.add_zero'] at hw109_1)
               have hw109_0 := hx109_0
               (try rw [show ((0 : Int)).toNat = 0 from rfl] at hw109_0)
               (try rw [show 0 * 3 = 0 from rfl] at hw109_0)
               (try rw [Addr.add_zero'] at hw109_0)
               obtain rfl : ad107 = ad109 := (by injection e109)
               have qi109 : (0 < l0_5.length) = True := eq_true (by omega)
               (try rw [show ((0 : Int)).toNat = 0 from rfl] at hx109_0)
               (try rw [show 0 * 3 = 0 from rfl] at hx109_0)
               (try rw [Addr.add_zero'] at hx109_0)
               (try rw [show ((0 : Int)).toNat = 0 from rfl] at hx109_1)
               (try rw [show 0 * 3 = 0 from rfl] at hx109_1)
               (try rw [Addr.add_zero'] at hx109_1)
               (try rw [show ((0 : Int)).toNat = 0 from rfl] at hx109_2)
               (try rw [show 0 * 3 = 0 from rfl] at hx109_2)
               (try rw [Addr.add_zero'] at hx109_2)
               replace hx109_0 := pw_cell_below HB.out hx109_0
               replace hx109_1 := pw_cell_below HB.out hx109_1
               replace hx109_2 := pw_cell_below HB.out hx109_2
               have HR109_2 := AM hi109_2
               have HC109_2 := AM hl109_2
               clear hi109_2 hl109_2
               replace p109 := eq_true p109
               replace q109 := eq_true q109
               have p110 : 0 ≤ (0 : Int) := (by omega)
               have q110 : 0 < (l0_5.length : Int) := of_decide_eq_true (by assumption)
               obtain ⟨ad110, A110_2, c110_2, e110, hx110_0, hx110_1, hx110_2, hl110_2, hi110_2⟩ := at_T41 HR0_5.out 0 p110 q110
               have hw110_2 := hx110_2
               (try rw [show ((0 : Int)).toNat = 0 from rfl] at hw110_2)
               (try rw [show 0 * 3 = 0 from rfl] at hw110_2)
               (try rw [Addr.add_zero'] at hw110_2)
               have hw110_1 := hx110_1
               (try rw [show ((0 : Int)).toNat = 0 from rfl] at hw110_1)
               (try rw [show 0 * 3 = 0 from rfl] at hw110_1)
               (try rw [Addr.add_zero'] at hw110_1)
               have hw110_0 := hx110_0
               (try rw [show ((0 : Int)).toNat = 0 from rfl] at hw110_0)
               (try rw [show 0 * 3 = 0 from rfl] at hw110_0)
               (try rw [Addr.add_zero'] at hw110_0)
               obtain rfl : ad107 = ad110 := (by injection e110)
               have qi110 : (0 < l0_5.length) = True := eq_true (by omega)
               (try rw [show ((0 : Int)).toNat = 0 from rfl] at hx110_0)
               (try rw [show 0 * 3 = 0 from rfl] at hx110_0)
               (try rw [Addr.add_zero'] at hx110_0)
               (try rw [show ((0 : Int)).toNat = 0 from rfl] at hx110_1)
               (try rw [show 0 * 3 = 0 from rfl] at hx110_1)
               (try rw [Addr.add_zero'] at hx110_1)
               (try rw [show ((0 : Int)).toNat = 0 from rfl] at hx110_2)
               (try rw [show 0 * 3 = 0 from rfl] at hx110_2)
               (try rw [Addr.add_zero'] at hx110_2)
               replace hx110_0 := pw_cell_below HB.out hx110_0
               replace hx110_1 := pw_cell_below HB.out hx110_1
               replace hx110_2 := pw_cell_below HB.out hx110_2
               have HR110_2 := AM hi110_2
               have HC110_2 := AM hl110_2
               clear hi110_2 hl110_2
               replace p110 := eq_true p110
               replace q110 := eq_true q110
               have ea_ := Option.some.inj (hx109_2.symm.trans hx110_2)
               injection ea_ with ea_ en_ ec_
               subst ea_
               subst ec_
               clear en_
               refine start_ (n := 47) (S := fun w' => w'.cell? ⟨gb101, 0, none⟩ = some (.int .i64 a0_0) ∧ w'.cell? ⟨gb101, 1, none⟩ = some (.int .i64 a0_1) ∧ w'.cell? ⟨gb101, 2, none⟩ = some (.int .i64 a0_2) ∧ w'.cell? ⟨gb101, 3, none⟩ = some (.int .i64 a0_3) ∧ w'.cell? ⟨gb101, 4, none⟩ = some (.string a0_4) ∧ w'.cell? ⟨gb101, 5, none⟩ = some (.slice (some ad107) l0_5.length c0_5) ∧ w'.cell? ad107 = some (.int .i64 ((rd_T41 l0_5 0).f0)) ∧ w'.cell? ⟨ad107.block, ad107.off + 1, none⟩ = some (.int .i64 ((rd_T41 l0_5 0).f1)) ∧ w'.cell? ⟨ad107.block, ad107.off + 2, none⟩ = some (.slice A107_2 ((rd_T41 l0_5 0).f2).length c107_2) ∧ w'.cell? ad107 = some (.int .i64 ((rd_T41 l0_5 0).f0)) ∧ w'.cell? ⟨ad107.block, ad107.off + 1, none⟩ = some (.int .i64 ((rd_T41 l0_5 0).f1)) ∧ w'.cell? ⟨ad107.block, ad107.off + 2, none⟩ = some (.slice A109_2 ((rd_T41 l0_5 0).f2).length c109_2) ∧ w'.cell? ad107 = some (.int .i64 ((rd_T41 l0_5 0).f0)) ∧ w'.cell? ⟨ad107.block, ad107.off + 1, none⟩ = some (.int .i64 ((rd_T41 l0_5 0).f1)) ∧ w'.cell? ⟨ad107.block, ad107.off + 2, none⟩ = some (.slice A109_2 ((rd_T41 l0_5 0).f2).length c109_2)) (ds := []) (upTo 0 47) (by kernel_rfl) rfl rfl ⟨(kC BK101.out 0).trans rfl, (kC BK101.out 1).trans rfl, (kC BK101.out 2).trans rfl, (kC BK101.out 3).trans rfl, (kC BK101.out 4).trans rfl, (kC BK101.out 5).trans rfl, ((HB.out.cell (World.block_lt_of_cell? w _ hw107_0)).trans hw107_0), ((HB.out.cell (World.block_lt_of_cell? w _ hw107_1)).trans hw107_1), ((HB.out.cell (World.block_lt_of_cell? w _ hw107_2)).trans hw107_2), ((HB.out.cell (World.block_lt_of_cell? w _ hw109_0)).trans hw109_0), ((HB.out.cell (World.block_lt_of_cell? w _ hw109_1)).trans hw109_1), ((HB.out.cell (World.block_lt_of_cell? w _ hw109_2)).trans hw109_2), ((HB.out.cell (World.block_lt_of_cell? w _ hw110_0)).trans hw110_0), ((HB.out.cell (World.block_lt_of_cell? w _ hw110_1)).trans hw110_1), ((HB.out.cell (World.block_lt_of_cell? w _ hw110_2)).trans hw110_2)⟩ (fun hHeld => ?_); refine with_tabW spec_SayRight.tab9 spec_SayRight.bits9 (fun HT_ HW_ => ?_)
               generalize wc.drew = w36 at BK101 HB HR107_2 HR109_2 HR110_2 hx107_0 hx107_1 hx107_2 hx109_0 hx109_1 hx109_2 hx110_0 hx110_1 hx110_2 hHeld ⊢
               refine pF 0 1 47 48 ?_
               refine pT2 1 49 (upTo 2 47) ?_ hHeld
               refine pF 2 3 47 50 ?_
               refine pF 3 4 47 51 ?_
               refine pF 4 5 47 52 ?_
               refine pT2 5 53 (upTo 6 47) ?_ hHeld
               refine pF 6 7 47 54 ?_
               refine pF 7 8 47 55 ?_
               refine pF 8 9 47 56 ?_
               refine pF 9 10 47 57 ?_
               refine pT2 10 58 (upTo 11 47) ?_ hHeld
               refine pF 11 12 47 59 ?_
               refine pF 12 13 47 60 ?_
               refine pF 13 14 47 61 ?_
               refine pF 14 15 47 62 ?_
               refine pT2 15 63 (upTo 16 47) ?_ hHeld
               refine pF 16 17 47 64 ?_
               refine pF 17 18 47 65 ?_
               refine pF 18 19 47 66 ?_
               refine pF 19 20 47 67 ?_
               refine pF 20 21 47 68 ?_
               refine pT2 21 69 (upTo 22 47) ?_ hHeld
               refine pF 22 23 47 70 ?_
               refine pT2 23 71 (upTo 24 47) ?_ hHeld
               refine one_ (i := 24) (N := some 72) (upTo 25 47) rfl rfl (one_of HT_.out (by kernel_rfl)) (by decide) (fun K hK => ?_)
               refine goes_ Try.func21 (by kernel_rfl) rfl #[.agg #[.int .i64 ((rd_T41 l0_5 0).f0), .int .i64 ((rd_T41 l0_5 0).f1), .slice A107_2 ((rd_T41 l0_5 0).f2).length c107_2]] (by rfl) rfl rfl (by (try simp only [mA, mB, mC]); first | done | rfl | (simp only [mD, mE]; rfl)) ?_
               with_reducible refine (spec_ChangeRight.calls kj9 ((rd_T41 l0_5 0).f0) ((rd_T41 l0_5 0).f1) _ _ ((rd_T41 l0_5 0).f2) true _ ?side1 ?side2 A33.out).mono ?_
               (case side1 => repeat (first | exact (cB HR107_2.out HB.out) | (with_reducible refine cA ?_ _) | (with_reducible refine cN ?_ _) | (with_reducible refine cD ?_)))
               (case side2 => exact HC107_2.out)
               rintro e w37 ⟨rfl, hb⟩
               refine ⟨_, rfl, ?_⟩
               have n0_ := AM (blk_below (g := gb101) (o := .cells #[.int .i64 a0_0, .int .i64 a0_1, .int .i64 a0_2, .int .i64 a0_3, .string a0_4, .slice (some ad107) l0_5.length c0_5] 29 (0, 0)) (by (with_reducible repeat (first | apply kN | apply kD | apply kA)); exact BK101.out) hb)
               have n1_ := AM (below_step (by repeat (first | (with_reducible first | exact HB.out | apply bA | apply bN | apply bD | refine bS ?_ GE101.out) | exact HB.out)) hb)
               clear BK101
               clear HB
               have BK101 := n0_
               have HB := n1_
               clear n0_ n1_
               (try clear hb)
               (try clear hb2)
               (try clear hk)
               (try clear hi)
               refine hK.out _ _ ⟨(kC BK101.out 0).trans rfl, (kC BK101.out 1).trans rfl, (kC BK101.out 2).trans rfl, (kC BK101.out 3).trans rfl, (kC BK101.out 4).trans rfl, (kC BK101.out 5).trans rfl, ((HB.out.cell (World.block_lt_of_cell? w _ hw107_0)).trans hw107_0), ((HB.out.cell (World.block_lt_of_cell? w _ hw107_1)).trans hw107_1), ((HB.out.cell (World.block_lt_of_cell? w _ hw107_2)).trans hw107_2), ((HB.out.cell (World.block_lt_of_cell? w _ hw109_0)).trans hw109_0), ((HB.out.cell (World.block_lt_of_cell? w _ hw109_1)).trans hw109_1), ((HB.out.cell (World.block_lt_of_cell? w _ hw109_2)).trans hw109_2), ((HB.out.cell (World.block_lt_of_cell? w _ hw110_0)).trans hw110_0), ((HB.out.cell (World.block_lt_of_cell? w _ hw110_1)).trans hw110_1), ((HB.out.cell (World.block_lt_of_cell? w _ hw110_2)).trans hw110_2)⟩ (fun hHeld => ?_)
               clear hK K
               refine norm_ (a' := ?_) ?_ ?_
               rotate_left
               ·
                show Act.put _ (some 72) _ = _
                simp only [Act.put, sA, sB, sC, i64_w, i32_w]
                rfl
               refine pF 25 26 47 73 ?_
               refine pF 26 27 47 74 ?_
               refine pF 27 28 47 75 ?_
               refine pF2 32 80 spec_SayRight.b1 ?_
               refine pT2 28 76 spec_SayRight.b2 ?_ hHeld
               refine pF2 29 77 spec_SayRight.b3 ?_
               refine pF2 30 78 spec_SayRight.b4 ?_
               refine pT2 31 79 (upTo 33 47) ?_ hHeld
               refine pT2 33 81 (upTo 34 47) ?_ hHeld
               refine pF 34 35 47 82 ?_
               refine pF 35 36 47 83 ?_
               refine pF 36 37 47 84 ?_
               refine pF 37 38 47 85 ?_
               refine pF2 42 90 spec_SayRight.b5 ?_
               refine pT2 38 86 spec_SayRight.b6 ?_ hHeld
               refine pF2 39 87 spec_SayRight.b7 ?_
               refine pF2 40 88 spec_SayRight.b8 ?_
               refine pT2 41 89 (upTo 43 47) ?_ hHeld
               refine pT2 43 91 (upTo 44 47) ?_ hHeld
               refine pF 44 45 47 92 ?_
               refine pF 45 46 47 93 ?_
               refine pF 46 47 47 2 ?_
               refine done_ (done_of HT_.out (by kernel_rfl)) ?_
               try go_wp2
               go_ret
               exact ⟨by first | rfl | (simp [*, errW_none, errW_some] <;> rfl), by repeat (first | (with_reducible first | exact HB.out | apply bA | apply bN | apply bD | refine bS ?_ GE101.out) | exact HB.out)⟩
              ·
               rw [if_neg c35] at H
               have c35b0 : (((rd_T41 l0_5 0).f0) == a0_1) = false := beq_eq_false_iff_ne.mpr c35
               have c35b1 : (((rd_T41 l0_5 0).f0) != a0_1) = true := bne_iff_ne.mpr c35
               obtain rfl := Option.some.inj H
               try go_wp2
               have n0_ := AM (kD BK101.out)
               have n1_ := AM (bD HB.out)
               clear BK101
               clear HB
               have BK101 := n0_
               have HB := n1_
               clear n0_ n1_
               have p107 : 0 ≤ (0 : Int) := (by omega)
               have q107 : 0 < (l0_5.length : Int) := of_decide_eq_true (by assumption)
               obtain ⟨ad107, A107_2, c107_2, e107, hx107_0, hx107_1, hx107_2, hl107_2, hi107_2⟩ := at_T41 HR0_5.out 0 p107 q107
               have hw107_2 := hx107_2
               (try rw [show ((0 : Int)).toNat = 0 from rfl] at hw107_2)
               (try rw [show 0 * 3 = 0 from rfl] at hw107_2)
               (try rw [Addr.add_zero'] at hw107_2)
               have hw107_1 := hx107_1
               (try rw [show ((0 : Int)).toNat = 0 from rfl] at hw107_1)
               (try rw [show 0 * 3 = 0 from rfl] at hw107_1)
               (try rw [Addr.add_zero'] at hw107_1)
               have hw107_0 := hx107_0
               (try rw [show ((0 : Int)).toNat = 0 from rfl] at hw107_0)
               (try rw [show 0 * 3 = 0 from rfl] at hw107_0)
               (try rw [Addr.add_zero'] at hw107_0)
               cases e107
               have qi107 : (0 < l0_5.length) = True := eq_true (by omega)
               (try rw [show ((0 : Int)).toNat = 0 from rfl] at hx107_0)
               (try rw [show 0 * 3 = 0 from rfl] at hx107_0)
               (try rw [Addr.add_zero'] at hx107_0)
               (try rw [show ((0 : Int)).toNat = 0 from rfl] at hx107_1)
               (try rw [show 0 * 3 = 0 from rfl] at hx107_1)
               (try rw [Addr.add_zero'] at hx107_1)
               (try rw [show ((0 : Int)).toNat = 0 from rfl] at hx107_2)
               (try rw [show 0 * 3 = 0 from rfl] at hx107_2)
               (try rw [Addr.add_zero'] at hx107_2)
               replace hx107_0 := pw_cell_below HB.out hx107_0
               replace hx107_1 := pw_cell_below HB.out hx107_1
               replace hx107_2 := pw_cell_below HB.out hx107_2
               have HR107_2 := AM hi107_2
               have HC107_2 := AM hl107_2
               clear hi107_2 hl107_2
               replace p107 := eq_true p107
               replace q107 := eq_true q107
               have p109 : 0 ≤ (0 : Int) := (by omega)
               have q109 : 0 < (l0_5.length : Int) := of_decide_eq_true (by assumption)
               obtain ⟨ad109, A109_2, c109_2, e109, hx109_0, hx109_1, hx109_2, hl109_2, hi109_2⟩ := at_T41 HR0_5.out 0 p109 q109
               have hw109_2 := hx109_2
               (try rw [show ((0 : Int)).toNat = 0 from rfl] at hw109_2)
               (try rw [show 0 * 3 = 0 from rfl] at hw109_2)
               (try rw [Addr.add_zero'] at hw109_2)
               have hw109_1 := hx109_1
               (try rw [show ((0 : Int)).toNat = 0 from rfl] at hw109_1)
               (try rw [show 0 * 3 = 0 from rfl] at hw109_1)
               (try rw [Addr.add_zero'] at hw109_1)
               have hw109_0 := hx109_0
               (try rw [show ((0 : Int)).toNat = 0 from rfl] at hw109_0)
               (try rw [show 0 * 3 = 0 from rfl] at hw109_0)
               (try rw [Addr.add_zero'] at hw109_0)
               obtain rfl : ad107 = ad109 := (by injection e109)
               have qi109 : (0 < l0_5.length) = True := eq_true (by omega)
               (try rw [show ((0 : Int)).toNat = 0 from rfl] at hx109_0)
               (try rw [show 0 * 3 = 0 from rfl] at hx109_0)
               (try rw [Addr.add_zero'] at hx109_0)
               (try rw [show ((0 : Int)).toNat = 0 from rfl] at hx109_1)
               (try rw [show 0 * 3 = 0 from rfl] at hx109_1)
               (try rw [Addr.add_zero'] at hx109_1)
               (try rw [show ((0 : Int)).toNat = 0 from rfl] at hx109_2)
               (try rw [show 0 * 3 = 0 from rfl] at hx109_2)
               (try rw [Addr.add_zero'] at hx109_2)
               replace hx109_0 := pw_cell_below HB.out hx109_0
               replace hx109_1 := pw_cell_below HB.out hx109_1
               replace hx109_2 := pw_cell_below HB.out hx109_2
               have HR109_2 := AM hi109_2
               have HC109_2 := AM hl109_2
               clear hi109_2 hl109_2
               replace p109 := eq_true p109
               replace q109 := eq_true q109
               refine start_ (n := 47) (S := fun w' => w'.cell? ⟨gb101, 0, none⟩ = some (.int .i64 a0_0) ∧ w'.cell? ⟨gb101, 1, none⟩ = some (.int .i64 a0_1) ∧ w'.cell? ⟨gb101, 2, none⟩ = some (.int .i64 a0_2) ∧ w'.cell? ⟨gb101, 3, none⟩ = some (.int .i64 a0_3) ∧ w'.cell? ⟨gb101, 4, none⟩ = some (.string a0_4) ∧ w'.cell? ⟨gb101, 5, none⟩ = some (.slice (some ad107) l0_5.length c0_5) ∧ w'.cell? ad107 = some (.int .i64 ((rd_T41 l0_5 0).f0)) ∧ w'.cell? ⟨ad107.block, ad107.off + 1, none⟩ = some (.int .i64 ((rd_T41 l0_5 0).f1)) ∧ w'.cell? ⟨ad107.block, ad107.off + 2, none⟩ = some (.slice A107_2 ((rd_T41 l0_5 0).f2).length c107_2) ∧ w'.cell? ad107 = some (.int .i64 ((rd_T41 l0_5 0).f0)) ∧ w'.cell? ⟨ad107.block, ad107.off + 1, none⟩ = some (.int .i64 ((rd_T41 l0_5 0).f1)) ∧ w'.cell? ⟨ad107.block, ad107.off + 2, none⟩ = some (.slice A109_2 ((rd_T41 l0_5 0).f2).length c109_2)) (ds := []) (upTo 0 47) (by kernel_rfl) rfl rfl ⟨(kC BK101.out 0).trans rfl, (kC BK101.out 1).trans rfl, (kC BK101.out 2).trans rfl, (kC BK101.out 3).trans rfl, (kC BK101.out 4).trans rfl, (kC BK101.out 5).trans rfl, ((HB.out.cell (World.block_lt_of_cell? w _ hw107_0)).trans hw107_0), ((HB.out.cell (World.block_lt_of_cell? w _ hw107_1)).trans hw107_1), ((HB.out.cell (World.block_lt_of_cell? w _ hw107_2)).trans hw107_2), ((HB.out.cell (World.block_lt_of_cell? w _ hw109_0)).trans hw109_0), ((HB.out.cell (World.block_lt_of_cell? w _ hw109_1)).trans hw109_1), ((HB.out.cell (World.block_lt_of_cell? w _ hw109_2)).trans hw109_2)⟩ (fun hHeld => ?_); refine with_tabW spec_SayRight.tab9 spec_SayRight.bits9 (fun HT_ HW_ => ?_)
               generalize wc.drew = w38 at BK101 HB HR107_2 HR109_2 hx107_0 hx107_1 hx107_2 hx109_0 hx109_1 hx109_2 hHeld ⊢
               refine pF 0 1 47 48 ?_
               refine pT2 1 49 (upTo 2 47) ?_ hHeld
               refine pF 2 3 47 50 ?_
               refine pF 3 4 47 51 ?_
               refine pF 4 5 47 52 ?_
               refine pT2 5 53 (upTo 6 47) ?_ hHeld
               refine pF 6 7 47 54 ?_
               refine pF 7 8 47 55 ?_
               refine pF 8 9 47 56 ?_
               refine pF 9 10 47 57 ?_
               refine pT2 10 58 (upTo 11 47) ?_ hHeld
               refine pF 11 12 47 59 ?_
               refine pF 12 13 47 60 ?_
               refine pF 13 14 47 61 ?_
               refine pF 14 15 47 62 ?_
               refine pT2 15 63 (upTo 16 47) ?_ hHeld
               refine pF 16 17 47 64 ?_
               refine pF 17 18 47 65 ?_
               refine pF 18 19 47 66 ?_
               refine pF 19 20 47 67 ?_
               refine pF 20 21 47 68 ?_
               refine pT2 21 69 (upTo 22 47) ?_ hHeld
               refine pF 22 23 47 70 ?_
               refine pT2 23 71 (upTo 24 47) ?_ hHeld
               refine one_ (i := 24) (N := some 72) (upTo 25 47) rfl rfl (one_of HT_.out (by kernel_rfl)) (by decide) (fun K hK => ?_)
               refine goes_ Try.func21 (by kernel_rfl) rfl #[.agg #[.int .i64 ((rd_T41 l0_5 0).f0), .int .i64 ((rd_T41 l0_5 0).f1), .slice A107_2 ((rd_T41 l0_5 0).f2).length c107_2]] (by rfl) rfl rfl (by (try simp only [mA, mB, mC]); first | done | rfl | (simp only [mD, mE]; rfl)) ?_
               with_reducible refine (spec_ChangeRight.calls kj9 ((rd_T41 l0_5 0).f0) ((rd_T41 l0_5 0).f1) _ _ ((rd_T41 l0_5 0).f2) true _ ?side1 ?side2 A33.out).mono ?_
               (case side1 => repeat (first | exact (cB HR107_2.out HB.out) | (with_reducible refine cA ?_ _) | (with_reducible refine cN ?_ _) | (with_reducible refine cD ?_)))
               (case side2 => exact HC107_2.out)
               rintro e w39 ⟨rfl, hb⟩
               refine ⟨_, rfl, ?_⟩
               have n0_ := AM (blk_below (g := gb101) (o := .cells #[.int .i64 a0_0, .int .i64 a0_1, .int .i64 a0_2, .int .i64 a0_3, .string a0_4, .slice (some ad107) l0_5.length c0_5] 29 (0, 0)) (by (with_reducible repeat (first | apply kN | apply kD | apply kA)); exact BK101.out) hb)
               have n1_ := AM (below_step (by repeat (first | (with_reducible first | exact HB.out | apply bA | apply bN | apply bD | refine bS ?_ GE101.out) | exact HB.out)) hb)
               clear BK101
               clear HB
               have BK101 := n0_
               have HB := n1_
               clear n0_ n1_
               (try clear hb)
               (try clear hb2)
               (try clear hk)
               (try clear hi)
               refine hK.out _ _ ⟨(kC BK101.out 0).trans rfl, (kC BK101.out 1).trans rfl, (kC BK101.out 2).trans rfl, (kC BK101.out 3).trans rfl, (kC BK101.out 4).trans rfl, (kC BK101.out 5).trans rfl, ((HB.out.cell (World.block_lt_of_cell? w _ hw107_0)).trans hw107_0), ((HB.out.cell (World.block_lt_of_cell? w _ hw107_1)).trans hw107_1), ((HB.out.cell (World.block_lt_of_cell? w _ hw107_2)).trans hw107_2), ((HB.out.cell (World.block_lt_of_cell? w _ hw109_0)).trans hw109_0), ((HB.out.cell (World.block_lt_of_cell? w _ hw109_1)).trans hw109_1), ((HB.out.cell (World.block_lt_of_cell? w _ hw109_2)).trans hw109_2)⟩ (fun hHeld => ?_)
               clear hK K
               refine norm_ (a' := ?_) ?_ ?_
               rotate_left
               ·
                show Act.put _ (some 72) _ = _
                simp only [Act.put, sA, sB, sC, i64_w, i32_w]
                rfl
               refine pF 25 26 47 73 ?_
               refine pF 26 27 47 74 ?_
               refine pF 27 28 47 75 ?_
               refine pF2 32 80 spec_SayRight.b1 ?_
               refine pT2 28 76 spec_SayRight.b2 ?_ hHeld
               refine pF2 29 77 spec_SayRight.b3 ?_
               refine pF2 30 78 spec_SayRight.b4 ?_
               refine pT2 31 79 (upTo 33 47) ?_ hHeld
               refine pT2 33 81 (upTo 34 47) ?_ hHeld
               refine pF 34 35 47 82 ?_
               refine pF 35 36 47 83 ?_
               refine pF 36 37 47 84 ?_
               refine pU 37 38 47 85 ?_
               refine pU 38 39 47 86 ?_
               refine pU 39 40 47 87 ?_
               refine pU 40 41 47 88 ?_
               refine pU 41 42 47 89 ?_
               refine pU 42 43 47 90 ?_
               refine pU 43 44 47 91 ?_
               refine pU 44 45 47 92 ?_
               refine pF 45 46 47 93 ?_
               refine pF 46 47 47 2 ?_
               refine done_ (done_of HT_.out (by kernel_rfl)) ?_
               try go_wp2
               go_ret
               exact ⟨by first | rfl | (simp [*, errW_none, errW_some] <;> rfl), by repeat (first | (with_reducible first | exact HB.out | apply bA | apply bN | apply bD | refine bS ?_ GE101.out) | exact HB.out)⟩
             ·
              replace c34 := Bool.eq_false_iff.mpr c34
              subst c34
              have H1 : (some false) = some r := by rw [if_neg (show ¬ (false = true) by decide)] at H; exact H
              clear H
              have H := H1
              clear H1
              obtain rfl := Option.some.inj H
              try go_wp2
              have n0_ := AM (kD BK101.out)
              have n1_ := AM (bD HB.out)
              clear BK101
              clear HB
              have BK101 := n0_
              have HB := n1_
              clear n0_ n1_
              have p107 : 0 ≤ (0 : Int) := (by omega)
              have q107 : 0 < (l0_5.length : Int) := of_decide_eq_true (by assumption)
              obtain ⟨ad107, A107_2, c107_2, e107, hx107_0, hx107_1, hx107_2, hl107_2, hi107_2⟩ := at_T41 HR0_5.out 0 p107 q107
              have hw107_2 := hx107_2
              (try rw [show ((0 : Int)).toNat = 0 from rfl] at hw107_2)
              (try rw [show 0 * 3 = 0 from rfl] at hw107_2)
              (try rw [Addr.add_zero'] at hw107_2)
              have hw107_1 := hx107_1
              (try rw [show ((0 : Int)).toNat = 0 from rfl] at hw107_1)
              (try rw [show 0 * 3 = 0 from rfl] at hw107_1)
              (try rw [Addr.add_zero'] at hw107_1)
              have hw107_0 := hx107_0
              (try rw [show ((0 : Int)).toNat = 0 from rfl] at hw107_0)
              (try rw [show 0 * 3 = 0 from rfl] at hw107_0)
              (try rw [Addr.add_zero'] at hw107_0)
              cases e107
              have qi107 : (0 < l0_5.length) = True := eq_true (by omega)
              (try rw [show ((0 : Int)).toNat = 0 from rfl] at hx107_0)
              (try rw [show 0 * 3 = 0 from rfl] at hx107_0)
              (try rw [Addr.add_zero'] at hx107_0)
              (try rw [show ((0 : Int)).toNat = 0 from rfl] at hx107_1)
              (try rw [show 0 * 3 = 0 from rfl] at hx107_1)
              (try rw [Addr.add_zero'] at hx107_1)
              (try rw [show ((0 : Int)).toNat = 0 from rfl] at hx107_2)
              (try rw [show 0 * 3 = 0 from rfl] at hx107_2)
              (try rw [Addr.add_zero'] at hx107_2)
              replace hx107_0 := pw_cell_below HB.out hx107_0
              replace hx107_1 := pw_cell_below HB.out hx107_1
              replace hx107_2 := pw_cell_below HB.out hx107_2
              have HR107_2 := AM hi107_2
              have HC107_2 := AM hl107_2
              clear hi107_2 hl107_2
              replace p107 := eq_true p107
              replace q107 := eq_true q107
              refine start_ (n := 47) (S := fun w' => w'.cell? ⟨gb101, 0, none⟩ = some (.int .i64 a0_0) ∧ w'.cell? ⟨gb101, 1, none⟩ = some (.int .i64 a0_1) ∧ w'.cell? ⟨gb101, 2, none⟩ = some (.int .i64 a0_2) ∧ w'.cell? ⟨gb101, 3, none⟩ = some (.int .i64 a0_3) ∧ w'.cell? ⟨gb101, 4, none⟩ = some (.string a0_4) ∧ w'.cell? ⟨gb101, 5, none⟩ = some (.slice (some ad107) l0_5.length c0_5) ∧ w'.cell? ad107 = some (.int .i64 ((rd_T41 l0_5 0).f0)) ∧ w'.cell? ⟨ad107.block, ad107.off + 1, none⟩ = some (.int .i64 ((rd_T41 l0_5 0).f1)) ∧ w'.cell? ⟨ad107.block, ad107.off + 2, none⟩ = some (.slice A107_2 ((rd_T41 l0_5 0).f2).length c107_2)) (ds := []) (upTo 0 47) (by kernel_rfl) rfl rfl ⟨(kC BK101.out 0).trans rfl, (kC BK101.out 1).trans rfl, (kC BK101.out 2).trans rfl, (kC BK101.out 3).trans rfl, (kC BK101.out 4).trans rfl, (kC BK101.out 5).trans rfl, ((HB.out.cell (World.block_lt_of_cell? w _ hw107_0)).trans hw107_0), ((HB.out.cell (World.block_lt_of_cell? w _ hw107_1)).trans hw107_1), ((HB.out.cell (World.block_lt_of_cell? w _ hw107_2)).trans hw107_2)⟩ (fun hHeld => ?_); refine with_tabW spec_SayRight.tab9 spec_SayRight.bits9 (fun HT_ HW_ => ?_)
              generalize wc.drew = w40 at BK101 HB HR107_2 hx107_0 hx107_1 hx107_2 hHeld ⊢
              refine pF 0 1 47 48 ?_
              refine pT2 1 49 (upTo 2 47) ?_ hHeld
              refine pF 2 3 47 50 ?_
              refine pF 3 4 47 51 ?_
              refine pF 4 5 47 52 ?_
              refine pT2 5 53 (upTo 6 47) ?_ hHeld
              refine pF 6 7 47 54 ?_
              refine pF 7 8 47 55 ?_
              refine pF 8 9 47 56 ?_
              refine pF 9 10 47 57 ?_
              refine pT2 10 58 (upTo 11 47) ?_ hHeld
              refine pF 11 12 47 59 ?_
              refine pF 12 13 47 60 ?_
              refine pF 13 14 47 61 ?_
              refine pF 14 15 47 62 ?_
              refine pT2 15 63 (upTo 16 47) ?_ hHeld
              refine pF 16 17 47 64 ?_
              refine pF 17 18 47 65 ?_
              refine pF 18 19 47 66 ?_
              refine pF 19 20 47 67 ?_
              refine pF 20 21 47 68 ?_
              refine pT2 21 69 (upTo 22 47) ?_ hHeld
              refine pF 22 23 47 70 ?_
              refine pT2 23 71 (upTo 24 47) ?_ hHeld
              refine one_ (i := 24) (N := some 72) (upTo 25 47) rfl rfl (one_of HT_.out (by kernel_rfl)) (by decide) (fun K hK => ?_)
              refine goes_ Try.func21 (by kernel_rfl) rfl #[.agg #[.int .i64 ((rd_T41 l0_5 0).f0), .int .i64 ((rd_T41 l0_5 0).f1), .slice A107_2 ((rd_T41 l0_5 0).f2).length c107_2]] (by rfl) rfl rfl (by (try simp only [mA, mB, mC]); first | done | rfl | (simp only [mD, mE]; rfl)) ?_
              with_reducible refine (spec_ChangeRight.calls kj9 ((rd_T41 l0_5 0).f0) ((rd_T41 l0_5 0).f1) _ _ ((rd_T41 l0_5 0).f2) false _ ?side1 ?side2 A33.out).mono ?_
              (case side1 => repeat (first | exact (cB HR107_2.out HB.out) | (with_reducible refine cA ?_ _) | (with_reducible refine cN ?_ _) | (with_reducible refine cD ?_)))
              (case side2 => exact HC107_2.out)
              rintro e w41 ⟨rfl, hb⟩
              refine ⟨_, rfl, ?_⟩
              have n0_ := AM (blk_below (g := gb101) (o := .cells #[.int .i64 a0_0, .int .i64 a0_1, .int .i64 a0_2, .int .i64 a0_3, .string a0_4, .slice (some ad107) l0_5.length c0_5] 29 (0, 0)) (by (with_reducible repeat (first | apply kN | apply kD | apply kA)); exact BK101.out) hb)
              have n1_ := AM (below_step (by repeat (first | (with_reducible first | exact HB.out | apply bA | apply bN | apply bD | refine bS ?_ GE101.out) | exact HB.out)) hb)
              clear BK101
              clear HB
              have BK101 := n0_
              have HB := n1_
              clear n0_ n1_
              (try clear hb)
              (try clear hb2)
              (try clear hk)
              (try clear hi)
              refine hK.out _ _ ⟨(kC BK101.out 0).trans rfl, (kC BK101.out 1).trans rfl, (kC BK101.out 2).trans rfl, (kC BK101.out 3).trans rfl, (kC BK101.out 4).trans rfl, (kC BK101.out 5).trans rfl, ((HB.out.cell (World.block_lt_of_cell? w _ hw107_0)).trans hw107_0), ((HB.out.cell (World.block_lt_of_cell? w _ hw107_1)).trans hw107_1), ((HB.out.cell (World.block_lt_of_cell? w _ hw107_2)).trans hw107_2)⟩ (fun hHeld => ?_)
              clear hK K
              refine norm_ (a' := ?_) ?_ ?_
              rotate_left
              ·
               show Act.put _ (some 72) _ = _
               simp only [Act.put, sA, sB, sC, i64_w, i32_w]
               rfl
              refine pF 25 26 47 73 ?_
              refine pF 26 27 47 74 ?_
              refine pU 27 28 47 75 ?_
              refine pU 28 29 47 76 ?_
              refine pU 29 30 47 77 ?_
              refine pU 30 31 47 78 ?_
              refine pU 31 32 47 79 ?_
              refine pU 32 33 47 80 ?_
              refine pU 33 34 47 81 ?_
              refine pU 34 35 47 82 ?_
              refine pF 35 36 47 83 ?_
              refine pF 36 37 47 84 ?_
              refine pU 37 38 47 85 ?_
              refine pU 38 39 47 86 ?_
              refine pU 39 40 47 87 ?_
              refine pU 40 41 47 88 ?_
              refine pU 41 42 47 89 ?_
              refine pU 42 43 47 90 ?_
              refine pU 43 44 47 91 ?_
              refine pU 44 45 47 92 ?_
              refine pF 45 46 47 93 ?_
              refine pF 46 47 47 2 ?_
              refine done_ (done_of HT_.out (by kernel_rfl)) ?_
              try go_wp2
              go_ret
              exact ⟨by first | rfl | (simp [*, errW_none, errW_some] <;> rfl), by repeat (first | (with_reducible first | exact HB.out | apply bA | apply bN | apply bD | refine bS ?_ GE101.out) | exact HB.out)⟩
            ·
             rw [if_neg c32] at H
             exact absurd H (by simp)
           ·
            rw [if_neg c31] at H
            have c31b0 : ((l0_5.length : Int) == 1) = false := beq_eq_false_iff_ne.mpr c31
            have c31b1 : ((l0_5.length : Int) != 1) = true := bne_iff_ne.mpr c31
            obtain rfl := Option.some.inj H
            try go_wp2
            have n0_ := AM (kD BK101.out)
            have n1_ := AM (bD HB.out)
            clear BK101
            clear HB
            have BK101 := n0_
            have HB := n1_
            clear n0_ n1_
            refine start_ (n := 47) (S := fun w' => w'.cell? ⟨gb101, 0, none⟩ = some (.int .i64 a0_0) ∧ w'.cell? ⟨gb101, 1, none⟩ = some (.int .i64 a0_1) ∧ w'.cell? ⟨gb101, 2, none⟩ = some (.int .i64 a0_2) ∧ w'.cell? ⟨gb101, 3, none⟩ = some (.int .i64 a0_3) ∧ w'.cell? ⟨gb101, 4, none⟩ = some (.string a0_4) ∧ w'.cell? ⟨gb101, 5, none⟩ = some (.slice A0_5 l0_5.length c0_5)) (ds := []) (upTo 0 47) (by kernel_rfl) rfl rfl ⟨(kC BK101.out 0).trans rfl, (kC BK101.out 1).trans rfl, (kC BK101.out 2).trans rfl, (kC BK101.out 3).trans rfl, (kC BK101.out 4).trans rfl, (kC BK101.out 5).trans rfl⟩ (fun hHeld => ?_); refine with_tabW spec_SayRight.tab9 spec_SayRight.bits9 (fun HT_ HW_ => ?_)
            generalize wc.drew = w42 at BK101 HB hHeld ⊢
            refine pF 0 1 47 48 ?_
            refine pT2 1 49 (upTo 2 47) ?_ hHeld
            refine pF 2 3 47 50 ?_
            refine pF 3 4 47 51 ?_
            refine pF 4 5 47 52 ?_
            refine pT2 5 53 (upTo 6 47) ?_ hHeld
            refine pF 6 7 47 54 ?_
            refine pF 7 8 47 55 ?_
            refine pF 8 9 47 56 ?_
            refine pF 9 10 47 57 ?_
            refine pT2 10 58 (upTo 11 47) ?_ hHeld
            refine pF 11 12 47 59 ?_
            refine pF 12 13 47 60 ?_
            refine pF 13 14 47 61 ?_
            refine pF 14 15 47 62 ?_
            refine pT2 15 63 (upTo 16 47) ?_ hHeld
            refine pF 16 17 47 64 ?_
            refine pF 17 18 47 65 ?_
            refine pF 18 19 47 66 ?_
            refine pF 19 20 47 67 ?_
            refine pU 20 21 47 68 ?_
            refine pU 21 22 47 69 ?_
            refine pU 22 23 47 70 ?_
            refine pU 23 24 47 71 ?_
            refine pU 24 25 47 72 ?_
            refine pF 25 26 47 73 ?_
            refine pF 26 27 47 74 ?_
            refine pU 27 28 47 75 ?_
            refine pU 28 29 47 76 ?_
            refine pU 29 30 47 77 ?_
            refine pU 30 31 47 78 ?_
            refine pU 31 32 47 79 ?_
            refine pU 32 33 47 80 ?_
            refine pU 33 34 47 81 ?_
            refine pU 34 35 47 82 ?_
            refine pF 35 36 47 83 ?_
            refine pF 36 37 47 84 ?_
            refine pU 37 38 47 85 ?_
            refine pU 38 39 47 86 ?_
            refine pU 39 40 47 87 ?_
            refine pU 40 41 47 88 ?_
            refine pU 41 42 47 89 ?_
            refine pU 42 43 47 90 ?_
            refine pU 43 44 47 91 ?_
            refine pU 44 45 47 92 ?_
            refine pF 45 46 47 93 ?_
            refine pF 46 47 47 2 ?_
            refine done_ (done_of HT_.out (by kernel_rfl)) ?_
            try go_wp2
            go_ret
            exact ⟨by first | rfl | (simp [*, errW_none, errW_some] <;> rfl), by repeat (first | (with_reducible first | exact HB.out | apply bA | apply bN | apply bD | refine bS ?_ GE101.out) | exact HB.out)⟩
          ·
           rw [if_neg c30] at H
           have c30b0 : (a0_4.toList == ([] : List UInt8)) = false := beq_eq_false_iff_ne.mpr c30
           have c30b1 : (a0_4.toList != ([] : List UInt8)) = true := bne_iff_ne.mpr c30
           obtain rfl := Option.some.inj H
           try go_wp2
           have n0_ := AM (kD BK101.out)
           have n1_ := AM (bD HB.out)
           clear BK101
           clear HB
           have BK101 := n0_
           have HB := n1_
           clear n0_ n1_
           refine start_ (n := 47) (S := fun w' => w'.cell? ⟨gb101, 0, none⟩ = some (.int .i64 a0_0) ∧ w'.cell? ⟨gb101, 1, none⟩ = some (.int .i64 a0_1) ∧ w'.cell? ⟨gb101, 2, none⟩ = some (.int .i64 a0_2) ∧ w'.cell? ⟨gb101, 3, none⟩ = some (.int .i64 a0_3) ∧ w'.cell? ⟨gb101, 4, none⟩ = some (.string a0_4) ∧ w'.cell? ⟨gb101, 5, none⟩ = some (.slice A0_5 l0_5.length c0_5)) (ds := []) (upTo 0 47) (by kernel_rfl) rfl rfl ⟨(kC BK101.out 0).trans rfl, (kC BK101.out 1).trans rfl, (kC BK101.out 2).trans rfl, (kC BK101.out 3).trans rfl, (kC BK101.out 4).trans rfl, (kC BK101.out 5).trans rfl⟩ (fun hHeld => ?_); refine with_tabW spec_SayRight.tab9 spec_SayRight.bits9 (fun HT_ HW_ => ?_)
           generalize wc.drew = w43 at BK101 HB hHeld ⊢
           refine pF 0 1 47 48 ?_
           refine pT2 1 49 (upTo 2 47) ?_ hHeld
           refine pF 2 3 47 50 ?_
           refine pF 3 4 47 51 ?_
           refine pF 4 5 47 52 ?_
           refine pT2 5 53 (upTo 6 47) ?_ hHeld
           refine pF 6 7 47 54 ?_
           refine pF 7 8 47 55 ?_
           refine pF 8 9 47 56 ?_
           refine pF 9 10 47 57 ?_
           refine pT2 10 58 (upTo 11 47) ?_ hHeld
           refine pF 11 12 47 59 ?_
           refine pF 12 13 47 60 ?_
           refine pF 13 14 47 61 ?_
           refine pU 14 15 47 62 ?_
           refine pU 15 16 47 63 ?_
           refine pU 16 17 47 64 ?_
           refine pU 17 18 47 65 ?_
           refine pF 18 19 47 66 ?_
           refine pF 19 20 47 67 ?_
           refine pU 20 21 47 68 ?_
           refine pU 21 22 47 69 ?_
           refine pU 22 23 47 70 ?_
           refine pU 23 24 47 71 ?_
           refine pU 24 25 47 72 ?_
           refine pF 25 26 47 73 ?_
           refine pF 26 27 47 74 ?_
           refine pU 27 28 47 75 ?_
           refine pU 28 29 47 76 ?_
           refine pU 29 30 47 77 ?_
           refine pU 30 31 47 78 ?_
           refine pU 31 32 47 79 ?_
           refine pU 32 33 47 80 ?_
           refine pU 33 34 47 81 ?_
           refine pU 34 35 47 82 ?_
           refine pF 35 36 47 83 ?_
           refine pF 36 37 47 84 ?_
           refine pU 37 38 47 85 ?_
           refine pU 38 39 47 86 ?_
           refine pU 39 40 47 87 ?_
           refine pU 40 41 47 88 ?_
           refine pU 41 42 47 89 ?_
           refine pU 42 43 47 90 ?_
           refine pU 43 44 47 91 ?_
           refine pU 44 45 47 92 ?_
           refine pF 45 46 47 93 ?_
           refine pF 46 47 47 2 ?_
           refine done_ (done_of HT_.out (by kernel_rfl)) ?_
           try go_wp2
           go_ret
           exact ⟨by first | rfl | (simp [*, errW_none, errW_some] <;> rfl), by repeat (first | (with_reducible first | exact HB.out | apply bA | apply bN | apply bD | refine bS ?_ GE101.out) | exact HB.out)⟩
         ·
          rw [if_neg c29] at H
          have c29b0 : (a0_3 == 0) = false := beq_eq_false_iff_ne.mpr c29
          have c29b1 : (a0_3 != 0) = true := bne_iff_ne.mpr c29
          obtain rfl := Option.some.inj H
          try go_wp2
          have n0_ := AM (kD BK101.out)
          have n1_ := AM (bD HB.out)
          clear BK101
          clear HB
          have BK101 := n0_
          have HB := n1_
          clear n0_ n1_
          refine start_ (n := 47) (S := fun w' => w'.cell? ⟨gb101, 0, none⟩ = some (.int .i64 a0_0) ∧ w'.cell? ⟨gb101, 1, none⟩ = some (.int .i64 a0_1) ∧ w'.cell? ⟨gb101, 2, none⟩ = some (.int .i64 a0_2) ∧ w'.cell? ⟨gb101, 3, none⟩ = some (.int .i64 a0_3) ∧ w'.cell? ⟨gb101, 4, none⟩ = some (.string a0_4) ∧ w'.cell? ⟨gb101, 5, none⟩ = some (.slice A0_5 l0_5.length c0_5)) (ds := []) (upTo 0 47) (by kernel_rfl) rfl rfl ⟨(kC BK101.out 0).trans rfl, (kC BK101.out 1).trans rfl, (kC BK101.out 2).trans rfl, (kC BK101.out 3).trans rfl, (kC BK101.out 4).trans rfl, (kC BK101.out 5).trans rfl⟩ (fun hHeld => ?_); refine with_tabW spec_SayRight.tab9 spec_SayRight.bits9 (fun HT_ HW_ => ?_)
          generalize wc.drew = w44 at BK101 HB hHeld ⊢
          refine pF 0 1 47 48 ?_
          refine pT2 1 49 (upTo 2 47) ?_ hHeld
          refine pF 2 3 47 50 ?_
          refine pF 3 4 47 51 ?_
          refine pF 4 5 47 52 ?_
          refine pT2 5 53 (upTo 6 47) ?_ hHeld
          refine pF 6 7 47 54 ?_
          refine pF 7 8 47 55 ?_
          refine pF 8 9 47 56 ?_
          refine pU 9 10 47 57 ?_
          refine pU 10 11 47 58 ?_
          refine pU 11 12 47 59 ?_
          refine pF 12 13 47 60 ?_
          refine pF 13 14 47 61 ?_
          refine pU 14 15 47 62 ?_
          refine pU 15 16 47 63 ?_
          refine pU 16 17 47 64 ?_
          refine pU 17 18 47 65 ?_
          refine pF 18 19 47 66 ?_
          refine pF 19 20 47 67 ?_
          refine pU 20 21 47 68 ?_
          refine pU 21 22 47 69 ?_
          refine pU 22 23 47 70 ?_
          refine pU 23 24 47 71 ?_
          refine pU 24 25 47 72 ?_
          refine pF 25 26 47 73 ?_
          refine pF 26 27 47 74 ?_
          refine pU 27 28 47 75 ?_
          refine pU 28 29 47 76 ?_
          refine pU 29 30 47 77 ?_
          refine pU 30 31 47 78 ?_
          refine pU 31 32 47 79 ?_
          refine pU 32 33 47 80 ?_
          refine pU 33 34 47 81 ?_
          refine pU 34 35 47 82 ?_
          refine pF 35 36 47 83 ?_
          refine pF 36 37 47 84 ?_
          refine pU 37 38 47 85 ?_
          refine pU 38 39 47 86 ?_
          refine pU 39 40 47 87 ?_
          refine pU 40 41 47 88 ?_
          refine pU 41 42 47 89 ?_
          refine pU 42 43 47 90 ?_
          refine pU 43 44 47 91 ?_
          refine pU 44 45 47 92 ?_
          refine pF 45 46 47 93 ?_
          refine pF 46 47 47 2 ?_
          refine done_ (done_of HT_.out (by kernel_rfl)) ?_
          try go_wp2
          go_ret
          exact ⟨by first | rfl | (simp [*, errW_none, errW_some] <;> rfl), by repeat (first | (with_reducible first | exact HB.out | apply bA | apply bN | apply bD | refine bS ?_ GE101.out) | exact HB.out)⟩
        ·
         rw [if_neg c28] at H
         have c28b0 : decide (1 ≤ a0_2) = false := decide_eq_false c28
         clear c28
         obtain rfl := Option.some.inj H
         try go_wp2
         have n0_ := AM (kD BK101.out)
         have n1_ := AM (bD HB.out)
         clear BK101
         clear HB
         have BK101 := n0_
         have HB := n1_
         clear n0_ n1_
         refine start_ (n := 47) (S := fun w' => w'.cell? ⟨gb101, 0, none⟩ = some (.int .i64 a0_0) ∧ w'.cell? ⟨gb101, 1, none⟩ = some (.int .i64 a0_1) ∧ w'.cell? ⟨gb101, 2, none⟩ = some (.int .i64 a0_2) ∧ w'.cell? ⟨gb101, 3, none⟩ = some (.int .i64 a0_3) ∧ w'.cell? ⟨gb101, 4, none⟩ = some (.string a0_4) ∧ w'.cell? ⟨gb101, 5, none⟩ = some (.slice A0_5 l0_5.length c0_5)) (ds := []) (upTo 0 47) (by kernel_rfl) rfl rfl ⟨(kC BK101.out 0).trans rfl, (kC BK101.out 1).trans rfl, (kC BK101.out 2).trans rfl, (kC BK101.out 3).trans rfl, (kC BK101.out 4).trans rfl, (kC BK101.out 5).trans rfl⟩ (fun hHeld => ?_); refine with_tabW spec_SayRight.tab9 spec_SayRight.bits9 (fun HT_ HW_ => ?_)
         generalize wc.drew = w45 at BK101 HB hHeld ⊢
         refine pF 0 1 47 48 ?_
         refine pT2 1 49 (upTo 2 47) ?_ hHeld
         refine pF 2 3 47 50 ?_
         refine pF 3 4 47 51 ?_
         refine pU 4 5 47 52 ?_
         refine pU 5 6 47 53 ?_
         refine pU 6 7 47 54 ?_
         refine pF 7 8 47 55 ?_
         refine pF 8 9 47 56 ?_
         refine pU 9 10 47 57 ?_
         refine pU 10 11 47 58 ?_
         refine pU 11 12 47 59 ?_
         refine pF 12 13 47 60 ?_
         refine pF 13 14 47 61 ?_
         refine pU 14 15 47 62 ?_
         refine pU 15 16 47 63 ?_
         refine pU 16 17 47 64 ?_
         refine pU 17 18 47 65 ?_
         refine pF 18 19 47 66 ?_
         refine pF 19 20 47 67 ?_
         refine pU 20 21 47 68 ?_
         refine pU 21 22 47 69 ?_
         refine pU 22 23 47 70 ?_
         refine pU 23 24 47 71 ?_
         refine pU 24 25 47 72 ?_
         refine pF 25 26 47 73 ?_
         refine pF 26 27 47 74 ?_
         refine pU 27 28 47 75 ?_
         refine pU 28 29 47 76 ?_
         refine pU 29 30 47 77 ?_
         refine pU 30 31 47 78 ?_
         refine pU 31 32 47 79 ?_
         refine pU 32 33 47 80 ?_
         refine pU 33 34 47 81 ?_
         refine pU 34 35 47 82 ?_
         refine pF 35 36 47 83 ?_
         refine pF 36 37 47 84 ?_
         refine pU 37 38 47 85 ?_
         refine pU 38 39 47 86 ?_
         refine pU 39 40 47 87 ?_
         refine pU 40 41 47 88 ?_
         refine pU 41 42 47 89 ?_
         refine pU 42 43 47 90 ?_
         refine pU 43 44 47 91 ?_
         refine pU 44 45 47 92 ?_
         refine pF 45 46 47 93 ?_
         refine pF 46 47 47 2 ?_
         refine done_ (done_of HT_.out (by kernel_rfl)) ?_
         try go_wp2
         go_ret
         exact ⟨by first | rfl | (simp [*, errW_none, errW_some] <;> rfl), by repeat (first | (with_reducible first | exact HB.out | apply bA | apply bN | apply bD | refine bS ?_ GE101.out) | exact HB.out)⟩
       ·
        rw [if_neg c27] at H
        have c27b0 : (a0_0 == 4) = false := beq_eq_false_iff_ne.mpr c27
        have c27b1 : (a0_0 != 4) = true := bne_iff_ne.mpr c27
        by_cases c46 : a0_0 = 5
        ·
         rw [if_pos c46] at H
         have c46b0 : (a0_0 == 5) = true := beq_iff_eq.mpr c46
         have c46b1 : (a0_0 != 5) = false := bne_eq_false_iff_eq.mpr c46
         clear c46
         by_cases c47 : a0_2 ≥ 1
         ·
          rw [if_pos c47] at H
          have c47b0 : decide (1 ≤ a0_2) = true := decide_eq_true c47
          clear c47
          replace H := Option.bind_eq_some_iff.mp H
          obtain ⟨t111, A480, H⟩ := H
          replace H : (if a0_1 = t111 then (if a0_3 = 0 then (if a0_4.toList = ([] : List UInt8) then ((spec_l10Changes.f kj9 l0_5 a0_2).bind fun t112 => (some t112)) else (some false)) else (some false)) else (some false)) = some r := H
          have A48 := AM A480
          clear A480
          by_cases c49 : a0_1 = t111
          ·
           rw [if_pos c49] at H
           have c49b0 : (a0_1 == t111) = true := beq_iff_eq.mpr c49
           have c49b1 : (a0_1 != t111) = false := bne_eq_false_iff_eq.mpr c49
           clear c49
           by_cases c50 : a0_3 = 0
           ·
            rw [if_pos c50] at H
            have c50b0 : (a0_3 == 0) = true := beq_iff_eq.mpr c50
            have c50b1 : (a0_3 != 0) = false := bne_eq_false_iff_eq.mpr c50
            clear c50
            by_cases c51 : a0_4.toList = ([] : List UInt8)
            ·
             rw [if_pos c51] at H
             have c51b0 : (a0_4.toList == ([] : List UInt8)) = true := beq_iff_eq.mpr c51
             have c51b1 : (a0_4.toList != ([] : List UInt8)) = false := bne_eq_false_iff_eq.mpr c51
             clear c51
             replace H := Option.bind_eq_some_iff.mp H
             obtain ⟨t112, A520, H⟩ := H
             replace H : (some t112) = some r := H
             have A52 := AM A520
             clear A520
             obtain rfl := Option.some.inj H
             try go_wp2
             have n0_ := AM (kD BK101.out)
             have n1_ := AM (bD HB.out)
             clear BK101
             clear HB
             have BK101 := n0_
             have HB := n1_
             clear n0_ n1_
             refine start_ (n := 29) (S := fun w' => w'.cell? ⟨gb101, 0, none⟩ = some (.int .i64 a0_0) ∧ w'.cell? ⟨gb101, 1, none⟩ = some (.int .i64 a0_1) ∧ w'.cell? ⟨gb101, 2, none⟩ = some (.int .i64 a0_2) ∧ w'.cell? ⟨gb101, 3, none⟩ = some (.int .i64 a0_3) ∧ w'.cell? ⟨gb101, 4, none⟩ = some (.string a0_4) ∧ w'.cell? ⟨gb101, 5, none⟩ = some (.slice A0_5 l0_5.length c0_5)) (ds := []) (upTo 0 29) (by kernel_rfl) rfl rfl ⟨(kC BK101.out 0).trans rfl, (kC BK101.out 1).trans rfl, (kC BK101.out 2).trans rfl, (kC BK101.out 3).trans rfl, (kC BK101.out 4).trans rfl, (kC BK101.out 5).trans rfl⟩ (fun hHeld => ?_); refine with_tabW spec_SayRight.tab11 spec_SayRight.bits11 (fun HT_ HW_ => ?_)
             generalize wc.drew = w53 at BK101 HB hHeld ⊢
             refine pF 0 1 29 96 ?_
             refine pT2 1 97 (upTo 2 29) ?_ hHeld
             refine pF 2 3 29 98 ?_
             refine pF 3 4 29 99 ?_
             refine pF 4 5 29 100 ?_
             refine pF2 6 102 spec_SayRight.b9 ?_
             refine pT2 5 101 (upTo 7 29) ?_ hHeld
             refine pT2 7 103 (upTo 8 29) ?_ hHeld
             refine one_ (i := 8) (N := some 104) (upTo 9 29) rfl rfl (one_of HT_.out (by kernel_rfl)) (by decide) (fun K hK => ?_)
             refine goes_ Try.func20 (by kernel_rfl) rfl #[.int .i64 a0_2] (by rfl) rfl rfl (by (try simp only [mA, mB, mC]); first | done | rfl | (simp only [mD, mE]; rfl)) ?_
             with_reducible refine (spec_Leader.calls a0_2 t111 _ A48.out).mono ?_
             rintro e w' ⟨rfl, ⟨nd, rfl⟩⟩
             refine ⟨_, rfl, ?_⟩
             refine hK.out _ _ ⟨(kC BK101.out 0).trans rfl, (kC BK101.out 1).trans rfl, (kC BK101.out 2).trans rfl, (kC BK101.out 3).trans rfl, (kC BK101.out 4).trans rfl, (kC BK101.out 5).trans rfl⟩ (fun hHeld => ?_)
             clear hK K
             refine norm_ (a' := ?_) ?_ ?_
             rotate_left
             ·
              show Act.put _ (some 104) _ = _
              simp only [Act.put, sA, sB, sC, i64_w, i32_w]
              rfl
             refine pF 9 10 29 105 ?_
             refine pF 10 11 29 106 ?_
             refine pF 11 12 29 107 ?_
             refine pF 12 13 29 108 ?_
             refine pT2 13 109 (upTo 14 29) ?_ hHeld
             refine pF 14 15 29 110 ?_
             refine pF 15 16 29 111 ?_
             refine pF 16 17 29 112 ?_
             refine pF 17 18 29 113 ?_
             refine pT2 18 114 (upTo 19 29) ?_ hHeld
             refine pF 19 20 29 115 ?_
             refine pF 20 21 29 116 ?_
             refine pF 21 22 29 117 ?_
             refine pF 22 23 29 118 ?_
             refine pF2 24 120 spec_SayRight.b10 ?_
             refine pT2 23 119 (upTo 25 29) ?_ hHeld
             refine pT2 25 121 (upTo 26 29) ?_ hHeld
             refine one_ (i := 26) (N := some 122) (upTo 27 29) rfl rfl (one_of HT_.out (by kernel_rfl)) (by decide) (fun K hK => ?_)
             refine goes_ Try.func22 (by kernel_rfl) rfl #[.slice A0_5 l0_5.length c0_5, .int .i64 a0_2] (by rfl) rfl rfl (by (try simp only [mA, mB, mC]); first | done | rfl | (simp only [mD, mE]; rfl)) ?_
             with_reducible refine (spec_l10Changes.calls kj9 _ _ l0_5 a0_2 t112 _ ?side1 ?side2 A52.out).mono ?_
             (case side1 => repeat (first | exact (cB HR0_5.out (by repeat (first | (with_reducible first | exact HB.out | apply bA | apply bN | apply bD | refine bS ?_ GE101.out) | exact HB.out))) | (with_reducible refine cA ?_ _) | (with_reducible refine cN ?_ _) | (with_reducible refine cD ?_)))
             (case side2 => exact HC0_5.out)
             rintro e w54 ⟨rfl, hb⟩
             refine ⟨_, rfl, ?_⟩
             have n0_ := AM (blk_below (g := gb101) (o := .cells #[.int .i64 a0_0, .int .i64 a0_1, .int .i64 a0_2, .int .i64 a0_3, .string a0_4, .slice A0_5 l0_5.length c0_5] 29 (0, 0)) (by (with_reducible repeat (first | apply kN | apply kD | apply kA)); exact BK101.out) hb)
             have n1_ := AM (below_step (by repeat (first | (with_reducible first | exact HB.out | apply bA | apply bN | apply bD | refine bS ?_ GE101.out) | exact HB.out)) hb)
             clear BK101
             clear HB
             have BK101 := n0_
             have HB := n1_
             clear n0_ n1_
             (try clear hb)
             (try clear hb2)
             (try clear hk)
             (try clear hi)
             refine hK.out _ _ ⟨(kC BK101.out 0).trans rfl, (kC BK101.out 1).trans rfl, (kC BK101.out 2).trans rfl, (kC BK101.out 3).trans rfl, (kC BK101.out 4).trans rfl, (kC BK101.out 5).trans rfl⟩ (fun hHeld => ?_)
             clear hK K
             refine norm_ (a' := ?_) ?_ ?_
             rotate_left
             ·
              show Act.put _ (some 122) _ = _
              simp only [Act.put, sA, sB, sC, i64_w, i32_w]
              rfl
             refine pF 27 28 29 123 ?_
             refine pF 28 29 29 2 ?_
             refine done_ (done_of HT_.out (by kernel_rfl)) ?_
             try go_wp2
             go_ret
             exact ⟨by first | rfl | (simp [*, errW_none, errW_some] <;> rfl), by repeat (first | (with_reducible first | exact HB.out | apply bA | apply bN | apply bD | refine bS ?_ GE101.out) | exact HB.out)⟩
            ·
             rw [if_neg c51] at H
             have c51b0 : (a0_4.toList == ([] : List UInt8)) = false := beq_eq_false_iff_ne.mpr c51
             have c51b1 : (a0_4.toList != ([] : List UInt8)) = true := bne_iff_ne.mpr c51
             obtain rfl := Option.some.inj H
             try go_wp2
             have n0_ := AM (kD BK101.out)
             have n1_ := AM (bD HB.out)
             clear BK101
             clear HB
             have BK101 := n0_
             have HB := n1_
             clear n0_ n1_
             refine start_ (n := 29) (S := fun w' => w'.cell? ⟨gb101, 0, none⟩ = some (.int .i64 a0_0) ∧ w'.cell? ⟨gb101, 1, none⟩ = some (.int .i64 a0_1) ∧ w'.cell? ⟨gb101, 2, none⟩ = some (.int .i64 a0_2) ∧ w'.cell? ⟨gb101, 3, none⟩ = some (.int .i64 a0_3) ∧ w'.cell? ⟨gb101, 4, none⟩ = some (.string a0_4) ∧ w'.cell? ⟨gb101, 5, none⟩ = some (.slice A0_5 l0_5.length c0_5)) (ds := []) (upTo 0 29) (by kernel_rfl) rfl rfl ⟨(kC BK101.out 0).trans rfl, (kC BK101.out 1).trans rfl, (kC BK101.out 2).trans rfl, (kC BK101.out 3).trans rfl, (kC BK101.out 4).trans rfl, (kC BK101.out 5).trans rfl⟩ (fun hHeld => ?_); refine with_tabW spec_SayRight.tab11 spec_SayRight.bits11 (fun HT_ HW_ => ?_)
             generalize wc.drew = w55 at BK101 HB hHeld ⊢
             refine pF 0 1 29 96 ?_
             refine pT2 1 97 (upTo 2 29) ?_ hHeld
             refine pF 2 3 29 98 ?_
             refine pF 3 4 29 99 ?_
             refine pF 4 5 29 100 ?_
             refine pF2 6 102 spec_SayRight.b9 ?_
             refine pT2 5 101 (upTo 7 29) ?_ hHeld
             refine pT2 7 103 (upTo 8 29) ?_ hHeld
             refine one_ (i := 8) (N := some 104) (upTo 9 29) rfl rfl (one_of HT_.out (by kernel_rfl)) (by decide) (fun K hK => ?_)
             refine goes_ Try.func20 (by kernel_rfl) rfl #[.int .i64 a0_2] (by rfl) rfl rfl (by (try simp only [mA, mB, mC]); first | done | rfl | (simp only [mD, mE]; rfl)) ?_
             with_reducible refine (spec_Leader.calls a0_2 t111 _ A48.out).mono ?_
             rintro e w' ⟨rfl, ⟨nd, rfl⟩⟩
             refine ⟨_, rfl, ?_⟩
             refine hK.out _ _ ⟨(kC BK101.out 0).trans rfl, (kC BK101.out 1).trans rfl, (kC BK101.out 2).trans rfl, (kC BK101.out 3).trans rfl, (kC BK101.out 4).trans rfl, (kC BK101.out 5).trans rfl⟩ (fun hHeld => ?_)
             clear hK K
             refine norm_ (a' := ?_) ?_ ?_
             rotate_left
             ·
              show Act.put _ (some 104) _ = _
              simp only [Act.put, sA, sB, sC, i64_w, i32_w]
              rfl
             refine pF 9 10 29 105 ?_
             refine pF 10 11 29 106 ?_
             refine pF 11 12 29 107 ?_
             refine pF 12 13 29 108 ?_
             refine pT2 13 109 (upTo 14 29) ?_ hHeld
             refine pF 14 15 29 110 ?_
             refine pF 15 16 29 111 ?_
             refine pF 16 17 29 112 ?_
             refine pF 17 18 29 113 ?_
             refine pT2 18 114 (upTo 19 29) ?_ hHeld
             refine pF 19 20 29 115 ?_
             refine pF 20 21 29 116 ?_
             refine pF 21 22 29 117 ?_
             refine pU 22 23 29 118 ?_
             refine pU 23 24 29 119 ?_
             refine pU 24 25 29 120 ?_
             refine pU 25 26 29 121 ?_
             refine pU 26 27 29 122 ?_
             refine pF 27 28 29 123 ?_
             refine pF 28 29 29 2 ?_
             refine done_ (done_of HT_.out (by kernel_rfl)) ?_
             try go_wp2
             go_ret
             exact ⟨by first | rfl | (simp [*, errW_none, errW_some] <;> rfl), by repeat (first | (with_reducible first | exact HB.out | apply bA | apply bN | apply bD | refine bS ?_ GE101.out) | exact HB.out)⟩
           ·
            rw [if_neg c50] at H
            have c50b0 : (a0_3 == 0) = false := beq_eq_false_iff_ne.mpr c50
            have c50b1 : (a0_3 != 0) = true := bne_iff_ne.mpr c50
            obtain rfl := Option.some.inj H
            try go_wp2
            have n0_ := AM (kD BK101.out)
            have n1_ := AM (bD HB.out)
            clear BK101
            clear HB
            have BK101 := n0_
            have HB := n1_
            clear n0_ n1_
            refine start_ (n := 29) (S := fun w' => w'.cell? ⟨gb101, 0, none⟩ = some (.int .i64 a0_0) ∧ w'.cell? ⟨gb101, 1, none⟩ = some (.int .i64 a0_1) ∧ w'.cell? ⟨gb101, 2, none⟩ = some (.int .i64 a0_2) ∧ w'.cell? ⟨gb101, 3, none⟩ = some (.int .i64 a0_3) ∧ w'.cell? ⟨gb101, 4, none⟩ = some (.string a0_4) ∧ w'.cell? ⟨gb101, 5, none⟩ = some (.slice A0_5 l0_5.length c0_5)) (ds := []) (upTo 0 29) (by kernel_rfl) rfl rfl ⟨(kC BK101.out 0).trans rfl, (kC BK101.out 1).trans rfl, (kC BK101.out 2).trans rfl, (kC BK101.out 3).trans rfl, (kC BK101.out 4).trans rfl, (kC BK101.out 5).trans rfl⟩ (fun hHeld => ?_); refine with_tabW spec_SayRight.tab11 spec_SayRight.bits11 (fun HT_ HW_ => ?_)
            generalize wc.drew = w56 at BK101 HB hHeld ⊢
            refine pF 0 1 29 96 ?_
            refine pT2 1 97 (upTo 2 29) ?_ hHeld
            refine pF 2 3 29 98 ?_
            refine pF 3 4 29 99 ?_
            refine pF 4 5 29 100 ?_
            refine pF2 6 102 spec_SayRight.b9 ?_
            refine pT2 5 101 (upTo 7 29) ?_ hHeld
            refine pT2 7 103 (upTo 8 29) ?_ hHeld
            refine one_ (i := 8) (N := some 104) (upTo 9 29) rfl rfl (one_of HT_.out (by kernel_rfl)) (by decide) (fun K hK => ?_)
            refine goes_ Try.func20 (by kernel_rfl) rfl #[.int .i64 a0_2] (by rfl) rfl rfl (by (try simp only [mA, mB, mC]); first | done | rfl | (simp only [mD, mE]; rfl)) ?_
            with_reducible refine (spec_Leader.calls a0_2 t111 _ A48.out).mono ?_
            rintro e w' ⟨rfl, ⟨nd, rfl⟩⟩
            refine ⟨_, rfl, ?_⟩
            refine hK.out _ _ ⟨(kC BK101.out 0).trans rfl, (kC BK101.out 1).trans rfl, (kC BK101.out 2).trans rfl, (kC BK101.out 3).trans rfl, (kC BK101.out 4).trans rfl, (kC BK101.out 5).trans rfl⟩ (fun hHeld => ?_)
            clear hK K
            refine norm_ (a' := ?_) ?_ ?_
            rotate_left
            ·
             show Act.put _ (some 104) _ = _
             simp only [Act.put, sA, sB, sC, i64_w, i32_w]
             rfl
            refine pF 9 10 29 105 ?_
            refine pF 10 11 29 106 ?_
            refine pF 11 12 29 107 ?_
            refine pF 12 13 29 108 ?_
            refine pT2 13 109 (upTo 14 29) ?_ hHeld
            refine pF 14 15 29 110 ?_
            refine pF 15 16 29 111 ?_
            refine pF 16 17 29 112 ?_
            refine pU 17 18 29 113 ?_
            refine pU 18 19 29 114 ?_
            refine pU 19 20 29 115 ?_
            refine pF 20 21 29 116 ?_
            refine pF 21 22 29 117 ?_
            refine pU 22 23 29 118 ?_
            refine pU 23 24 29 119 ?_
            refine pU 24 25 29 120 ?_
            refine pU 25 26 29 121 ?_
            refine pU 26 27 29 122 ?_
            refine pF 27 28 29 123 ?_
            refine pF 28 29 29 2 ?_
            refine done_ (done_of HT_.out (by kernel_rfl)) ?_
            try go_wp2
            go_ret
            exact ⟨by first | rfl | (simp [*, errW_none, errW_some] <;> rfl), by repeat (first | (with_reducible first | exact HB.out | apply bA | apply bN | apply bD | refine bS ?_ GE101.out) | exact HB.out)⟩
          ·
           rw [if_neg c49] at H
           have c49b0 : (a0_1 == t111) = false := beq_eq_false_iff_ne.mpr c49
           have c49b1 : (a0_1 != t111) = true := bne_iff_ne.mpr c49
           obtain rfl := Option.some.inj H
           try go_wp2
           have n0_ := AM (kD BK101.out)
           have n1_ := AM (bD HB.out)
           clear BK101
           clear HB
           have BK101 := n0_
           have HB := n1_
           clear n0_ n1_
           refine start_ (n := 29) (S := fun w' => w'.cell? ⟨gb101, 0, none⟩ = some (.int .i64 a0_0) ∧ w'.cell? ⟨gb101, 1, none⟩ = some (.int .i64 a0_1) ∧ w'.cell? ⟨gb101, 2, none⟩ = some (.int .i64 a0_2) ∧ w'.cell? ⟨gb101, 3, none⟩ = some (.int .i64 a0_3) ∧ w'.cell? ⟨gb101, 4, none⟩ = some (.string a0_4) ∧ w'.cell? ⟨gb101, 5, none⟩ = some (.slice A0_5 l0_5.length c0_5)) (ds := []) (upTo 0 29) (by kernel_rfl) rfl rfl ⟨(kC BK101.out 0).trans rfl, (kC BK101.out 1).trans rfl, (kC BK101.out 2).trans rfl, (kC BK101.out 3).trans rfl, (kC BK101.out 4).trans rfl, (kC BK101.out 5).trans rfl⟩ (fun hHeld => ?_); refine with_tabW spec_SayRight.tab11 spec_SayRight.bits11 (fun HT_ HW_ => ?_)
           generalize wc.drew = w57 at BK101 HB hHeld ⊢
           refine pF 0 1 29 96 ?_
           refine pT2 1 97 (upTo 2 29) ?_ hHeld
           refine pF 2 3 29 98 ?_
           refine pF 3 4 29 99 ?_
           refine pF 4 5 29 100 ?_
           refine pF2 6 102 spec_SayRight.b9 ?_
           refine pT2 5 101 (upTo 7 29) ?_ hHeld
           refine pT2 7 103 (upTo 8 29) ?_ hHeld
           refine one_ (i := 8) (N := some 104) (upTo 9 29) rfl rfl (one_of HT_.out (by kernel_rfl)) (by decide) (fun K hK => ?_)
           refine goes_ Try.func20 (by kernel_rfl) rfl #[.int .i64 a0_2] (by rfl) rfl rfl (by (try simp only [mA, mB, mC]); first | done | rfl | (simp only [mD, mE]; rfl)) ?_
           with_reducible refine (spec_Leader.calls a0_2 t111 _ A48.out).mono ?_
           rintro e w' ⟨rfl, ⟨nd, rfl⟩⟩
           refine ⟨_, rfl, ?_⟩
           refine hK.out _ _ ⟨(kC BK101.out 0).trans rfl, (kC BK101.out 1).trans rfl, (kC BK101.out 2).trans rfl, (kC BK101.out 3).trans rfl, (kC BK101.out 4).trans rfl, (kC BK101.out 5).trans rfl⟩ (fun hHeld => ?_)
           clear hK K
           refine norm_ (a' := ?_) ?_ ?_
           rotate_left
           ·
            show Act.put _ (some 104) _ = _
            simp only [Act.put, sA, sB, sC, i64_w, i32_w]
            rfl
           refine pF 9 10 29 105 ?_
           refine pF 10 11 29 106 ?_
           refine pF 11 12 29 107 ?_
           refine pU 12 13 29 108 ?_
           refine pU 13 14 29 109 ?_
           refine pU 14 15 29 110 ?_
           refine pF 15 16 29 111 ?_
           refine pF 16 17 29 112 ?_
           refine pU 17 18 29 113 ?_
           refine pU 18 19 29 114 ?_
           refine pU 19 20 29 115 ?_
           refine pF 20 21 29 116 ?_
           refine pF 21 22 29 117 ?_
           refine pU 22 23 29 118 ?_
           refine pU 23 24 29 119 ?_
           refine pU 24 25 29 120 ?_
           refine pU 25 26 29 121 ?_
           refine pU 26 27 29 122 ?_
           refine pF 27 28 29 123 ?_
           refine pF 28 29 29 2 ?_
           refine done_ (done_of HT_.out (by kernel_rfl)) ?_
           try go_wp2
           go_ret
           exact ⟨by first | rfl | (simp [*, errW_none, errW_some] <;> rfl), by repeat (first | (with_reducible first | exact HB.out | apply bA | apply bN | apply bD | refine bS ?_ GE101.out) | exact HB.out)⟩
         ·
          rw [if_neg c47] at H
          have c47b0 : decide (1 ≤ a0_2) = false := decide_eq_false c47
          clear c47
          obtain rfl := Option.some.inj H
          try go_wp2
          have n0_ := AM (kD BK101.out)
          have n1_ := AM (bD HB.out)
          clear BK101
          clear HB
          have BK101 := n0_
          have HB := n1_
          clear n0_ n1_
          refine start_ (n := 29) (S := fun w' => w'.cell? ⟨gb101, 0, none⟩ = some (.int .i64 a0_0) ∧ w'.cell? ⟨gb101, 1, none⟩ = some (.int .i64 a0_1) ∧ w'.cell? ⟨gb101, 2, none⟩ = some (.int .i64 a0_2) ∧ w'.cell? ⟨gb101, 3, none⟩ = some (.int .i64 a0_3) ∧ w'.cell? ⟨gb101, 4, none⟩ = some (.string a0_4) ∧ w'.cell? ⟨gb101, 5, none⟩ = some (.slice A0_5 l0_5.length c0_5)) (ds := []) (upTo 0 29) (by kernel_rfl) rfl rfl ⟨(kC BK101.out 0).trans rfl, (kC BK101.out 1).trans rfl, (kC BK101.out 2).trans rfl, (kC BK101.out 3).trans rfl, (kC BK101.out 4).trans rfl, (kC BK101.out 5).trans rfl⟩ (fun hHeld => ?_); refine with_tabW spec_SayRight.tab11 spec_SayRight.bits11 (fun HT_ HW_ => ?_)
          generalize wc.drew = w58 at BK101 HB hHeld ⊢
          refine pF 0 1 29 96 ?_
          refine pT2 1 97 (upTo 2 29) ?_ hHeld
          refine pF 2 3 29 98 ?_
          refine pF 3 4 29 99 ?_
          refine pU 4 5 29 100 ?_
          refine pU 5 6 29 101 ?_
          refine pU 6 7 29 102 ?_
          refine pU 7 8 29 103 ?_
          refine pU 8 9 29 104 ?_
          refine pU 9 10 29 105 ?_
          refine pF 10 11 29 106 ?_
          refine pF 11 12 29 107 ?_
          refine pU 12 13 29 108 ?_
          refine pU 13 14 29 109 ?_
          refine pU 14 15 29 110 ?_
          refine pF 15 16 29 111 ?_
          refine pF 16 17 29 112 ?_
          refine pU 17 18 29 113 ?_
          refine pU 18 19 29 114 ?_
          refine pU 19 20 29 115 ?_
          refine pF 20 21 29 116 ?_
          refine pF 21 22 29 117 ?_
          refine pU 22 23 29 118 ?_
          refine pU 23 24 29 119 ?_
          refine pU 24 25 29 120 ?_
          refine pU 25 26 29 121 ?_
          refine pU 26 27 29 122 ?_
          refine pF 27 28 29 123 ?_
          refine pF 28 29 29 2 ?_
          refine done_ (done_of HT_.out (by kernel_rfl)) ?_
          try go_wp2
          go_ret
          exact ⟨by first | rfl | (simp [*, errW_none, errW_some] <;> rfl), by repeat (first | (with_reducible first | exact HB.out | apply bA | apply bN | apply bD | refine bS ?_ GE101.out) | exact HB.out)⟩
        ·
         rw [if_neg c46] at H
         have c46b0 : (a0_0 == 5) = false := beq_eq_false_iff_ne.mpr c46
         have c46b1 : (a0_0 != 5) = true := bne_iff_ne.mpr c46
         obtain rfl := Option.some.inj H
         go_wp2
         go_ret
         exact ⟨by first | rfl | (simp [*, errW_none, errW_some] <;> rfl), by repeat (first | (with_reducible first | exact HB.out | apply bA | apply bN | apply bD | refine bS ?_ GE101.out) | exact HB.out)⟩

end Go.Proofs.Ytlkpjekalidkdaa.Q
