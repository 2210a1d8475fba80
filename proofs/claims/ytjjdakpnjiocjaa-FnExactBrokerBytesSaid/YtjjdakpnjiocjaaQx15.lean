/- Printed by a program of this session (wip/mp.py over the kit's print.py): functions of the translation as plain Lean functions, and that the machine's calls do what these say. -/
import Derived.Test.YtjjdakpnjiocjaaQx0
import Derived.Test.YtjjdakpnjiocjaaQx5
import Derived.Test.YtjjdakpnjiocjaaQx7
import Derived.Test.YtjjdakpnjiocjaaQx14
namespace Go.Proofs.Ytjjdakpnjiocjaa.Q
open Go.RowKit Go.Proofs.Ytjjdakpnjiocjaa.HB Go.Proofs.YtjjdakpnjiocjaaW.PrintWords Go.Proofs.YtjjdakpnjiocjaaW.PrintLast Go.Proofs.YtjjdakpnjiocjaaW.PrintMore
attribute [local go_sem] max2_int min2_int max_two min_two max_three min_three max_four min_four   -- for this text's walks alone
set_option linter.unusedVariables false
set_option linter.unusedSimpArgs false

/-! ### impl_brokerBytes: function 35 -/
abbrev impl_brokerBytes.b0 : Array Bool := #[true, true, false, false, true, false, false, false, false, false, false, false, false, false]
abbrev impl_brokerBytes.b1 : Array Bool := #[true, true, false, false, true, false, true, false, false, false, false, false, false, false]
abbrev impl_brokerBytes.b2 : Array Bool := #[true, true, true, false, true, false, true, false, false, false, false, false, false, false]
abbrev impl_brokerBytes.b3 : Array Bool := #[true, true, true, false, true, true, true, false, false, false, false, false, false, false]
abbrev impl_brokerBytes.b4 : Array Bool := #[true, true, true, false, true, true, true, true, false, false, false, false, false, false]
abbrev impl_brokerBytes.b5 : Array Bool := #[true, true, false, false, true, false, false, false, false, false]
abbrev impl_brokerBytes.b6 : Array Bool := #[true, true, true, false, true, false, false, false, false, false]
abbrev impl_brokerBytes.b7 : Array Bool := #[true, true, true, false, true, true, false, false, false, false]
abbrev impl_brokerBytes.b8 : Array Bool := #[true, true, false, true, false, false, false, false, false, false, false, false, false]
abbrev impl_brokerBytes.b9 : Array Bool := #[true, true, false, true, false, false, false, true, false, false, false, false, false]
abbrev impl_brokerBytes.b10 : Array Bool := #[true, true, true, true, false, false, false, true, false, false, false, false, false]
abbrev impl_brokerBytes.b11 : Array Bool := #[true, true, true, true, true, false, false, true, false, false, false, false, false]
abbrev impl_brokerBytes.b12 : Array Bool := #[true, true, true, true, true, false, false, true, true, false, false, false, false]
abbrev impl_brokerBytes.b13 : Array Bool := #[true, true, true, true, true, true, false, true, true, false, false, false, false]
mutual
def impl_brokerBytes.l0 : Nat → ByteArray → List (S44) → Int → Int → List (S44) → List (S36) → Option (ByteArray)
  | 0, _, _, _, _, _, _ => none
  | k + 1, x3, x17, x18, x19, x102000, x102001 => if x19 < x18 then (if 0 ≤ x19 then (if x19 < (x17.length : Int) then ((impl_putText.f k ((rd_T44 x17 x19).f0)).bind fun t106 => ((impl_size_string.f ((rd_T44 x17 x19).f2)).bind fun t107 => ((impl_putNums.f k (([(rd_T44 x17 x19).f1, t107] : List Int))).bind fun t111 => (if t106.size + t111.size ≤ 9223372036854775807 then (if x3.size + (t106 ++ t111).size ≤ 9223372036854775807 then (impl_brokerBytes.l1 k (x3 ++ (t106 ++ t111)) x17 x18 x19 ((rd_T44 x17 x19).f2) (((rd_T44 x17 x19).f2).length : Int) 0 x102000 x102001 ((rd_T44 x17 x19).f0) ((rd_T44 x17 x19).f1) ((rd_T44 x17 x19).f2) ((rd_T44 x17 x19).f3)) else (none)) else (none))))) else (none)) else (none)) else ((impl_Reply.f x102001).bind fun t120 => ((impl_putNum.f k t120).bind fun t121 => (if x3.size + t121.size ≤ 9223372036854775807 then (impl_brokerBytes.l3 k (x3 ++ t121) x102001 (x102001.length : Int) 0) else (none))))
def impl_brokerBytes.l1 : Nat → ByteArray → List (S44) → Int → Int → List ByteArray → Int → Int → List (S44) → List (S36) → ByteArray → Int → List ByteArray → List (S79) → Option (ByteArray)
  | 0, _, _, _, _, _, _, _, _, _, _, _, _, _ => none
  | k + 1, x3, x17, x18, x19, x37, x38, x39, x102000, x102001, x106000, x106001, x106002, x106003 => if x39 < x38 then (if 0 ≤ x39 then (if x39 < (x37.length : Int) then ((impl_putText.f k (rdOf ByteArray.empty x37 x39)).bind fun t113 => (if x3.size + t113.size ≤ 9223372036854775807 then (impl_brokerBytes.l1 k (x3 ++ t113) x17 x18 x19 x37 x38 (wrap64 (x39 + 1)) x102000 x102001 x106000 x106001 x106002 x106003) else (none))) else (none)) else (none)) else ((impl_Group_64.f x106003).bind fun t114 => ((impl_putNum.f k t114).bind fun t115 => (if x3.size + t115.size ≤ 9223372036854775807 then (impl_brokerBytes.l2 k (x3 ++ t115) x17 x18 x19 x106003 (x106003.length : Int) 0 x102000 x102001) else (none))))
def impl_brokerBytes.l2 : Nat → ByteArray → List (S44) → Int → Int → List (S79) → Int → Int → List (S44) → List (S36) → Option (ByteArray)
  | 0, _, _, _, _, _, _, _, _, _ => none
  | k + 1, x3, x17, x18, x19, x55, x56, x57, x102000, x102001 => if x57 < x56 then (if 0 ≤ x57 then (if x57 < (x55.length : Int) then ((impl_putText.f k ((rd_T79 x55 x57).f0)).bind fun t118 => ((impl_putNum.f k ((rd_T79 x55 x57).f1)).bind fun t119 => (if t118.size + t119.size ≤ 9223372036854775807 then (if x3.size + (t118 ++ t119).size ≤ 9223372036854775807 then (impl_brokerBytes.l2 k (x3 ++ (t118 ++ t119)) x17 x18 x19 x55 x56 (wrap64 (x57 + 1)) x102000 x102001) else (none)) else (none)))) else (none)) else (none)) else (impl_brokerBytes.l0 k x3 x17 x18 (wrap64 (x19 + 1)) x102000 x102001)
def impl_brokerBytes.l3 : Nat → ByteArray → List (S36) → Int → Int → Option (ByteArray)
  | 0, _, _, _, _ => none
  | k + 1, x3, x79, x80, x81 => if x81 < x80 then (if 0 ≤ x81 then (if x81 < (x79.length : Int) then ((impl_putNums.f k (([(rd_T36 x79 x81).f0, (rd_T36 x79 x81).f1] : List Int))).bind fun t127 => ((impl_putText.f k ((rd_T36 x79 x81).f2)).bind fun t128 => (if t127.size + t128.size ≤ 9223372036854775807 then (if x3.size + (t127 ++ t128).size ≤ 9223372036854775807 then (impl_brokerBytes.l3 k (x3 ++ (t127 ++ t128)) x79 x80 (wrap64 (x81 + 1))) else (none)) else (none)))) else (none)) else (none)) else (some x3)
end
def impl_brokerBytes.f (k : Nat) (l0_0 : List (S44)) (l0_1 : List (S36)) : Option (ByteArray) := (impl_Topic.f l0_0).bind fun t102 => ((impl_putNum.f k t102).bind fun t103 => (impl_brokerBytes.l0 k t103 l0_0 (l0_0.length : Int) 0 l0_0 l0_1))
theorem impl_brokerBytes.mono_l : ∀ k, (∀ y0 y1 y2 y3 y4 y5, LeO (impl_brokerBytes.l0 k y0 y1 y2 y3 y4 y5) (impl_brokerBytes.l0 (k + 1) y0 y1 y2 y3 y4 y5)) ∧ (∀ y0 y1 y2 y3 y4 y5 y6 y7 y8 y9 y10 y11 y12, LeO (impl_brokerBytes.l1 k y0 y1 y2 y3 y4 y5 y6 y7 y8 y9 y10 y11 y12) (impl_brokerBytes.l1 (k + 1) y0 y1 y2 y3 y4 y5 y6 y7 y8 y9 y10 y11 y12)) ∧ (∀ y0 y1 y2 y3 y4 y5 y6 y7 y8, LeO (impl_brokerBytes.l2 k y0 y1 y2 y3 y4 y5 y6 y7 y8) (impl_brokerBytes.l2 (k + 1) y0 y1 y2 y3 y4 y5 y6 y7 y8)) ∧ (∀ y0 y1 y2 y3, LeO (impl_brokerBytes.l3 k y0 y1 y2 y3) (impl_brokerBytes.l3 (k + 1) y0 y1 y2 y3))
  | 0 => ⟨fun _ _ _ _ _ _ r h => by simp [impl_brokerBytes.l0] at h, fun _ _ _ _ _ _ _ _ _ _ _ _ _ r h => by simp [impl_brokerBytes.l1] at h, fun _ _ _ _ _ _ _ _ _ r h => by simp [impl_brokerBytes.l2] at h, fun _ _ _ _ r h => by simp [impl_brokerBytes.l3] at h⟩
  | k + 1 => by
    obtain ⟨ih0, ih1, ih2, ih3⟩ := impl_brokerBytes.mono_l k
    refine ⟨?_, ?_, ?_, ?_⟩
    · intro y0 y1 y2 y3 y4 y5
      unfold impl_brokerBytes.l0
      repeat' first
      | (with_reducible exact ih0 _ _ _ _ _ _)
      | (with_reducible exact ih1 _ _ _ _ _ _ _ _ _ _ _ _ _)
      | (with_reducible exact ih2 _ _ _ _ _ _ _ _ _)
      | (with_reducible exact ih3 _ _ _ _)
      | (with_reducible exact impl_putNum.mono _ _)
      | (with_reducible exact impl_putNums.mono _ _)
      | (with_reducible exact impl_putText.mono _ _)
      | (with_reducible exact LeO.refl _)
      | (with_reducible exact LeO.none _)
      | (with_reducible refine LeO.ite ?_ ?_)
      | (with_reducible refine LeO.bind ?_ (fun _ => ?_))
      | exact ih0 _ _ _ _ _ _
      | exact ih1 _ _ _ _ _ _ _ _ _ _ _ _ _
      | exact ih2 _ _ _ _ _ _ _ _ _
      | exact ih3 _ _ _ _
      | exact impl_putNum.mono _ _
      | exact impl_putNums.mono _ _
      | exact impl_putText.mono _ _
      | exact LeO.none _
      | refine LeO.ite ?_ ?_
      | refine LeO.bind ?_ (fun _ => ?_)
    · intro y0 y1 y2 y3 y4 y5 y6 y7 y8 y9 y10 y11 y12
      unfold impl_brokerBytes.l1
      repeat' first
      | (with_reducible exact ih0 _ _ _ _ _ _)
      | (with_reducible exact ih1 _ _ _ _ _ _ _ _ _ _ _ _ _)
      | (with_reducible exact ih2 _ _ _ _ _ _ _ _ _)
      | (with_reducible exact ih3 _ _ _ _)
      | (with_reducible exact impl_putNum.mono _ _)
      | (with_reducible exact impl_putNums.mono _ _)
      | (with_reducible exact impl_putText.mono _ _)
      | (with_reducible exact LeO.refl _)
      | (with_reducible exact LeO.none _)
      | (with_reducible refine LeO.ite ?_ ?_)
      | (with_reducible refine LeO.bind ?_ (fun _ => ?_))
      | exact ih0 _ _ _ _ _ _
      | exact ih1 _ _ _ _ _ _ _ _ _ _ _ _ _
      | exact ih2 _ _ _ _ _ _ _ _ _
      | exact ih3 _ _ _ _
      | exact impl_putNum.mono _ _
      | exact impl_putNums.mono _ _
      | exact impl_putText.mono _ _
      | exact LeO.none _
      | refine LeO.ite ?_ ?_
      | refine LeO.bind ?_ (fun _ => ?_)
    · intro y0 y1 y2 y3 y4 y5 y6 y7 y8
      unfold impl_brokerBytes.l2
      repeat' first
      | (with_reducible exact ih0 _ _ _ _ _ _)
      | (with_reducible exact ih1 _ _ _ _ _ _ _ _ _ _ _ _ _)
      | (with_reducible exact ih2 _ _ _ _ _ _ _ _ _)
      | (with_reducible exact ih3 _ _ _ _)
      | (with_reducible exact impl_putNum.mono _ _)
      | (with_reducible exact impl_putNums.mono _ _)
      | (with_reducible exact impl_putText.mono _ _)
      | (with_reducible exact LeO.refl _)
      | (with_reducible exact LeO.none _)
      | (with_reducible refine LeO.ite ?_ ?_)
      | (with_reducible refine LeO.bind ?_ (fun _ => ?_))
      | exact ih0 _ _ _ _ _ _
      | exact ih1 _ _ _ _ _ _ _ _ _ _ _ _ _
      | exact ih2 _ _ _ _ _ _ _ _ _
      | exact ih3 _ _ _ _
      | exact impl_putNum.mono _ _
      | exact impl_putNums.mono _ _
      | exact impl_putText.mono _ _
      | exact LeO.none _
      | refine LeO.ite ?_ ?_
      | refine LeO.bind ?_ (fun _ => ?_)
    · intro y0 y1 y2 y3
      unfold impl_brokerBytes.l3
      repeat' first
      | (with_reducible exact ih0 _ _ _ _ _ _)
      | (with_reducible exact ih1 _ _ _ _ _ _ _ _ _ _ _ _ _)
      | (with_reducible exact ih2 _ _ _ _ _ _ _ _ _)
      | (with_reducible exact ih3 _ _ _ _)
      | (with_reducible exact impl_putNum.mono _ _)
      | (with_reducible exact impl_putNums.mono _ _)
      | (with_reducible exact impl_putText.mono _ _)
      | (with_reducible exact LeO.refl _)
      | (with_reducible exact LeO.none _)
      | (with_reducible refine LeO.ite ?_ ?_)
      | (with_reducible refine LeO.bind ?_ (fun _ => ?_))
      | exact ih0 _ _ _ _ _ _
      | exact ih1 _ _ _ _ _ _ _ _ _ _ _ _ _
      | exact ih2 _ _ _ _ _ _ _ _ _
      | exact ih3 _ _ _ _
      | exact impl_putNum.mono _ _
      | exact impl_putNums.mono _ _
      | exact impl_putText.mono _ _
      | exact LeO.none _
      | refine LeO.ite ?_ ?_
      | refine LeO.bind ?_ (fun _ => ?_)
theorem impl_brokerBytes.mono : ∀ a0 a1 k, LeO (impl_brokerBytes.f k a0 a1) (impl_brokerBytes.f (k + 1) a0 a1) := by
  intro a0 a1 k
  obtain ⟨ih0, ih1, ih2, ih3⟩ := impl_brokerBytes.mono_l k
  unfold impl_brokerBytes.f
  repeat' first
      | (with_reducible exact ih0 _ _ _ _ _ _)
      | (with_reducible exact ih1 _ _ _ _ _ _ _ _ _ _ _ _ _)
      | (with_reducible exact ih2 _ _ _ _ _ _ _ _ _)
      | (with_reducible exact ih3 _ _ _ _)
      | (with_reducible exact impl_putNum.mono _ _)
      | (with_reducible exact impl_putNums.mono _ _)
      | (with_reducible exact impl_putText.mono _ _)
      | (with_reducible exact LeO.refl _)
      | (with_reducible exact LeO.none _)
      | (with_reducible refine LeO.ite ?_ ?_)
      | (with_reducible refine LeO.bind ?_ (fun _ => ?_))
      | exact ih0 _ _ _ _ _ _
      | exact ih1 _ _ _ _ _ _ _ _ _ _ _ _ _
      | exact ih2 _ _ _ _ _ _ _ _ _
      | exact ih3 _ _ _ _
      | exact impl_putNum.mono _ _
      | exact impl_putNums.mono _ _
      | exact impl_putText.mono _ _
      | exact LeO.none _
      | refine LeO.ite ?_ ?_
      | refine LeO.bind ?_ (fun _ => ?_)
def impl_brokerBytes.T5 : Bool × List (List Nat × List Nat) := (true, [([], []), ([], []), ([1], [1]), ([2], [2]), ([], []), ([4], [4]), ([], []), ([6], [6]), ([7, 3], [7]), ([5, 8], [5, 8]), ([9, 8], [9]), ([3, 10], [3, 10]), ([0, 11], [0, 11]), ([12, 10, 0, 1, 2, 3, 4, 5, 6, 7, 8, 9, 10, 11, 12], [0, 12])])
def impl_brokerBytes.B5 : List Nat := [0, 0, 2, 6, 0, 16, 0, 64, 206, 510, 1022, 2046, 4095, 8191]
theorem impl_brokerBytes.tab5 : rtab .any (opsOf Try.f35 5) = impl_brokerBytes.T5 := by kernel_rfl
theorem impl_brokerBytes.bits5 : waitsOk impl_brokerBytes.T5.2 impl_brokerBytes.B5 = true := by kernel_rfl
def impl_brokerBytes.T15 : Bool × List (List Nat × List Nat) := (true, [([], []), ([], []), ([1], [1]), ([2], [2]), ([], []), ([4], [4]), ([5, 3], [5]), ([3, 6], [3, 6]), ([0, 7], [0, 7]), ([8, 6, 0, 1, 2, 3, 4, 5, 6, 7, 8], [0, 8])])
def impl_brokerBytes.B15 : List Nat := [0, 0, 2, 6, 0, 16, 62, 126, 255, 511]
theorem impl_brokerBytes.tab15 : rtab .any (opsOf Try.f35 15) = impl_brokerBytes.T15 := by kernel_rfl
theorem impl_brokerBytes.bits15 : waitsOk impl_brokerBytes.T15.2 impl_brokerBytes.B15 = true := by kernel_rfl
def impl_brokerBytes.T22 : Bool × List (List Nat × List Nat) := (true, [([], []), ([], []), ([1], [1]), ([], []), ([3], [3]), ([2, 4], [2, 4]), ([5], [5]), ([], []), ([7], [7]), ([8, 6], [8]), ([6, 9], [6, 9]), ([0, 10], [0, 10]), ([11, 9, 0, 1, 2, 3, 4, 5, 6, 7, 8, 9, 10, 11], [0, 11])])
def impl_brokerBytes.B22 : List Nat := [0, 0, 2, 0, 8, 30, 62, 0, 128, 510, 1022, 2047, 4095]
theorem impl_brokerBytes.tab22 : rtab .any (opsOf Try.f35 22) = impl_brokerBytes.T22 := by kernel_rfl
theorem impl_brokerBytes.bits22 : waitsOk impl_brokerBytes.T22.2 impl_brokerBytes.B22 = true := by kernel_rfl
set_option maxHeartbeats 60000000 in
set_option maxRecDepth 100000 in
theorem impl_brokerBytes.calls (k : Nat) (A0_0 : Option Addr) (c0_0 : Nat) (l0_0 : List (S44)) (A0_1 : Option Addr) (c0_1 : Nat) (l0_1 : List (S36)) (r : ByteArray) (w : World) (hr0_0 : Kd.C k44 w A0_0 l0_0.length l0_0) (hc0_0 : l0_0.length ≤ c0_0) (hr0_1 : Kd.C k36 w A0_1 l0_1.length l0_1) (hc0_1 : l0_1.length ≤ c0_1) (h : impl_brokerBytes.f k l0_0 l0_1 = some r) :
    Calls Try.prog 35 #[.agg #[.slice A0_0 l0_0.length c0_0, .slice A0_1 l0_1.length c0_1]] w fun e w' => e = .returned (.string r) ∧ Below w.heap.size w w' := by
 have hu31 := Try.underlying31
 have hu44 := Try.underlying44
 have hu79 := Try.underlying79
 have hu36 := Try.underlying36
 have HR0_0 := AM hr0_0
 have HC0_0 := AM hc0_0
 clear hr0_0 hc0_0
 have HR0_1 := AM hr0_1
 have HC0_1 := AM hc0_1
 clear hr0_1 hc0_1
 have HB := AM (Below.refl w.heap.size w)
 have H : ((impl_Topic.f l0_0).bind fun t102 => ((impl_putNum.f k t102).bind fun t103 => (impl_brokerBytes.l0 k t103 l0_0 (l0_0.length : Int) 0 l0_0 l0_1))) = some r := h
 clear h
 replace H := Option.bind_eq_some_iff.mp H
 obtain ⟨t102, A20, H⟩ := H
 replace H : ((impl_putNum.f k t102).bind fun t103 => (impl_brokerBytes.l0 k t103 l0_0 (l0_0.length : Int) 0 l0_0 l0_1)) = some r := H
 have A2 := AM A20
 clear A20
 replace H := Option.bind_eq_some_iff.mp H
 obtain ⟨t103, A30, H⟩ := H
 replace H : (impl_brokerBytes.l0 k t103 l0_0 (l0_0.length : Int) 0 l0_0 l0_1) = some r := H
 have A3 := AM A30
 clear A30
 have H' := AM H
 clear H
 go_enter Try.func35, Try.ntmps35
 go_wp2_with (first | ((with_reducible refine gate_dst (N := 1) rfl ?_); refine box_event (by rfl) (N := 1) (by rfl) (cs := #[.slice A0_0 l0_0.length c0_0, .slice A0_1 l0_1.length c0_1]) (t := 31) (by first | (go_simp; done) | (go_simp; rfl)) ?_; intro gb101 hg w4 hbox hb; have n0_ := AM (below_step (by repeat (first | (with_reducible first | exact HB.out | apply bA | apply bN | apply bD) | exact HB.out)) hb); have n1_ := AM (hbox); have n2_ := AM ((by rw [hg]; exact (bZ (by repeat (first | (with_reducible first | exact HB.out | apply bA | apply bN | apply bD) | exact HB.out))) : w.heap.size ≤ gb101)); have n3_ := n2_; clear HB; have HB := n0_; have BK101 := n1_; have GW101 := n2_; have GE101 := n3_; clear n0_ n1_ n2_ n3_; clear hb hbox hg; have hcz5_0 : w4.cell? ⟨gb101, 0, none⟩ = some (.slice A0_0 l0_0.length c0_0) := (kC BK101.out 0).trans rfl; have hcz5_1 : w4.cell? ⟨gb101, 1, none⟩ = some (.slice A0_1 l0_1.length c0_1) := (kC BK101.out 1).trans rfl; have hfz5_0 := fZ BK101.out 0; have hfz5_1 := fZ BK101.out 1) | ((with_reducible refine gate_callee (f := 60) rfl ?_); refine goesL_ (some 14) rfl rfl Try.func60 (by kernel_rfl) rfl #[.slice A0_0 l0_0.length c0_0] rfl (by (try simp only [mA, mB, mC]); first | done | rfl | (simp only [mD, mE]; rfl)) ?_; (with_reducible refine (impl_Topic.calls _ _ l0_0 t102 _ A2.out).mono ?_); rintro e w' ⟨rfl, ⟨nd, rfl⟩⟩; refine ⟨_, rfl, ?_⟩) | ((with_reducible refine gate_callee (f := 59) rfl ?_); refine goesL_ (some 15) rfl rfl Try.func59 (by kernel_rfl) rfl #[.int .i64 t102] rfl (by (try simp only [mA, mB, mC]); first | done | rfl | (simp only [mD, mE]; rfl)) ?_; (with_reducible refine (impl_putNum.calls k t102 t103 _ A3.out).mono ?_); rintro e w6 ⟨rfl, hb⟩; refine ⟨_, rfl, ?_⟩; have n0_ := AM (blk_below (g := gb101) (o := .cells #[.slice A0_0 l0_0.length c0_0, .slice A0_1 l0_1.length c0_1] 31 (0, 0)) (by (with_reducible repeat (first | apply kN | apply kD | apply kA)); exact BK101.out) hb); have n1_ := AM (below_step (by repeat (first | (with_reducible first | exact HB.out | apply bA | apply bN | apply bD | refine bS ?_ GE101.out) | exact HB.out)) hb); clear BK101; clear HB; have BK101 := n0_; have HB := n1_; clear n0_ n1_; (try clear hb); (try clear hk); have hcz7_0 : w6.cell? ⟨gb101, 0, none⟩ = some (.slice A0_0 l0_0.length c0_0) := (kC BK101.out 0).trans rfl; have hcz7_1 : w6.cell? ⟨gb101, 1, none⟩ = some (.slice A0_1 l0_1.length c0_1) := (kC BK101.out 1).trans rfl; have hfz7_0 := fZ BK101.out 0; have hfz7_1 := fZ BK101.out 1))
 go_loopg [3, 19] k (fun kq v3 v19 w' => ∃ (x3_1 : ByteArray) (x19_1 : Int), v3 = .string x3_1 ∧ v19 = .int .i64 x19_1 ∧ Aside0 (impl_brokerBytes.l0 kq x3_1 l0_0 (l0_0.length : Int) x19_1 l0_0 l0_1 = some r) ∧ Aside0 (kq ≤ k) ∧ Aside0 (w'.heap[gb101]? = some (.cells #[(.slice A0_0 l0_0.length c0_0), (.slice A0_1 l0_1.length c0_1)] 31 (0, 0))) ∧ Aside0 (Below w.heap.size w w'))
 case atStart => exact ⟨(t103), (0), (by first | rfl | (simp; done) | (simp [*]; done)), (by first | rfl | (simp; done) | (simp [*]; done)), H', ⟨Nat.le_refl _⟩, ⟨by (with_reducible repeat (first | apply kN | apply kD | apply kA)); exact BK101.out⟩, ⟨by repeat (first | (with_reducible first | exact HB.out | apply bA | apply bN | apply bD | refine bS ?_ GE101.out) | exact HB.out)⟩⟩
 case round =>
  clear H'
  (try clear p2); (try clear c3); (try clear c5); (try clear c6); (try clear hcz5_0); (try clear hcz5_1); (try clear hcz7_0); (try clear hcz7_1); (try clear hfz5_0); (try clear hfz5_1); (try clear hfz7_0); (try clear hfz7_1)
  obtain ⟨x3_1, x19_1, rfl, rfl, HA, HK1, BK101, HB⟩ := hrel
  cases gk with
  | zero => exact absurd HA.out (by simp [impl_brokerBytes.l0])
  | succ k1 =>
   have H := HA.out
   clear HA
   simp only [impl_brokerBytes.l0] at H
   by_cases c8 : x19_1 < (l0_0.length : Int)
   ·
    rw [if_pos c8] at H
    have c8b0 : decide (x19_1 < (l0_0.length : Int)) = true := decide_eq_true c8
    clear c8
    by_cases c9 : 0 ≤ x19_1
    ·
     rw [if_pos c9] at H
     have c9b0 : decide (0 ≤ x19_1) = true := decide_eq_true c9
     clear c9
     by_cases c10 : x19_1 < (l0_0.length : Int)
     ·
      rw [if_pos c10] at H
      have c10b0 : decide (x19_1 < (l0_0.length : Int)) = true := decide_eq_true c10
      clear c10
      replace H := Option.bind_eq_some_iff.mp H
      obtain ⟨t106, A110, H⟩ := H
      replace H : ((impl_size_string.f ((rd_T44 l0_0 x19_1).f2)).bind fun t107 => ((impl_putNums.f k1 (([(rd_T44 l0_0 x19_1).f1, t107] : List Int))).bind fun t111 => (if t106.size + t111.size ≤ 9223372036854775807 then (if x3_1.size + (t106 ++ t111).size ≤ 9223372036854775807 then (impl_brokerBytes.l1 k1 (x3_1 ++ (t106 ++ t111)) l0_0 (l0_0.length : Int) x19_1 ((rd_T44 l0_0 x19_1).f2) (((rd_T44 l0_0 x19_1).f2).length : Int) 0 l0_0 l0_1 ((rd_T44 l0_0 x19_1).f0) ((rd_T44 l0_0 x19_1).f1) ((rd_T44 l0_0 x19_1).f2) ((rd_T44 l0_0 x19_1).f3)) else (none)) else (none)))) = some r := H
      have A11 := AM A110
      clear A110
      replace H := Option.bind_eq_some_iff.mp H
      obtain ⟨t107, A120, H⟩ := H
      replace H : ((impl_putNums.f k1 (([(rd_T44 l0_0 x19_1).f1, t107] : List Int))).bind fun t111 => (if t106.size + t111.size ≤ 9223372036854775807 then (if x3_1.size + (t106 ++ t111).size ≤ 9223372036854775807 then (impl_brokerBytes.l1 k1 (x3_1 ++ (t106 ++ t111)) l0_0 (l0_0.length : Int) x19_1 ((rd_T44 l0_0 x19_1).f2) (((rd_T44 l0_0 x19_1).f2).length : Int) 0 l0_0 l0_1 ((rd_T44 l0_0 x19_1).f0) ((rd_T44 l0_0 x19_1).f1) ((rd_T44 l0_0 x19_1).f2) ((rd_T44 l0_0 x19_1).f3)) else (none)) else (none))) = some r := H
      have A12 := AM A120
      clear A120
      obtain ⟨y108, hy108⟩ : ∃ y_ : List Int, y_ = (([(rd_T44 l0_0 x19_1).f1, t107] : List Int)) := ⟨_, rfl⟩
      replace H : ((impl_putNums.f k1 y108).bind fun t111 => (if t106.size + t111.size ≤ 9223372036854775807 then (if x3_1.size + (t106 ++ t111).size ≤ 9223372036854775807 then (impl_brokerBytes.l1 k1 (x3_1 ++ (t106 ++ t111)) l0_0 (l0_0.length : Int) x19_1 ((rd_T44 l0_0 x19_1).f2) (((rd_T44 l0_0 x19_1).f2).length : Int) 0 l0_0 l0_1 ((rd_T44 l0_0 x19_1).f0) ((rd_T44 l0_0 x19_1).f1) ((rd_T44 l0_0 x19_1).f2) ((rd_T44 l0_0 x19_1).f3)) else (none)) else (none))) = some r := by first | (rw [hy108]; with_reducible exact H) | (have H2_ := (Option.bind_some _ _).symm.trans H; rw [hy108]; with_reducible exact H2_) | (have H2_ := (Option.bind_some _ _).symm.trans H; with_reducible exact H2_) | with_reducible exact H | (rw [hy108]; exact H) | exact H
      have Ny108 := AM hy108
      clear hy108
      replace H := Option.bind_eq_some_iff.mp H
      obtain ⟨t111, A130, H⟩ := H
      replace H : (if t106.size + t111.size ≤ 9223372036854775807 then (if x3_1.size + (t106 ++ t111).size ≤ 9223372036854775807 then (impl_brokerBytes.l1 k1 (x3_1 ++ (t106 ++ t111)) l0_0 (l0_0.length : Int) x19_1 ((rd_T44 l0_0 x19_1).f2) (((rd_T44 l0_0 x19_1).f2).length : Int) 0 l0_0 l0_1 ((rd_T44 l0_0 x19_1).f0) ((rd_T44 l0_0 x19_1).f1) ((rd_T44 l0_0 x19_1).f2) ((rd_T44 l0_0 x19_1).f3)) else (none)) else (none)) = some r := H
      have A13 := AM A130
      clear A130
      by_cases c14 : t106.size + t111.size ≤ 9223372036854775807
      ·
       rw [if_pos c14] at H
       have c14b0 := eq_true c14
       have c14b1 : decide (t106.size + t111.size ≤ 9223372036854775807) = true := decide_eq_true c14
       try have c14b2 : (9223372036854775807 < t106.size + t111.size) = False := eq_false (Nat.not_lt.2 c14)
       by_cases c15 : x3_1.size + (t106 ++ t111).size ≤ 9223372036854775807
       ·
        rw [if_pos c15] at H
        have c15b0 := eq_true c15
        have c15b1 : decide (x3_1.size + (t106 ++ t111).size ≤ 9223372036854775807) = true := decide_eq_true c15
        try have c15b2 : (9223372036854775807 < x3_1.size + (t106 ++ t111).size) = False := eq_false (Nat.not_lt.2 c15)
        try have c15b12 : (9223372036854775807 < x3_1.size + (t106.size + t111.size)) = False := eq_false (Nat.not_lt.2 (by simpa only [ByteArray.size_append] using c15))
        have H' := AM H
        clear H
        have p104 : 0 ≤ (x19_1 : Int) := of_decide_eq_true (by assumption)
        have q104 : x19_1 < (l0_0.length : Int) := of_decide_eq_true (by assumption)
        obtain ⟨ad104, A104_2, c104_2, A104_3, c104_3, e104, hx104_0, hx104_1, hx104_2, hx104_3, hl104_2, hi104_2, hl104_3, hi104_3⟩ := at_T44 HR0_0.out x19_1 p104 q104
        cases e104
        replace hx104_0 := pw_cell_below HB.out hx104_0
        replace hx104_1 := pw_cell_below HB.out hx104_1
        replace hx104_2 := pw_cell_below HB.out hx104_2
        replace hx104_3 := pw_cell_below HB.out hx104_3
        have HR104_2 := AM hi104_2
        have HC104_2 := AM hl104_2
        clear hi104_2 hl104_2
        have HR104_3 := AM hi104_3
        have HC104_3 := AM hl104_3
        clear hi104_3 hl104_3
        replace p104 := eq_true p104
        replace q104 := eq_true q104
        try go_wp2_with (first | ((with_reducible refine gate_dst (N := 5) rfl ?_); refine box_event (by rfl) (N := 5) (by rfl) (cs := #[.string (⟨#[]⟩ : ByteArray), .int .i64 0, .slice none 0 0, .slice none 0 0]) (t := 44) (by first | (go_simp; done) | (go_simp; rfl)) ?_; intro gb105 hg w16 hbox hb; have n0_ := AM (blk_below (g := gb101) (o := .cells #[.slice (some ad104) l0_0.length c0_0, .slice A0_1 l0_1.length c0_1] 31 (0, 0)) (by (with_reducible repeat (first | apply kN | apply kD | apply kA)); exact BK101.out) hb); have n1_ := AM (below_step (by repeat (first | (with_reducible first | exact HB.out | apply bA | apply bN | apply bD | refine bS ?_ GE101.out) | exact HB.out)) hb); have n2_ := AM (hbox); have n3_ := AM ((by rw [hg]; exact (bZ (by repeat (first | (with_reducible first | exact HB.out | apply bA | apply bN | apply bD | refine bS ?_ GE101.out) | exact HB.out))) : w.heap.size ≤ gb105)); have n4_ := n3_; have n5_ := AM ((by rw [hg]; exact Nat.ne_of_lt (blk_lt (g := gb101) (o := .cells #[.slice (some ad104) l0_0.length c0_0, .slice A0_1 l0_1.length c0_1] 31 (0, 0)) (by (with_reducible repeat (first | apply kN | apply kD | apply kA)); exact BK101.out)) : gb101 ≠ gb105)); have n6_ := AM ((by rw [hg]; exact Nat.ne_of_gt (blk_lt (g := gb101) (o := .cells #[.slice (some ad104) l0_0.length c0_0, .slice A0_1 l0_1.length c0_1] 31 (0, 0)) (by (with_reducible repeat (first | apply kN | apply kD | apply kA)); exact BK101.out)) : gb105 ≠ gb101)); clear BK101; clear HB; have BK101 := n0_; have HB := n1_; have BK105 := n2_; have GW105 := n3_; have GE105 := n4_; have NB101_105 := n5_; have NB105_101 := n6_; clear n0_ n1_ n2_ n3_ n4_ n5_ n6_; clear hb hbox hg; have hnb17 := NB105_101.out; have hnc17 := NB101_105.out; have hcz18_0 : w16.cell? ⟨gb105, 0, none⟩ = some (.string (⟨#[]⟩ : ByteArray)) := (kC BK105.out 0).trans rfl; have hcz18_1 : w16.cell? ⟨gb105, 1, none⟩ = some (.int .i64 0) := (kC BK105.out 1).trans rfl; have hcz18_2 : w16.cell? ⟨gb105, 2, none⟩ = some (.slice none 0 0) := (kC BK105.out 2).trans rfl; have hcz18_3 : w16.cell? ⟨gb105, 3, none⟩ = some (.slice none 0 0) := (kC BK105.out 3).trans rfl; have hfz18_0 := fZ BK105.out 0; have hfz18_1 := fZ BK105.out 1; have hfz18_2 := fZ BK105.out 2; have hfz18_3 := fZ BK105.out 3))
        have n0_ : Aside0 (((((w16.setCell ⟨gb105, 0, none⟩ (.string ((rd_T44 l0_0 x19_1).f0))).setCell ⟨gb105, 1, none⟩ (.int .i64 ((rd_T44 l0_0 x19_1).f1))).setCell ⟨gb105, 2, none⟩ (.slice A104_2 ((rd_T44 l0_0 x19_1).f2).length c104_2)).setCell ⟨gb105, 3, none⟩ (.slice A104_3 ((rd_T44 l0_0 x19_1).f3).length c104_3)).heap[gb101]? = some (.cells #[.slice (some ad104) l0_0.length c0_0, .slice A0_1 l0_1.length c0_1] 31 (0, 0))) := ⟨by (with_reducible repeat (first | apply kN | apply kD | apply kA)); refine blk_far ?_ NB101_105.out _; (with_reducible repeat (first | apply kN | apply kD | apply kA)); refine blk_far ?_ NB101_105.out _; (with_reducible repeat (first | apply kN | apply kD | apply kA)); refine blk_far ?_ NB101_105.out _; (with_reducible repeat (first | apply kN | apply kD | apply kA)); refine blk_far ?_ NB101_105.out _; (with_reducible repeat (first | apply kN | apply kD | apply kA)); exact BK101.out⟩
        have n1_ : Aside0 (((((w16.setCell ⟨gb105, 0, none⟩ (.string ((rd_T44 l0_0 x19_1).f0))).setCell ⟨gb105, 1, none⟩ (.int .i64 ((rd_T44 l0_0 x19_1).f1))).setCell ⟨gb105, 2, none⟩ (.slice A104_2 ((rd_T44 l0_0 x19_1).f2).length c104_2)).setCell ⟨gb105, 3, none⟩ (.slice A104_3 ((rd_T44 l0_0 x19_1).f3).length c104_3)).heap[gb105]? = some (.cells #[.string ((rd_T44 l0_0 x19_1).f0), .int .i64 ((rd_T44 l0_0 x19_1).f1), .slice A104_2 ((rd_T44 l0_0 x19_1).f2).length c104_2, .slice A104_3 ((rd_T44 l0_0 x19_1).f3).length c104_3] 44 (0, 0))) := ⟨by (with_reducible repeat (first | apply kN | apply kD | apply kA)); refine blk_put (cs := #[.string ((rd_T44 l0_0 x19_1).f0), .int .i64 ((rd_T44 l0_0 x19_1).f1), .slice A104_2 ((rd_T44 l0_0 x19_1).f2).length c104_2, .slice none 0 0]) ?_ 3 _ rfl; (with_reducible repeat (first | apply kN | apply kD | apply kA)); refine blk_put (cs := #[.string ((rd_T44 l0_0 x19_1).f0), .int .i64 ((rd_T44 l0_0 x19_1).f1), .slice none 0 0, .slice none 0 0]) ?_ 2 _ rfl; (with_reducible repeat (first | apply kN | apply kD | apply kA)); refine blk_put (cs := #[.string ((rd_T44 l0_0 x19_1).f0), .int .i64 0, .slice none 0 0, .slice none 0 0]) ?_ 1 _ rfl; (with_reducible repeat (first | apply kN | apply kD | apply kA)); refine blk_put (cs := #[.string (⟨#[]⟩ : ByteArray), .int .i64 0, .slice none 0 0, .slice none 0 0]) ?_ 0 _ rfl; (with_reducible repeat (first | apply kN | apply kD | apply kA)); exact BK105.out⟩
        have n2_ : Aside0 (Below w.heap.size w ((((w16.setCell ⟨gb105, 0, none⟩ (.string ((rd_T44 l0_0 x19_1).f0))).setCell ⟨gb105, 1, none⟩ (.int .i64 ((rd_T44 l0_0 x19_1).f1))).setCell ⟨gb105, 2, none⟩ (.slice A104_2 ((rd_T44 l0_0 x19_1).f2).length c104_2)).setCell ⟨gb105, 3, none⟩ (.slice A104_3 ((rd_T44 l0_0 x19_1).f3).length c104_3))) := ⟨by repeat (first | (with_reducible first | exact HB.out | apply bA | apply bN | apply bD | refine bS ?_ GE101.out | refine bS ?_ GE105.out) | exact HB.out)⟩
        (try clear BK101)
        (try clear BK105)
        (try clear HB)
        generalize ((((w16.setCell ⟨gb105, 0, none⟩ (.string ((rd_T44 l0_0 x19_1).f0))).setCell ⟨gb105, 1, none⟩ (.int .i64 ((rd_T44 l0_0 x19_1).f1))).setCell ⟨gb105, 2, none⟩ (.slice A104_2 ((rd_T44 l0_0 x19_1).f2).length c104_2)).setCell ⟨gb105, 3, none⟩ (.slice A104_3 ((rd_T44 l0_0 x19_1).f3).length c104_3)) = w19 at n0_ n1_ n2_ ⊢
        have BK101 := n0_
        have BK105 := n1_
        have HB := n2_
        clear n0_ n1_ n2_
        have n0_ := AM (kD BK101.out)
        have n1_ := AM (kD BK105.out)
        have n2_ := AM (bD HB.out)
        clear BK101
        clear BK105
        clear HB
        have BK101 := n0_
        have BK105 := n1_
        have HB := n2_
        clear n0_ n1_ n2_
        refine start_ (n := 14) (S := fun w' => w'.cell? ⟨gb105, 0, none⟩ = some (.string ((rd_T44 l0_0 x19_1).f0)) ∧ w'.cell? ⟨gb105, 1, none⟩ = some (.int .i64 ((rd_T44 l0_0 x19_1).f1)) ∧ w'.cell? ⟨gb105, 2, none⟩ = some (.slice A104_2 ((rd_T44 l0_0 x19_1).f2).length c104_2) ∧ w'.cell? ⟨gb105, 3, none⟩ = some (.slice A104_3 ((rd_T44 l0_0 x19_1).f3).length c104_3)) (ds := []) (upTo 0 14) (by kernel_rfl) rfl rfl ⟨(kC BK105.out 0).trans rfl, (kC BK105.out 1).trans rfl, (kC BK105.out 2).trans rfl, (kC BK105.out 3).trans rfl⟩ (fun hHeld => ?_); refine with_tabW impl_brokerBytes.tab5 impl_brokerBytes.bits5 (fun HT_ HW_ => ?_)
        generalize w19.drew = w20 at BK101 BK105 HB hHeld ⊢
        refine pF 0 1 14 23 ?_
        refine pF 1 2 14 24 ?_
        refine pF2 4 27 impl_brokerBytes.b0 ?_
        refine pF2 6 29 impl_brokerBytes.b1 ?_
        refine pT2 2 25 impl_brokerBytes.b2 ?_ hHeld
        refine pT2 5 28 impl_brokerBytes.b3 ?_ hHeld
        refine pT2 7 30 impl_brokerBytes.b4 ?_ hHeld
        refine one_ (i := 3) (N := some 26) (upTo 8 14) rfl rfl (one_of HT_.out (by kernel_rfl)) (by decide) (fun K hK => ?_)
        refine goes_ Try.func61 (by kernel_rfl) rfl #[.string ((rd_T44 l0_0 x19_1).f0)] (by rfl) rfl rfl (by (try simp only [mA, mB, mC]); first | done | rfl | (simp only [mD, mE]; rfl)) ?_
        with_reducible refine (impl_putText.calls k1 ((rd_T44 l0_0 x19_1).f0) t106 _ A11.out).mono ?_
        rintro e w21 ⟨rfl, hb⟩
        refine ⟨_, rfl, ?_⟩
        have n0_ := AM (blk_below (g := gb101) (o := .cells #[.slice (some ad104) l0_0.length c0_0, .slice A0_1 l0_1.length c0_1] 31 (0, 0)) (by (with_reducible repeat (first | apply kN | apply kD | apply kA)); exact BK101.out) hb)
        have n1_ := AM (blk_below (g := gb105) (o := .cells #[.string ((rd_T44 l0_0 x19_1).f0), .int .i64 ((rd_T44 l0_0 x19_1).f1), .slice A104_2 ((rd_T44 l0_0 x19_1).f2).length c104_2, .slice A104_3 ((rd_T44 l0_0 x19_1).f3).length c104_3] 44 (0, 0)) (by (with_reducible repeat (first | apply kN | apply kD | apply kA)); exact BK105.out) hb)
        have n2_ := AM (below_step (by repeat (first | (with_reducible first | exact HB.out | apply bA | apply bN | apply bD | refine bS ?_ GE101.out | refine bS ?_ GE105.out) | exact HB.out)) hb)
        clear BK101
        clear BK105
        clear HB
        have BK101 := n0_
        have BK105 := n1_
        have HB := n2_
        clear n0_ n1_ n2_
        (try clear hb)
        (try clear hk)
        refine hK.out _ _ ⟨(kC BK105.out 0).trans rfl, (kC BK105.out 1).trans rfl, (kC BK105.out 2).trans rfl, (kC BK105.out 3).trans rfl⟩ (fun hHeld => ?_)
        clear hK K
        refine norm_ (a' := ?_) ?_ ?_
        rotate_left
        ·
         show Act.put _ (some 26) _ = _
         simp only [Act.put, sA, sB, sC, i64_w, i32_w]
         rfl
        refine one_ (i := 8) (N := some 31) (upTo 9 14) rfl rfl (one_of HT_.out (by kernel_rfl)) (by decide) (fun K hK => ?_)
        refine goes_ Try.func63 (by kernel_rfl) rfl #[.slice A104_2 ((rd_T44 l0_0 x19_1).f2).length c104_2] (by rfl) rfl rfl (by (try simp only [mA, mB, mC]); first | done | rfl | (simp only [mD, mE]; rfl)) ?_
        with_reducible refine (impl_size_string.calls _ _ ((rd_T44 l0_0 x19_1).f2) t107 _ A12.out).mono ?_
        rintro e w' ⟨rfl, ⟨nd, rfl⟩⟩
        refine ⟨_, rfl, ?_⟩
        refine hK.out _ _ ⟨(kC BK105.out 0).trans rfl, (kC BK105.out 1).trans rfl, (kC BK105.out 2).trans rfl, (kC BK105.out 3).trans rfl⟩ (fun hHeld => ?_)
        clear hK K
        refine norm_ (a' := ?_) ?_ ?_
        rotate_left
        ·
         show Act.put _ (some 31) _ = _
         simp only [Act.put, sA, sB, sC, i64_w, i32_w]
         rfl
        refine one_ (i := 9) (N := some 32) (upTo 10 14) rfl rfl (one_of HT_.out (by kernel_rfl)) (by decide) (fun K hK => ?_)
        refine Kd.R_lit_step (Kd.int .i64) _ 2 ?hg (N := 32) ?hd (xs := ([(rd_T44 l0_0 x19_1).f1, t107] : List Int)) (inner := [.int .i64 ((rd_T44 l0_0 x19_1).f1), .int .i64 t107]) (ok := fun _ => True) (okp := fun _ => True) ?hr ?hp (fun _ hk => hk) trivial (Below.refl _ _) (Nat.le_refl _) (by simp) ?_; (case hd => rfl); (case hg => rfl); (case hr => first | (go_simp; done) | (go_simp; rfl)); (case hp => exact (Reps.one (show Kd.M (Kd.int .i64) _ _ _ ((rd_T44 l0_0 x19_1).f1) [.int .i64 ((rd_T44 l0_0 x19_1).f1)] from rfl) (Reps.one (show Kd.M (Kd.int .i64) _ _ _ t107 [.int .i64 t107] from rfl) (Reps.none _ _))))
        intro v109 w22 ho23 hb hg_ hnew_
        clear hg_ hnew_
        (first | rw [← Ny108.out] at ho23 | (simp only [Int.reduceToNat] at ho23; rw [← Ny108.out] at ho23))
        have n0_ := AM (Kd.R_lower ho23 (bZ (by repeat (first | (with_reducible first | exact HB.out | apply bA | apply bN | apply bD | refine bS ?_ GE101.out | refine bS ?_ GE105.out) | exact HB.out))))
        have n1_ := AM (blk_below (g := gb101) (o := .cells #[.slice (some ad104) l0_0.length c0_0, .slice A0_1 l0_1.length c0_1] 31 (0, 0)) (by (with_reducible repeat (first | apply kN | apply kD | apply kA)); exact BK101.out) hb)
        have n2_ := AM (blk_below (g := gb105) (o := .cells #[.string ((rd_T44 l0_0 x19_1).f0), .int .i64 ((rd_T44 l0_0 x19_1).f1), .slice A104_2 ((rd_T44 l0_0 x19_1).f2).length c104_2, .slice A104_3 ((rd_T44 l0_0 x19_1).f3).length c104_3] 44 (0, 0)) (by (with_reducible repeat (first | apply kN | apply kD | apply kA)); exact BK105.out) hb)
        have n3_ := AM (below_step (by repeat (first | (with_reducible first | exact HB.out | apply bA | apply bN | apply bD | refine bS ?_ GE101.out | refine bS ?_ GE105.out) | exact HB.out)) hb)
        clear BK101
        clear BK105
        clear HB
        have HO110 := n0_
        have BK101 := n1_
        have BK105 := n2_
        have HB := n3_
        clear n0_ n1_ n2_ n3_
        clear hb ho23
        obtain ⟨Ao24, co24, eo24⟩ := Kd.R_slice HO110.out
        (first | subst eo24 | (injection eo24 with f1_ f2_ f3_; have f4_ := f1_.symm; have f5_ := f3_.symm; clear f1_ f2_ f3_; subst f4_; subst f5_))
        refine hK.out _ _ ⟨(kC BK105.out 0).trans rfl, (kC BK105.out 1).trans rfl, (kC BK105.out 2).trans rfl, (kC BK105.out 3).trans rfl⟩ (fun hHeld => ?_)
        clear hK K
        refine norm_ (a' := ?_) ?_ ?_
        rotate_left
        ·
         show Act.put _ (some 32) _ = _
         simp only [Act.put, sA, sB, sC, i64_w, i32_w]
         rfl
        refine one_ (i := 10) (N := some 33) (upTo 11 14) rfl rfl (one_of HT_.out (by kernel_rfl)) (by decide) (fun K hK => ?_)
        refine goes_ Try.func62 (by kernel_rfl) rfl #[.slice Ao24 y108.length co24] (by rfl) rfl rfl (by (try simp only [mA, mB, mC]); first | done | rfl | (simp only [mD, mE]; rfl)) ?_
        with_reducible refine (impl_putNums.calls k1 _ _ y108 t111 _ ?side1 ?side2 A13.out).mono ?_
        (case side1 => repeat (first | exact (Kd.R_reads' HO110.out).2.2 | (with_reducible first | apply cA | apply cN | apply cD)))
        (case side2 => exact (Kd.R_reads' HO110.out).2.1)
        rintro e w25 ⟨rfl, hb⟩
        refine ⟨_, rfl, ?_⟩
        have n0_ := AM (Kd.R_below (by (with_reducible repeat (first | apply rA | apply rN | apply rD)); exact HO110.out) hb)
        have n1_ := AM (blk_below (g := gb101) (o := .cells #[.slice (some ad104) l0_0.length c0_0, .slice A0_1 l0_1.length c0_1] 31 (0, 0)) (by (with_reducible repeat (first | apply kN | apply kD | apply kA)); exact BK101.out) hb)
        have n2_ := AM (blk_below (g := gb105) (o := .cells #[.string ((rd_T44 l0_0 x19_1).f0), .int .i64 ((rd_T44 l0_0 x19_1).f1), .slice A104_2 ((rd_T44 l0_0 x19_1).f2).length c104_2, .slice A104_3 ((rd_T44 l0_0 x19_1).f3).length c104_3] 44 (0, 0)) (by (with_reducible repeat (first | apply kN | apply kD | apply kA)); exact BK105.out) hb)
        have n3_ := AM (below_step (by repeat (first | (with_reducible first | exact HB.out | apply bA | apply bN | apply bD | refine bS ?_ GE101.out | refine bS ?_ GE105.out) | exact HB.out)) hb)
        clear HO110
        clear BK101
        clear BK105
        clear HB
        have HO110 := n0_
        have BK101 := n1_
        have BK105 := n2_
        have HB := n3_
        clear n0_ n1_ n2_ n3_
        (try clear hb)
        (try clear hk)
        refine hK.out _ _ ⟨(kC BK105.out 0).trans rfl, (kC BK105.out 1).trans rfl, (kC BK105.out 2).trans rfl, (kC BK105.out 3).trans rfl⟩ (fun hHeld => ?_)
        clear hK K
        refine norm_ (a' := ?_) ?_ ?_
        rotate_left
        ·
         show Act.put _ (some 33) _ = _
         simp only [Act.put, sA, sB, sC, i64_w, i32_w]
         rfl
        refine pF 11 12 14 34 ?_
        refine pF 12 13 14 35 ?_
        refine pF 13 14 14 3 ?_
        refine done_ (done_of HT_.out (by kernel_rfl)) ?_
        have hcz26_0 : w25.cell? ⟨gb105, 0, none⟩ = some (.string ((rd_T44 l0_0 x19_1).f0)) := (kC BK105.out 0).trans rfl
        have hcz26_1 : w25.cell? ⟨gb105, 1, none⟩ = some (.int .i64 ((rd_T44 l0_0 x19_1).f1)) := (kC BK105.out 1).trans rfl
        have hcz26_2 : w25.cell? ⟨gb105, 2, none⟩ = some (.slice A104_2 ((rd_T44 l0_0 x19_1).f2).length c104_2) := (kC BK105.out 2).trans rfl
        have hcz26_3 : w25.cell? ⟨gb105, 3, none⟩ = some (.slice A104_3 ((rd_T44 l0_0 x19_1).f3).length c104_3) := (kC BK105.out 3).trans rfl
        have hfz26_0 := fZ BK105.out 0
        have hfz26_1 := fZ BK105.out 1
        have hfz26_2 := fZ BK105.out 2
        have hfz26_3 := fZ BK105.out 3
        try go_wp2
        go_loopg [3, 39] k1 (fun kq v3 v39 w' => ∃ (x3_2 : ByteArray) (x39_2 : Int), v3 = .string x3_2 ∧ v39 = .int .i64 x39_2 ∧ Aside0 (impl_brokerBytes.l1 kq x3_2 l0_0 (l0_0.length : Int) x19_1 ((rd_T44 l0_0 x19_1).f2) (((rd_T44 l0_0 x19_1).f2).length : Int) x39_2 l0_0 l0_1 ((rd_T44 l0_0 x19_1).f0) ((rd_T44 l0_0 x19_1).f1) ((rd_T44 l0_0 x19_1).f2) ((rd_T44 l0_0 x19_1).f3) = some r) ∧ Aside0 (kq ≤ k1) ∧ Aside0 (w'.heap[gb101]? = some (.cells #[(.slice (some ad104) l0_0.length c0_0), (.slice A0_1 l0_1.length c0_1)] 31 (0, 0))) ∧ Aside0 (w'.heap[gb105]? = some (.cells #[.string ((rd_T44 l0_0 x19_1).f0), .int .i64 ((rd_T44 l0_0 x19_1).f1), (.slice A104_2 ((rd_T44 l0_0 x19_1).f2).length c104_2), (.slice A104_3 ((rd_T44 l0_0 x19_1).f3).length c104_3)] 44 (0, 0))) ∧ Aside0 (Below w.heap.size w w'))
        case atStart => exact ⟨(x3_1 ++ (t106 ++ t111)), (0), (by first | rfl | (simp; done) | (simp [*]; done)), (by first | rfl | (simp; done) | (simp [*]; done)), H', ⟨Nat.le_refl _⟩, ⟨by (with_reducible repeat (first | apply kN | apply kD | apply kA)); exact BK101.out⟩, ⟨by (with_reducible repeat (first | apply kN | apply kD | apply kA)); exact BK105.out⟩, ⟨by repeat (first | (with_reducible first | exact HB.out | apply bA | apply bN | apply bD | refine bS ?_ GE101.out | refine bS ?_ GE105.out) | exact HB.out)⟩⟩
        case round =>
         clear H'
         (try clear c1); (try clear p1); (try clear q1); (try clear hx1); (try clear p2); (try clear c3); (try clear c5); (try clear c6); (try clear c8); (try clear c8b0); (try clear c9); (try clear c9b0); (try clear c10); (try clear c10b0); (try clear p10); (try clear q10); (try clear hx10); (try clear c14); (try clear c14b0); (try clear c14b1); (try clear c14b2); (try clear c15); (try clear c15b0); (try clear c15b1); (try clear c15b2); (try clear c17); (try clear hcz18_0); (try clear hcz18_1); (try clear hcz18_2); (try clear hcz18_3); (try clear hcz26_0); (try clear hcz26_1); (try clear hcz26_2); (try clear hcz26_3); (try clear hcz5_0); (try clear hcz5_1); (try clear hcz7_0); (try clear hcz7_1); (try clear hfz18_0); (try clear hfz18_1); (try clear hfz18_2); (try clear hfz18_3); (try clear hfz26_0); (try clear hfz26_1); (try clear hfz26_2); (try clear hfz26_3); (try clear hfz5_0); (try clear hfz5_1); (try clear hfz7_0); (try clear hfz7_1); (try clear hx104_0); (try clear hx104_1); (try clear hx104_2); (try clear hx104_3); (try clear p104); (try clear q104)
         obtain ⟨x3_2, x39_2, rfl, rfl, HA, HK2, BK101, BK105, HB⟩ := hrel
         cases gk with
         | zero => exact absurd HA.out (by simp [impl_brokerBytes.l1])
         | succ k2 =>
          have H := HA.out
          clear HA
          simp only [impl_brokerBytes.l1] at H
          by_cases c27 : x39_2 < (((rd_T44 l0_0 x19_1).f2).length : Int)
          ·
           rw [if_pos c27] at H
           have c27b0 : decide (x39_2 < (((rd_T44 l0_0 x19_1).f2).length : Int)) = true := decide_eq_true c27
           clear c27
           by_cases c28 : 0 ≤ x39_2
           ·
            rw [if_pos c28] at H
            have c28b0 : decide (0 ≤ x39_2) = true := decide_eq_true c28
            clear c28
            by_cases c29 : x39_2 < (((rd_T44 l0_0 x19_1).f2).length : Int)
            ·
             rw [if_pos c29] at H
             have c29b0 : decide (x39_2 < (((rd_T44 l0_0 x19_1).f2).length : Int)) = true := decide_eq_true c29
             clear c29
             replace H := Option.bind_eq_some_iff.mp H
             obtain ⟨t113, A300, H⟩ := H
             replace H : (if x3_2.size + t113.size ≤ 9223372036854775807 then (impl_brokerBytes.l1 k2 (x3_2 ++ t113) l0_0 (l0_0.length : Int) x19_1 ((rd_T44 l0_0 x19_1).f2) (((rd_T44 l0_0 x19_1).f2).length : Int) (wrap64 (x39_2 + 1)) l0_0 l0_1 ((rd_T44 l0_0 x19_1).f0) ((rd_T44 l0_0 x19_1).f1) ((rd_T44 l0_0 x19_1).f2) ((rd_T44 l0_0 x19_1).f3)) else (none)) = some r := H
             have A30 := AM A300
             clear A300
             by_cases c31 : x3_2.size + t113.size ≤ 9223372036854775807
             ·
              rw [if_pos c31] at H
              have c31b0 := eq_true c31
              have c31b1 : decide (x3_2.size + t113.size ≤ 9223372036854775807) = true := decide_eq_true c31
              try have c31b2 : (9223372036854775807 < x3_2.size + t113.size) = False := eq_false (Nat.not_lt.2 c31)
              have H' := AM H
              clear H
              have p112 : 0 ≤ (x39_2 : Int) := of_decide_eq_true (by assumption)
              have q112 : x39_2 < (((rd_T44 l0_0 x19_1).f2).length : Int) := of_decide_eq_true (by assumption)
              obtain ⟨ad112, e112, hx112_0⟩ := Kd.at_string HR104_2.out x39_2 p112 q112
              cases e112
              replace hx112_0 := pw_cell_below HB.out hx112_0
              replace p112 := eq_true p112
              replace q112 := eq_true q112
              go_wp2_with (first | ((with_reducible refine gate_callee (f := 61) rfl ?_); refine goesL_ (some 45) rfl rfl Try.func61 (by kernel_rfl) rfl #[.string (rdOf ByteArray.empty ((rd_T44 l0_0 x19_1).f2) x39_2)] rfl (by (try simp only [mA, mB, mC]); first | done | rfl | (simp only [mD, mE]; rfl)) ?_; (with_reducible refine (impl_putText.calls k2 (rdOf ByteArray.empty ((rd_T44 l0_0 x19_1).f2) x39_2) t113 _ A30.out).mono ?_); rintro e w32 ⟨rfl, hb⟩; refine ⟨_, rfl, ?_⟩; have n0_ := AM (blk_below (g := gb101) (o := .cells #[.slice (some ad104) l0_0.length c0_0, .slice A0_1 l0_1.length c0_1] 31 (0, 0)) (by (with_reducible repeat (first | apply kN | apply kD | apply kA)); exact BK101.out) hb); have n1_ := AM (blk_below (g := gb105) (o := .cells #[.string ((rd_T44 l0_0 x19_1).f0), .int .i64 ((rd_T44 l0_0 x19_1).f1), .slice (some ad112) ((rd_T44 l0_0 x19_1).f2).length c104_2, .slice A104_3 ((rd_T44 l0_0 x19_1).f3).length c104_3] 44 (0, 0)) (by (with_reducible repeat (first | apply kN | apply kD | apply kA)); exact BK105.out) hb); have n2_ := AM (below_step (by repeat (first | (with_reducible first | exact HB.out | apply bA | apply bN | apply bD | refine bS ?_ GE101.out | refine bS ?_ GE105.out) | exact HB.out)) hb); clear BK101; clear BK105; clear HB; have BK101 := n0_; have BK105 := n1_; have HB := n2_; clear n0_ n1_ n2_; (try clear hb); (try clear hk)))
              go_roundg k2
              case measure => have := HK1.out; have := HK2.out; omega
              case rel => exact ⟨(x3_2 ++ t113), (wrap64 (x39_2 + 1)), (by first | rfl | (simp; done) | (simp [*]; done)), (by first | rfl | (simp; done) | (simp [*]; done)), H', ⟨by have := HK1.out; have := HK2.out; omega⟩, ⟨by (with_reducible repeat (first | apply kN | apply kD | apply kA)); exact BK101.out⟩, ⟨by (with_reducible repeat (first | apply kN | apply kD | apply kA)); exact BK105.out⟩, ⟨by repeat (first | (with_reducible first | exact HB.out | apply bA | apply bN | apply bD | refine bS ?_ GE101.out | refine bS ?_ GE105.out) | exact HB.out)⟩⟩
             ·
              rw [if_neg c31] at H
              exact absurd H (by simp)
            ·
             rw [if_neg c29] at H
             exact absurd H (by simp)
           ·
            rw [if_neg c28] at H
            exact absurd H (by simp)
          ·
           rw [if_neg c27] at H
           have c27b0 : decide (x39_2 < (((rd_T44 l0_0 x19_1).f2).length : Int)) = false := decide_eq_false c27
           clear c27
           replace H := Option.bind_eq_some_iff.mp H
           obtain ⟨t114, A330, H⟩ := H
           replace H : ((impl_putNum.f k2 t114).bind fun t115 => (if x3_2.size + t115.size ≤ 9223372036854775807 then (impl_brokerBytes.l2 k2 (x3_2 ++ t115) l0_0 (l0_0.length : Int) x19_1 ((rd_T44 l0_0 x19_1).f3) (((rd_T44 l0_0 x19_1).f3).length : Int) 0 l0_0 l0_1) else (none))) = some r := H
           have A33 := AM A330
           clear A330
           replace H := Option.bind_eq_some_iff.mp H
           obtain ⟨t115, A340, H⟩ := H
           replace H : (if x3_2.size + t115.size ≤ 9223372036854775807 then (impl_brokerBytes.l2 k2 (x3_2 ++ t115) l0_0 (l0_0.length : Int) x19_1 ((rd_T44 l0_0 x19_1).f3) (((rd_T44 l0_0 x19_1).f3).length : Int) 0 l0_0 l0_1) else (none)) = some r := H
           have A34 := AM A340
           clear A340
           by_cases c35 : x3_2.size + t115.size ≤ 9223372036854775807
           ·
            rw [if_pos c35] at H
            have c35b0 := eq_true c35
            have c35b1 : decide (x3_2.size + t115.size ≤ 9223372036854775807) = true := decide_eq_true c35
            try have c35b2 : (9223372036854775807 < x3_2.size + t115.size) = False := eq_false (Nat.not_lt.2 c35)
            have H' := AM H
            clear H
            have hnb36 := NB105_101.out
            have hnc36 := NB101_105.out
            have hcz37_0 : wr.cell? ⟨gb105, 0, none⟩ = some (.string ((rd_T44 l0_0 x19_1).f0)) := (kC BK105.out 0).trans rfl
            have hcz37_1 : wr.cell? ⟨gb105, 1, none⟩ = some (.int .i64 ((rd_T44 l0_0 x19_1).f1)) := (kC BK105.out 1).trans rfl
            have hcz37_2 : wr.cell? ⟨gb105, 2, none⟩ = some (.slice A104_2 ((rd_T44 l0_0 x19_1).f2).length c104_2) := (kC BK105.out 2).trans rfl
            have hcz37_3 : wr.cell? ⟨gb105, 3, none⟩ = some (.slice A104_3 ((rd_T44 l0_0 x19_1).f3).length c104_3) := (kC BK105.out 3).trans rfl
            have hfz37_0 := fZ BK105.out 0
            have hfz37_1 := fZ BK105.out 1
            have hfz37_2 := fZ BK105.out 2
            have hfz37_3 := fZ BK105.out 3
            go_wp2_with (first | ((with_reducible refine gate_callee (f := 64) rfl ?_); refine goesL_ (some 51) rfl rfl Try.func64 (by kernel_rfl) rfl #[.slice A104_3 ((rd_T44 l0_0 x19_1).f3).length c104_3] rfl (by (try simp only [mA, mB, mC]); first | done | rfl | (simp only [mD, mE]; rfl)) ?_; (with_reducible refine (impl_Group_64.calls _ _ ((rd_T44 l0_0 x19_1).f3) t114 _ A33.out).mono ?_); rintro e w' ⟨rfl, ⟨nd, rfl⟩⟩; refine ⟨_, rfl, ?_⟩) | ((with_reducible refine gate_callee (f := 59) rfl ?_); refine goesL_ (some 52) rfl rfl Try.func59 (by kernel_rfl) rfl #[.int .i64 t114] rfl (by (try simp only [mA, mB, mC]); first | done | rfl | (simp only [mD, mE]; rfl)) ?_; (with_reducible refine (impl_putNum.calls k2 t114 t115 _ A34.out).mono ?_); rintro e w38 ⟨rfl, hb⟩; refine ⟨_, rfl, ?_⟩; have n0_ := AM (blk_below (g := gb101) (o := .cells #[.slice (some ad104) l0_0.length c0_0, .slice A0_1 l0_1.length c0_1] 31 (0, 0)) (by (with_reducible repeat (first | apply kN | apply kD | apply kA)); exact BK101.out) hb); have n1_ := AM (blk_below (g := gb105) (o := .cells #[.string ((rd_T44 l0_0 x19_1).f0), .int .i64 ((rd_T44 l0_0 x19_1).f1), .slice A104_2 ((rd_T44 l0_0 x19_1).f2).length c104_2, .slice A104_3 ((rd_T44 l0_0 x19_1).f3).length c104_3] 44 (0, 0)) (by (with_reducible repeat (first | apply kN | apply kD | apply kA)); exact BK105.out) hb); have n2_ := AM (below_step (by repeat (first | (with_reducible first | exact HB.out | apply bA | apply bN | apply bD | refine bS ?_ GE101.out | refine bS ?_ GE105.out) | exact HB.out)) hb); clear BK101; clear BK105; clear HB; have BK101 := n0_; have BK105 := n1_; have HB := n2_; clear n0_ n1_ n2_; (try clear hb); (try clear hk); have hcz39_0 : w38.cell? ⟨gb105, 0, none⟩ = some (.string ((rd_T44 l0_0 x19_1).f0)) := (kC BK105.out 0).trans rfl; have hcz39_1 : w38.cell? ⟨gb105, 1, none⟩ = some (.int .i64 ((rd_T44 l0_0 x19_1).f1)) := (kC BK105.out 1).trans rfl; have hcz39_2 : w38.cell? ⟨gb105, 2, none⟩ = some (.slice A104_2 ((rd_T44 l0_0 x19_1).f2).length c104_2) := (kC BK105.out 2).trans rfl; have hcz39_3 : w38.cell? ⟨gb105, 3, none⟩ = some (.slice A104_3 ((rd_T44 l0_0 x19_1).f3).length c104_3) := (kC BK105.out 3).trans rfl; have hfz39_0 := fZ BK105.out 0; have hfz39_1 := fZ BK105.out 1; have hfz39_2 := fZ BK105.out 2; have hfz39_3 := fZ BK105.out 3))
            go_loopg [3, 57] k2 (fun kq v3 v57 w' => ∃ (x3_3 : ByteArray) (x57_3 : Int), v3 = .string x3_3 ∧ v57 = .int .i64 x57_3 ∧ Aside0 (impl_brokerBytes.l2 kq x3_3 l0_0 (l0_0.length : Int) x19_1 ((rd_T44 l0_0 x19_1).f3) (((rd_T44 l0_0 x19_1).f3).length : Int) x57_3 l0_0 l0_1 = some r) ∧ Aside0 (kq ≤ k2) ∧ Aside0 (w'.heap[gb101]? = some (.cells #[(.slice (some ad104) l0_0.length c0_0), (.slice A0_1 l0_1.length c0_1)] 31 (0, 0))) ∧ Aside0 (w'.heap[gb105]? = some (.cells #[.string ((rd_T44 l0_0 x19_1).f0), .int .i64 ((rd_T44 l0_0 x19_1).f1), (.slice A104_2 ((rd_T44 l0_0 x19_1).f2).length c104_2), (.slice A104_3 ((rd_T44 l0_0 x19_1).f3).length c104_3)] 44 (0, 0))) ∧ Aside0 (Below w.heap.size w w'))
            case atStart => exact ⟨(x3_2 ++ t115), (0), (by first | rfl | (simp; done) | (simp [*]; done)), (by first | rfl | (simp; done) | (simp [*]; done)), H', ⟨Nat.le_refl _⟩, ⟨by (with_reducible repeat (first | apply kN | apply kD | apply kA)); exact BK101.out⟩, ⟨by (with_reducible repeat (first | apply kN | apply kD | apply kA)); exact BK105.out⟩, ⟨by repeat (first | (with_reducible first | exact HB.out | apply bA | apply bN | apply bD | refine bS ?_ GE101.out | refine bS ?_ GE105.out) | exact HB.out)⟩⟩
            case round =>
             clear H'
             (try clear c1); (try clear p1); (try clear q1); (try clear hx1); (try clear c2); (try clear p2); (try clear c3); (try clear c5); (try clear c6); (try clear p6); (try clear c8); (try clear c8b0); (try clear c9); (try clear c9b0); (try clear c10); (try clear c10b0); (try clear p10); (try clear q10); (try clear hx10); (try clear p11); (try clear q11); (try clear hx11); (try clear c14); (try clear c14b0); (try clear c14b1); (try clear c14b2); (try clear c15); (try clear c15b0); (try clear c15b1); (try clear c15b2); (try clear c17); (try clear c27); (try clear c27b0); (try clear c28); (try clear c28b0); (try clear c29); (try clear c29b0); (try clear c31); (try clear c31b0); (try clear c31b1); (try clear c31b2); (try clear c35); (try clear c35b0); (try clear c35b1); (try clear c35b2); (try clear c36); (try clear hcz18_0); (try clear hcz18_1); (try clear hcz18_2); (try clear hcz18_3); (try clear hcz26_0); (try clear hcz26_1); (try clear hcz26_2); (try clear hcz26_3); (try clear hcz37_0); (try clear hcz37_1); (try clear hcz37_2); (try clear hcz37_3); (try clear hcz39_0); (try clear hcz39_1); (try clear hcz39_2); (try clear hcz39_3); (try clear hcz5_0); (try clear hcz5_1); (try clear hcz7_0); (try clear hcz7_1); (try clear hfz18_0); (try clear hfz18_1); (try clear hfz18_2); (try clear hfz18_3); (try clear hfz26_0); (try clear hfz26_1); (try clear hfz26_2); (try clear hfz26_3); (try clear hfz37_0); (try clear hfz37_1); (try clear hfz37_2); (try clear hfz37_3); (try clear hfz39_0); (try clear hfz39_1); (try clear hfz39_2); (try clear hfz39_3); (try clear hfz5_0); (try clear hfz5_1); (try clear hfz7_0); (try clear hfz7_1); (try clear hx104_0); (try clear hx104_1); (try clear hx104_2); (try clear hx104_3); (try clear hx112_0); (try clear p104); (try clear p112); (try clear q104); (try clear q112)
             obtain ⟨x3_3, x57_3, rfl, rfl, HA, HK3, BK101, BK105, HB⟩ := hrel
             cases gk with
             | zero => exact absurd HA.out (by simp [impl_brokerBytes.l2])
             | succ k3 =>
              have H := HA.out
              clear HA
              simp only [impl_brokerBytes.l2] at H
              by_cases c40 : x57_3 < (((rd_T44 l0_0 x19_1).f3).length : Int)
              ·
               rw [if_pos c40] at H
               have c40b0 : decide (x57_3 < (((rd_T44 l0_0 x19_1).f3).length : Int)) = true := decide_eq_true c40
               clear c40
               by_cases c41 : 0 ≤ x57_3
               ·
                rw [if_pos c41] at H
                have c41b0 : decide (0 ≤ x57_3) = true := decide_eq_true c41
                clear c41
                by_cases c42 : x57_3 < (((rd_T44 l0_0 x19_1).f3).length : Int)
                ·
                 rw [if_pos c42] at H
                 have c42b0 : decide (x57_3 < (((rd_T44 l0_0 x19_1).f3).length : Int)) = true := decide_eq_true c42
                 clear c42
                 replace H := Option.bind_eq_some_iff.mp H
                 obtain ⟨t118, A430, H⟩ := H
                 replace H : ((impl_putNum.f k3 ((rd_T79 ((rd_T44 l0_0 x19_1).f3) x57_3).f1)).bind fun t119 => (if t118.size + t119.size ≤ 9223372036854775807 then (if x3_3.size + (t118 ++ t119).size ≤ 9223372036854775807 then (impl_brokerBytes.l2 k3 (x3_3 ++ (t118 ++ t119)) l0_0 (l0_0.length : Int) x19_1 ((rd_T44 l0_0 x19_1).f3) (((rd_T44 l0_0 x19_1).f3).length : Int) (wrap64 (x57_3 + 1)) l0_0 l0_1) else (none)) else (none))) = some r := H
                 have A43 := AM A430
                 clear A430
                 replace H := Option.bind_eq_some_iff.mp H
                 obtain ⟨t119, A440, H⟩ := H
                 replace H : (if t118.size + t119.size ≤ 9223372036854775807 then (if x3_3.size + (t118 ++ t119).size ≤ 9223372036854775807 then (impl_brokerBytes.l2 k3 (x3_3 ++ (t118 ++ t119)) l0_0 (l0_0.length : Int) x19_1 ((rd_T44 l0_0 x19_1).f3) (((rd_T44 l0_0 x19_1).f3).length : Int) (wrap64 (x57_3 + 1)) l0_0 l0_1) else (none)) else (none)) = some r := H
                 have A44 := AM A440
                 clear A440
                 by_cases c45 : t118.size + t119.size ≤ 9223372036854775807
                 ·
                  rw [if_pos c45] at H
                  have c45b0 := eq_true c45
                  have c45b1 : decide (t118.size + t119.size ≤ 9223372036854775807) = true := decide_eq_true c45
                  try have c45b2 : (9223372036854775807 < t118.size + t119.size) = False := eq_false (Nat.not_lt.2 c45)
                  by_cases c46 : x3_3.size + (t118 ++ t119).size ≤ 9223372036854775807
                  ·
                   rw [if_pos c46] at H
                   have c46b0 := eq_true c46
                   have c46b1 : decide (x3_3.size + (t118 ++ t119).size ≤ 9223372036854775807) = true := decide_eq_true c46
                   try have c46b2 : (9223372036854775807 < x3_3.size + (t118 ++ t119).size) = False := eq_false (Nat.not_lt.2 c46)
                   try have c46b12 : (9223372036854775807 < x3_3.size + (t118.size + t119.size)) = False := eq_false (Nat.not_lt.2 (by simpa only [ByteArray.size_append] using c46))
                   have H' := AM H
                   clear H
                   have p116 : 0 ≤ (x57_3 : Int) := of_decide_eq_true (by assumption)
                   have q116 : x57_3 < (((rd_T44 l0_0 x19_1).f3).length : Int) := of_decide_eq_true (by assumption)
                   obtain ⟨ad116, e116, hx116_0, hx116_1⟩ := at_T79 HR104_3.out x57_3 p116 q116
                   cases e116
                   replace hx116_0 := pw_cell_below HB.out hx116_0
                   replace hx116_1 := pw_cell_below HB.out hx116_1
                   replace p116 := eq_true p116
                   replace q116 := eq_true q116
                   try go_wp2_with (first | ((with_reducible refine gate_dst (N := 9) rfl ?_); refine box_event (by rfl) (N := 9) (by rfl) (cs := #[.string (⟨#[]⟩ : ByteArray), .int .i64 0]) (t := 79) (by first | (go_simp; done) | (go_simp; rfl)) ?_; intro gb117 hg w47 hbox hb; have n0_ := AM (blk_below (g := gb101) (o := .cells #[.slice (some ad104) l0_0.length c0_0, .slice A0_1 l0_1.length c0_1] 31 (0, 0)) (by (with_reducible repeat (first | apply kN | apply kD | apply kA)); exact BK101.out) hb); have n1_ := AM (blk_below (g := gb105) (o := .cells #[.string ((rd_T44 l0_0 x19_1).f0), .int .i64 ((rd_T44 l0_0 x19_1).f1), .slice A104_2 ((rd_T44 l0_0 x19_1).f2).length c104_2, .slice (some ad116) ((rd_T44 l0_0 x19_1).f3).length c104_3] 44 (0, 0)) (by (with_reducible repeat (first | apply kN | apply kD | apply kA)); exact BK105.out) hb); have n2_ := AM (below_step (by repeat (first | (with_reducible first | exact HB.out | apply bA | apply bN | apply bD | refine bS ?_ GE101.out | refine bS ?_ GE105.out) | exact HB.out)) hb); have n3_ := AM (hbox); have n4_ := AM ((by rw [hg]; exact (bZ (by repeat (first | (with_reducible first | exact HB.out | apply bA | apply bN | apply bD | refine bS ?_ GE101.out | refine bS ?_ GE105.out) | exact HB.out))) : w.heap.size ≤ gb117)); have n5_ := n4_; have n6_ := AM ((by rw [hg]; exact Nat.ne_of_lt (blk_lt (g := gb101) (o := .cells #[.slice (some ad104) l0_0.length c0_0, .slice A0_1 l0_1.length c0_1] 31 (0, 0)) (by (with_reducible repeat (first | apply kN | apply kD | apply kA)); exact BK101.out)) : gb101 ≠ gb117)); have n7_ := AM ((by rw [hg]; exact Nat.ne_of_gt (blk_lt (g := gb101) (o := .cells #[.slice (some ad104) l0_0.length c0_0, .slice A0_1 l0_1.length c0_1] 31 (0, 0)) (by (with_reducible repeat (first | apply kN | apply kD | apply kA)); exact BK101.out)) : gb117 ≠ gb101)); have n8_ := AM ((by rw [hg]; exact Nat.ne_of_lt (blk_lt (g := gb105) (o := .cells #[.string ((rd_T44 l0_0 x19_1).f0), .int .i64 ((rd_T44 l0_0 x19_1).f1), .slice A104_2 ((rd_T44 l0_0 x19_1).f2).length c104_2, .slice (some ad116) ((rd_T44 l0_0 x19_1).f3).length c104_3] 44 (0, 0)) (by (with_reducible repeat (first | apply kN | apply kD | apply kA)); exact BK105.out)) : gb105 ≠ gb117)); have n9_ := AM ((by rw [hg]; exact Nat.ne_of_gt (blk_lt (g := gb105) (o := .cells #[.string ((rd_T44 l0_0 x19_1).f0), .int .i64 ((rd_T44 l0_0 x19_1).f1), .slice A104_2 ((rd_T44 l0_0 x19_1).f2).length c104_2, .slice (some ad116) ((rd_T44 l0_0 x19_1).f3).length c104_3] 44 (0, 0)) (by (with_reducible repeat (first | apply kN | apply kD | apply kA)); exact BK105.out)) : gb117 ≠ gb105)); clear BK101; clear BK105; clear HB; have BK101 := n0_; have BK105 := n1_; have HB := n2_; have BK117 := n3_; have GW117 := n4_; have GE117 := n5_; have NB101_117 := n6_; have NB117_101 := n7_; have NB105_117 := n8_; have NB117_105 := n9_; clear n0_ n1_ n2_ n3_ n4_ n5_ n6_ n7_ n8_ n9_; clear hb hbox hg; have hnb48 := NB117_101.out; have hnc48 := NB101_117.out; have hnb49 := NB117_105.out; have hnc49 := NB105_117.out; have hcz50_0 : w47.cell? ⟨gb117, 0, none⟩ = some (.string (⟨#[]⟩ : ByteArray)) := (kC BK117.out 0).trans rfl; have hcz50_1 : w47.cell? ⟨gb117, 1, none⟩ = some (.int .i64 0) := (kC BK117.out 1).trans rfl; have hfz50_0 := fZ BK117.out 0; have hfz50_1 := fZ BK117.out 1))
                   have n0_ : Aside0 (((w47.setCell ⟨gb117, 0, none⟩ (.string ((rd_T79 ((rd_T44 l0_0 x19_1).f3) x57_3).f0))).setCell ⟨gb117, 1, none⟩ (.int .i64 ((rd_T79 ((rd_T44 l0_0 x19_1).f3) x57_3).f1))).heap[gb101]? = some (.cells #[.slice (some ad104) l0_0.length c0_0, .slice A0_1 l0_1.length c0_1] 31 (0, 0))) := ⟨by (with_reducible repeat (first | apply kN | apply kD | apply kA)); refine blk_far ?_ NB101_117.out _; (with_reducible repeat (first | apply kN | apply kD | apply kA)); refine blk_far ?_ NB101_117.out _; (with_reducible repeat (first | apply kN | apply kD | apply kA)); exact BK101.out⟩
                   have n1_ : Aside0 (((w47.setCell ⟨gb117, 0, none⟩ (.string ((rd_T79 ((rd_T44 l0_0 x19_1).f3) x57_3).f0))).setCell ⟨gb117, 1, none⟩ (.int .i64 ((rd_T79 ((rd_T44 l0_0 x19_1).f3) x57_3).f1))).heap[gb105]? = some (.cells #[.string ((rd_T44 l0_0 x19_1).f0), .int .i64 ((rd_T44 l0_0 x19_1).f1), .slice A104_2 ((rd_T44 l0_0 x19_1).f2).length c104_2, .slice (some ad116) ((rd_T44 l0_0 x19_1).f3).length c104_3] 44 (0, 0))) := ⟨by (with_reducible repeat (first | apply kN | apply kD | apply kA)); refine blk_far ?_ NB105_117.out _; (with_reducible repeat (first | apply kN | apply kD | apply kA)); refine blk_far ?_ NB105_117.out _; (with_reducible repeat (first | apply kN | apply kD | apply kA)); exact BK105.out⟩
                   have n2_ : Aside0 (((w47.setCell ⟨gb117, 0, none⟩ (.string ((rd_T79 ((rd_T44 l0_0 x19_1).f3) x57_3).f0))).setCell ⟨gb117, 1, none⟩ (.int .i64 ((rd_T79 ((rd_T44 l0_0 x19_1).f3) x57_3).f1))).heap[gb117]? = some (.cells #[.string ((rd_T79 ((rd_T44 l0_0 x19_1).f3) x57_3).f0), .int .i64 ((rd_T79 ((rd_T44 l0_0 x19_1).f3) x57_3).f1)] 79 (0, 0))) := ⟨by (with_reducible repeat (first | apply kN | apply kD | apply kA)); refine blk_put (cs := #[.string ((rd_T79 ((rd_T44 l0_0 x19_1).f3) x57_3).f0), .int .i64 0]) ?_ 1 _ rfl; (with_reducible repeat (first | apply kN | apply kD | apply kA)); refine blk_put (cs := #[.string (⟨#[]⟩ : ByteArray), .int .i64 0]) ?_ 0 _ rfl; (with_reducible repeat (first | apply kN | apply kD | apply kA)); exact BK117.out⟩
                   have n3_ : Aside0 (Below w.heap.size w ((w47.setCell ⟨gb117, 0, none⟩ (.string ((rd_T79 ((rd_T44 l0_0 x19_1).f3) x57_3).f0))).setCell ⟨gb117, 1, none⟩ (.int .i64 ((rd_T79 ((rd_T44 l0_0 x19_1).f3) x57_3).f1)))) := ⟨by repeat (first | (with_reducible first | exact HB.out | apply bA | apply bN | apply bD | refine bS ?_ GE101.out | refine bS ?_ GE105.out | refine bS ?_ GE117.out) | exact HB.out)⟩
                   (try clear BK101)
                   (try clear BK105)
                   (try clear BK117)
                   (try clear HB)
                   generalize ((w47.setCell ⟨gb117, 0, none⟩ (.string ((rd_T79 ((rd_T44 l0_0 x19_1).f3) x57_3).f0))).setCell ⟨gb117, 1, none⟩ (.int .i64 ((rd_T79 ((rd_T44 l0_0 x19_1).f3) x57_3).f1))) = w51 at n0_ n1_ n2_ n3_ ⊢
                   have BK101 := n0_
                   have BK105 := n1_
                   have BK117 := n2_
                   have HB := n3_
                   clear n0_ n1_ n2_ n3_
                   have n0_ := AM (kD BK101.out)
                   have n1_ := AM (kD BK105.out)
                   have n2_ := AM (kD BK117.out)
                   have n3_ := AM (bD HB.out)
                   clear BK101
                   clear BK105
                   clear BK117
                   clear HB
                   have BK101 := n0_
                   have BK105 := n1_
                   have BK117 := n2_
                   have HB := n3_
                   clear n0_ n1_ n2_ n3_
                   refine start_ (n := 10) (S := fun w' => w'.cell? ⟨gb117, 0, none⟩ = some (.string ((rd_T79 ((rd_T44 l0_0 x19_1).f3) x57_3).f0)) ∧ w'.cell? ⟨gb117, 1, none⟩ = some (.int .i64 ((rd_T79 ((rd_T44 l0_0 x19_1).f3) x57_3).f1))) (ds := []) (upTo 0 10) (by kernel_rfl) rfl rfl ⟨(kC BK117.out 0).trans rfl, (kC BK117.out 1).trans rfl⟩ (fun hHeld => ?_); refine with_tabW impl_brokerBytes.tab15 impl_brokerBytes.bits15 (fun HT_ HW_ => ?_)
                   generalize w51.drew = w52 at BK101 BK105 BK117 HB hHeld ⊢
                   refine pF 0 1 10 61 ?_
                   refine pF 1 2 10 62 ?_
                   refine pF2 4 65 impl_brokerBytes.b5 ?_
                   refine pT2 2 63 impl_brokerBytes.b6 ?_ hHeld
                   refine pT2 5 66 impl_brokerBytes.b7 ?_ hHeld
                   refine one_ (i := 3) (N := some 64) (upTo 6 10) rfl rfl (one_of HT_.out (by kernel_rfl)) (by decide) (fun K hK => ?_)
                   refine goes_ Try.func61 (by kernel_rfl) rfl #[.string ((rd_T79 ((rd_T44 l0_0 x19_1).f3) x57_3).f0)] (by rfl) rfl rfl (by (try simp only [mA, mB, mC]); first | done | rfl | (simp only [mD, mE]; rfl)) ?_
                   with_reducible refine (impl_putText.calls k3 ((rd_T79 ((rd_T44 l0_0 x19_1).f3) x57_3).f0) t118 _ A43.out).mono ?_
                   rintro e w53 ⟨rfl, hb⟩
                   refine ⟨_, rfl, ?_⟩
                   have n0_ := AM (blk_below (g := gb101) (o := .cells #[.slice (some ad104) l0_0.length c0_0, .slice A0_1 l0_1.length c0_1] 31 (0, 0)) (by (with_reducible repeat (first | apply kN | apply kD | apply kA)); exact BK101.out) hb)
                   have n1_ := AM (blk_below (g := gb105) (o := .cells #[.string ((rd_T44 l0_0 x19_1).f0), .int .i64 ((rd_T44 l0_0 x19_1).f1), .slice A104_2 ((rd_T44 l0_0 x19_1).f2).length c104_2, .slice (some ad116) ((rd_T44 l0_0 x19_1).f3).length c104_3] 44 (0, 0)) (by (with_reducible repeat (first | apply kN | apply kD | apply kA)); exact BK105.out) hb)
                   have n2_ := AM (blk_below (g := gb117) (o := .cells #[.string ((rd_T79 ((rd_T44 l0_0 x19_1).f3) x57_3).f0), .int .i64 ((rd_T79 ((rd_T44 l0_0 x19_1).f3) x57_3).f1)] 79 (0, 0)) (by (with_reducible repeat (first | apply kN | apply kD | apply kA)); exact BK117.out) hb)
                   have n3_ := AM (below_step (by repeat (first | (with_reducible first | exact HB.out | apply bA | apply bN | apply bD | refine bS ?_ GE101.out | refine bS ?_ GE105.out | refine bS ?_ GE117.out) | exact HB.out)) hb)
                   clear BK101
                   clear BK105
                   clear BK117
                   clear HB
                   have BK101 := n0_
                   have BK105 := n1_
                   have BK117 := n2_
                   have HB := n3_
                   clear n0_ n1_ n2_ n3_
                   (try clear hb)
                   (try clear hk)
                   refine hK.out _ _ ⟨(kC BK117.out 0).trans rfl, (kC BK117.out 1).trans rfl⟩ (fun hHeld => ?_)
                   clear hK K
                   refine norm_ (a' := ?_) ?_ ?_
                   rotate_left
                   ·
                    show Act.put _ (some 64) _ = _
                    simp only [Act.put, sA, sB, sC, i64_w, i32_w]
                    rfl
                   refine one_ (i := 6) (N := some 67) (upTo 7 10) rfl rfl (one_of HT_.out (by kernel_rfl)) (by decide) (fun K hK => ?_)
                   refine goes_ Try.func59 (by kernel_rfl) rfl #[.int .i64 ((rd_T79 ((rd_T44 l0_0 x19_1).f3) x57_3).f1)] (by rfl) rfl rfl (by (try simp only [mA, mB, mC]); first | done | rfl | (simp only [mD, mE]; rfl)) ?_
                   with_reducible refine (impl_putNum.calls k3 ((rd_T79 ((rd_T44 l0_0 x19_1).f3) x57_3).f1) t119 _ A44.out).mono ?_
                   rintro e w54 ⟨rfl, hb⟩
                   refine ⟨_, rfl, ?_⟩
                   have n0_ := AM (blk_below (g := gb101) (o := .cells #[.slice (some ad104) l0_0.length c0_0, .slice A0_1 l0_1.length c0_1] 31 (0, 0)) (by (with_reducible repeat (first | apply kN | apply kD | apply kA)); exact BK101.out) hb)
                   have n1_ := AM (blk_below (g := gb105) (o := .cells #[.string ((rd_T44 l0_0 x19_1).f0), .int .i64 ((rd_T44 l0_0 x19_1).f1), .slice A104_2 ((rd_T44 l0_0 x19_1).f2).length c104_2, .slice (some ad116) ((rd_T44 l0_0 x19_1).f3).length c104_3] 44 (0, 0)) (by (with_reducible repeat (first | apply kN | apply kD | apply kA)); exact BK105.out) hb)
                   have n2_ := AM (blk_below (g := gb117) (o := .cells #[.string ((rd_T79 ((rd_T44 l0_0 x19_1).f3) x57_3).f0), .int .i64 ((rd_T79 ((rd_T44 l0_0 x19_1).f3) x57_3).f1)] 79 (0, 0)) (by (with_reducible repeat (first | apply kN | apply kD | apply kA)); exact BK117.out) hb)
                   have n3_ := AM (below_step (by repeat (first | (with_reducible first | exact HB.out | apply bA | apply bN | apply bD | refine bS ?_ GE101.out | refine bS ?_ GE105.out | refine bS ?_ GE117.out) | exact HB.out)) hb)
                   clear BK101
                   clear BK105
                   clear BK117
                   clear HB
                   have BK101 := n0_
                   have BK105 := n1_
                   have BK117 := n2_
                   have HB := n3_
                   clear n0_ n1_ n2_ n3_
                   (try clear hb)
                   (try clear hk)
                   refine hK.out _ _ ⟨(kC BK117.out 0).trans rfl, (kC BK117.out 1).trans rfl⟩ (fun hHeld => ?_)
                   clear hK K
                   refine norm_ (a' := ?_) ?_ ?_
                   rotate_left
                   ·
                    show Act.put _ (some 67) _ = _
                    simp only [Act.put, sA, sB, sC, i64_w, i32_w]
                    rfl
                   refine pF 7 8 10 68 ?_
                   refine pF 8 9 10 69 ?_
                   refine pF 9 10 10 3 ?_
                   refine done_ (done_of HT_.out (by kernel_rfl)) ?_
                   try go_wp2
                   go_roundg k3
                   case measure => have := HK1.out; have := HK2.out; have := HK3.out; omega
                   case rel => exact ⟨(x3_3 ++ (t118 ++ t119)), (wrap64 (x57_3 + 1)), (by first | rfl | (simp; done) | (simp [*]; done)), (by first | rfl | (simp; done) | (simp [*]; done)), H', ⟨by have := HK1.out; have := HK2.out; have := HK3.out; omega⟩, ⟨by (with_reducible repeat (first | apply kN | apply kD | apply kA)); exact BK101.out⟩, ⟨by (with_reducible repeat (first | apply kN | apply kD | apply kA)); exact BK105.out⟩, ⟨by repeat (first | (with_reducible first | exact HB.out | apply bA | apply bN | apply bD | refine bS ?_ GE101.out | refine bS ?_ GE105.out | refine bS ?_ GE117.out) | exact HB.out)⟩⟩
                  ·
                   rw [if_neg c46] at H
                   exact absurd H (by simp)
                 ·
                  rw [if_neg c45] at H
                  exact absurd H (by simp)
                ·
                 rw [if_neg c42] at H
                 exact absurd H (by simp)
               ·
                rw [if_neg c41] at H
                exact absurd H (by simp)
              ·
               rw [if_neg c40] at H
               have c40b0 : decide (x57_3 < (((rd_T44 l0_0 x19_1).f3).length : Int)) = false := decide_eq_false c40
               clear c40
               have H' := AM H
               clear H
               go_wp2
               go_roundg k3
               case measure => have := HK1.out; have := HK2.out; have := HK3.out; omega
               case rel => exact ⟨(x3_3), (wrap64 (x19_1 + 1)), (by first | rfl | (simp; done) | (simp [*]; done)), (by first | rfl | (simp; done) | (simp [*]; done)), H', ⟨by have := HK1.out; have := HK2.out; have := HK3.out; omega⟩, ⟨by (with_reducible repeat (first | apply kN | apply kD | apply kA)); exact BK101.out⟩, ⟨by repeat (first | (with_reducible first | exact HB.out | apply bA | apply bN | apply bD | refine bS ?_ GE101.out | refine bS ?_ GE105.out) | exact HB.out)⟩⟩
           ·
            rw [if_neg c35] at H
            exact absurd H (by simp)
       ·
        rw [if_neg c15] at H
        exact absurd H (by simp)
      ·
       rw [if_neg c14] at H
       exact absurd H (by simp)
     ·
      rw [if_neg c10] at H
      exact absurd H (by simp)
    ·
     rw [if_neg c9] at H
     exact absurd H (by simp)
   ·
    rw [if_neg c8] at H
    have c8b0 : decide (x19_1 < (l0_0.length : Int)) = false := decide_eq_false c8
    clear c8
    replace H := Option.bind_eq_some_iff.mp H
    obtain ⟨t120, A550, H⟩ := H
    replace H : ((impl_putNum.f k1 t120).bind fun t121 => (if x3_1.size + t121.size ≤ 9223372036854775807 then (impl_brokerBytes.l3 k1 (x3_1 ++ t121) l0_1 (l0_1.length : Int) 0) else (none))) = some r := H
    have A55 := AM A550
    clear A550
    replace H := Option.bind_eq_some_iff.mp H
    obtain ⟨t121, A560, H⟩ := H
    replace H : (if x3_1.size + t121.size ≤ 9223372036854775807 then (impl_brokerBytes.l3 k1 (x3_1 ++ t121) l0_1 (l0_1.length : Int) 0) else (none)) = some r := H
    have A56 := AM A560
    clear A560
    by_cases c57 : x3_1.size + t121.size ≤ 9223372036854775807
    ·
     rw [if_pos c57] at H
     have c57b0 := eq_true c57
     have c57b1 : decide (x3_1.size + t121.size ≤ 9223372036854775807) = true := decide_eq_true c57
     try have c57b2 : (9223372036854775807 < x3_1.size + t121.size) = False := eq_false (Nat.not_lt.2 c57)
     have H' := AM H
     clear H
     have hcz58_0 : wr.cell? ⟨gb101, 0, none⟩ = some (.slice A0_0 l0_0.length c0_0) := (kC BK101.out 0).trans rfl
     have hcz58_1 : wr.cell? ⟨gb101, 1, none⟩ = some (.slice A0_1 l0_1.length c0_1) := (kC BK101.out 1).trans rfl
     have hfz58_0 := fZ BK101.out 0
     have hfz58_1 := fZ BK101.out 1
     go_wp2_with (first | ((with_reducible refine gate_callee (f := 65) rfl ?_); refine goesL_ (some 75) rfl rfl Try.func65 (by kernel_rfl) rfl #[.slice A0_1 l0_1.length c0_1] rfl (by (try simp only [mA, mB, mC]); first | done | rfl | (simp only [mD, mE]; rfl)) ?_; (with_reducible refine (impl_Reply.calls _ _ l0_1 t120 _ A55.out).mono ?_); rintro e w' ⟨rfl, ⟨nd, rfl⟩⟩; refine ⟨_, rfl, ?_⟩) | ((with_reducible refine gate_callee (f := 59) rfl ?_); refine goesL_ (some 76) rfl rfl Try.func59 (by kernel_rfl) rfl #[.int .i64 t120] rfl (by (try simp only [mA, mB, mC]); first | done | rfl | (simp only [mD, mE]; rfl)) ?_; (with_reducible refine (impl_putNum.calls k1 t120 t121 _ A56.out).mono ?_); rintro e w59 ⟨rfl, hb⟩; refine ⟨_, rfl, ?_⟩; have n0_ := AM (blk_below (g := gb101) (o := .cells #[.slice A0_0 l0_0.length c0_0, .slice A0_1 l0_1.length c0_1] 31 (0, 0)) (by (with_reducible repeat (first | apply kN | apply kD | apply kA)); exact BK101.out) hb); have n1_ := AM (below_step (by repeat (first | (with_reducible first | exact HB.out | apply bA | apply bN | apply bD | refine bS ?_ GE101.out) | exact HB.out)) hb); clear BK101; clear HB; have BK101 := n0_; have HB := n1_; clear n0_ n1_; (try clear hb); (try clear hk); have hcz60_0 : w59.cell? ⟨gb101, 0, none⟩ = some (.slice A0_0 l0_0.length c0_0) := (kC BK101.out 0).trans rfl; have hcz60_1 : w59.cell? ⟨gb101, 1, none⟩ = some (.slice A0_1 l0_1.length c0_1) := (kC BK101.out 1).trans rfl; have hfz60_0 := fZ BK101.out 0; have hfz60_1 := fZ BK101.out 1))
     go_loopg [3, 81] k1 (fun kq v3 v81 w' => ∃ (x3_2 : ByteArray) (x81_2 : Int), v3 = .string x3_2 ∧ v81 = .int .i64 x81_2 ∧ Aside0 (impl_brokerBytes.l3 kq x3_2 l0_1 (l0_1.length : Int) x81_2 = some r) ∧ Aside0 (kq ≤ k1) ∧ Aside0 (w'.heap[gb101]? = some (.cells #[(.slice A0_0 l0_0.length c0_0), (.slice A0_1 l0_1.length c0_1)] 31 (0, 0))) ∧ Aside0 (Below w.heap.size w w'))
     case atStart => exact ⟨(x3_1 ++ t121), (0), (by first | rfl | (simp; done) | (simp [*]; done)), (by first | rfl | (simp; done) | (simp [*]; done)), H', ⟨Nat.le_refl _⟩, ⟨by (with_reducible repeat (first | apply kN | apply kD | apply kA)); exact BK101.out⟩, ⟨by repeat (first | (with_reducible first | exact HB.out | apply bA | apply bN | apply bD | refine bS ?_ GE101.out) | exact HB.out)⟩⟩
     case round =>
      clear H'
      (try clear c1); (try clear p1); (try clear q1); (try clear hx1); (try clear c2); (try clear p2); (try clear c3); (try clear c4); (try clear c5); (try clear c6); (try clear p6); (try clear c8); (try clear c8b0); (try clear c9); (try clear c9b0); (try clear c10); (try clear c10b0); (try clear p10); (try clear q10); (try clear hx10); (try clear p11); (try clear q11); (try clear hx11); (try clear c14); (try clear c14b0); (try clear c14b1); (try clear c14b2); (try clear c15); (try clear c15b0); (try clear c15b1); (try clear c15b2); (try clear c17); (try clear c27); (try clear c27b0); (try clear c28); (try clear c28b0); (try clear c29); (try clear c29b0); (try clear c31); (try clear c31b0); (try clear c31b1); (try clear c31b2); (try clear c35); (try clear c35b0); (try clear c35b1); (try clear c35b2); (try clear c36); (try clear c40); (try clear c40b0); (try clear c41); (try clear c41b0); (try clear c42); (try clear c42b0); (try clear c45); (try clear c45b0); (try clear c45b1); (try clear c45b2); (try clear c46); (try clear c46b0); (try clear c46b1); (try clear c46b2); (try clear c48); (try clear c49); (try clear c57); (try clear c57b0); (try clear c57b1); (try clear c57b2); (try clear c59); (try clear hcz18_0); (try clear hcz18_1); (try clear hcz18_2); (try clear hcz18_3); (try clear hcz26_0); (try clear hcz26_1); (try clear hcz26_2); (try clear hcz26_3); (try clear hcz37_0); (try clear hcz37_1); (try clear hcz37_2); (try clear hcz37_3); (try clear hcz39_0); (try clear hcz39_1); (try clear hcz39_2); (try clear hcz39_3); (try clear hcz50_0); (try clear hcz50_1); (try clear hcz58_0); (try clear hcz58_1); (try clear hcz5_0); (try clear hcz5_1); (try clear hcz60_0); (try clear hcz60_1); (try clear hcz7_0); (try clear hcz7_1); (try clear hfz18_0); (try clear hfz18_1); (try clear hfz18_2); (try clear hfz18_3); (try clear hfz26_0); (try clear hfz26_1); (try clear hfz26_2); (try clear hfz26_3); (try clear hfz37_0); (try clear hfz37_1); (try clear hfz37_2); (try clear hfz37_3); (try clear hfz39_0); (try clear hfz39_1); (try clear hfz39_2); (try clear hfz39_3); (try clear hfz50_0); (try clear hfz50_1); (try clear hfz58_0); (try clear hfz58_1); (try clear hfz5_0); (try clear hfz5_1); (try clear hfz60_0); (try clear hfz60_1); (try clear hfz7_0); (try clear hfz7_1); (try clear hx104_0); (try clear hx104_1); (try clear hx104_2); (try clear hx104_3); (try clear hx112_0); (try clear hx116_0); (try clear hx116_1); (try clear p104); (try clear p112); (try clear p116); (try clear q104); (try clear q112); (try clear q116)
      obtain ⟨x3_2, x81_2, rfl, rfl, HA, HK2, BK101, HB⟩ := hrel
      cases gk with
      | zero => exact absurd HA.out (by simp [impl_brokerBytes.l3])
      | succ k2 =>
       have H := HA.out
       clear HA
       simp only [impl_brokerBytes.l3] at H
       by_cases c61 : x81_2 < (l0_1.length : Int)
       ·
        rw [if_pos c61] at H
        have c61b0 : decide (x81_2 < (l0_1.length : Int)) = true := decide_eq_true c61
        clear c61
        by_cases c62 : 0 ≤ x81_2
        ·
         rw [if_pos c62] at H
         have c62b0 : decide (0 ≤ x81_2) = true := decide_eq_true c62
         clear c62
         by_cases c63 : x81_2 < (l0_1.length : Int)
         ·
          rw [if_pos c63] at H
          have c63b0 : decide (x81_2 < (l0_1.length : Int)) = true := decide_eq_true c63
          clear c63
          obtain ⟨y124, hy124⟩ : ∃ y_ : List Int, y_ = (([(rd_T36 l0_1 x81_2).f0, (rd_T36 l0_1 x81_2).f1] : List Int)) := ⟨_, rfl⟩
          replace H : ((impl_putNums.f k2 y124).bind fun t127 => ((impl_putText.f k2 ((rd_T36 l0_1 x81_2).f2)).bind fun t128 => (if t127.size + t128.size ≤ 9223372036854775807 then (if x3_2.size + (t127 ++ t128).size ≤ 9223372036854775807 then (impl_brokerBytes.l3 k2 (x3_2 ++ (t127 ++ t128)) l0_1 (l0_1.length : Int) (wrap64 (x81_2 + 1))) else (none)) else (none)))) = some r := by first | (rw [hy124]; with_reducible exact H) | (have H2_ := (Option.bind_some _ _).symm.trans H; rw [hy124]; with_reducible exact H2_) | (have H2_ := (Option.bind_some _ _).symm.trans H; with_reducible exact H2_) | with_reducible exact H | (rw [hy124]; exact H) | exact H
          have Ny124 := AM hy124
          clear hy124
          replace H := Option.bind_eq_some_iff.mp H
          obtain ⟨t127, A640, H⟩ := H
          replace H : ((impl_putText.f k2 ((rd_T36 l0_1 x81_2).f2)).bind fun t128 => (if t127.size + t128.size ≤ 9223372036854775807 then (if x3_2.size + (t127 ++ t128).size ≤ 9223372036854775807 then (impl_brokerBytes.l3 k2 (x3_2 ++ (t127 ++ t128)) l0_1 (l0_1.length : Int) (wrap64 (x81_2 + 1))) else (none)) else (none))) = some r := H
          have A64 := AM A640
          clear A640
          replace H := Option.bind_eq_some_iff.mp H
          obtain ⟨t128, A650, H⟩ := H
          replace H : (if t127.size + t128.size ≤ 9223372036854775807 then (if x3_2.size + (t127 ++ t128).size ≤ 9223372036854775807 then (impl_brokerBytes.l3 k2 (x3_2 ++ (t127 ++ t128)) l0_1 (l0_1.length : Int) (wrap64 (x81_2 + 1))) else (none)) else (none)) = some r := H
          have A65 := AM A650
          clear A650
          by_cases c66 : t127.size + t128.size ≤ 9223372036854775807
          ·
           rw [if_pos c66] at H
           have c66b0 := eq_true c66
           have c66b1 : decide (t127.size + t128.size ≤ 9223372036854775807) = true := decide_eq_true c66
           try have c66b2 : (9223372036854775807 < t127.size + t128.size) = False := eq_false (Nat.not_lt.2 c66)
           by_cases c67 : x3_2.size + (t127 ++ t128).size ≤ 9223372036854775807
           ·
            rw [if_pos c67] at H
            have c67b0 := eq_true c67
            have c67b1 : decide (x3_2.size + (t127 ++ t128).size ≤ 9223372036854775807) = true := decide_eq_true c67
            try have c67b2 : (9223372036854775807 < x3_2.size + (t127 ++ t128).size) = False := eq_false (Nat.not_lt.2 c67)
            try have c67b12 : (9223372036854775807 < x3_2.size + (t127.size + t128.size)) = False := eq_false (Nat.not_lt.2 (by simpa only [ByteArray.size_append] using c67))
            have H' := AM H
            clear H
            have p122 : 0 ≤ (x81_2 : Int) := of_decide_eq_true (by assumption)
            have q122 : x81_2 < (l0_1.length : Int) := of_decide_eq_true (by assumption)
            obtain ⟨ad122, e122, hx122_0, hx122_1, hx122_2⟩ := at_T36 HR0_1.out x81_2 p122 q122
            cases e122
            replace hx122_0 := pw_cell_below HB.out hx122_0
            replace hx122_1 := pw_cell_below HB.out hx122_1
            replace hx122_2 := pw_cell_below HB.out hx122_2
            replace p122 := eq_true p122
            replace q122 := eq_true q122
            try go_wp2_with (first | ((with_reducible refine gate_dst (N := 11) rfl ?_); refine box_event (by rfl) (N := 11) (by rfl) (cs := #[.int .i64 0, .int .i64 0, .string (⟨#[]⟩ : ByteArray)]) (t := 36) (by first | (go_simp; done) | (go_simp; rfl)) ?_; intro gb123 hg w68 hbox hb; have n0_ := AM (blk_below (g := gb101) (o := .cells #[.slice A0_0 l0_0.length c0_0, .slice (some ad122) l0_1.length c0_1] 31 (0, 0)) (by (with_reducible repeat (first | apply kN | apply kD | apply kA)); exact BK101.out) hb); have n1_ := AM (below_step (by repeat (first | (with_reducible first | exact HB.out | apply bA | apply bN | apply bD | refine bS ?_ GE101.out) | exact HB.out)) hb); have n2_ := AM (hbox); have n3_ := AM ((by rw [hg]; exact (bZ (by repeat (first | (with_reducible first | exact HB.out | apply bA | apply bN | apply bD | refine bS ?_ GE101.out) | exact HB.out))) : w.heap.size ≤ gb123)); have n4_ := n3_; have n5_ := AM ((by rw [hg]; exact Nat.ne_of_lt (blk_lt (g := gb101) (o := .cells #[.slice A0_0 l0_0.length c0_0, .slice (some ad122) l0_1.length c0_1] 31 (0, 0)) (by (with_reducible repeat (first | apply kN | apply kD | apply kA)); exact BK101.out)) : gb101 ≠ gb123)); have n6_ := AM ((by rw [hg]; exact Nat.ne_of_gt (blk_lt (g := gb101) (o := .cells #[.slice A0_0 l0_0.length c0_0, .slice (some ad122) l0_1.length c0_1] 31 (0, 0)) (by (with_reducible repeat (first | apply kN | apply kD | apply kA)); exact BK101.out)) : gb123 ≠ gb101)); clear BK101; clear HB; have BK101 := n0_; have HB := n1_; have BK123 := n2_; have GW123 := n3_; have GE123 := n4_; have NB101_123 := n5_; have NB123_101 := n6_; clear n0_ n1_ n2_ n3_ n4_ n5_ n6_; clear hb hbox hg; have hnb69 := NB123_101.out; have hnc69 := NB101_123.out; have hcz70_0 : w68.cell? ⟨gb123, 0, none⟩ = some (.int .i64 0) := (kC BK123.out 0).trans rfl; have hcz70_1 : w68.cell? ⟨gb123, 1, none⟩ = some (.int .i64 0) := (kC BK123.out 1).trans rfl; have hcz70_2 : w68.cell? ⟨gb123, 2, none⟩ = some (.string (⟨#[]⟩ : ByteArray)) := (kC BK123.out 2).trans rfl; have hfz70_0 := fZ BK123.out 0; have hfz70_1 := fZ BK123.out 1; have hfz70_2 := fZ BK123.out 2))
            have n0_ : Aside0 ((((w68.setCell ⟨gb123, 0, none⟩ (.int .i64 ((rd_T36 l0_1 x81_2).f0))).setCell ⟨gb123, 1, none⟩ (.int .i64 ((rd_T36 l0_1 x81_2).f1))).setCell ⟨gb123, 2, none⟩ (.string ((rd_T36 l0_1 x81_2).f2))).heap[gb101]? = some (.cells #[.slice A0_0 l0_0.length c0_0, .slice (some ad122) l0_1.length c0_1] 31 (0, 0))) := ⟨by (with_reducible repeat (first | apply kN | apply kD | apply kA)); refine blk_far ?_ NB101_123.out _; (with_reducible repeat (first | apply kN | apply kD | apply kA)); refine blk_far ?_ NB101_123.out _; (with_reducible repeat (first | apply kN | apply kD | apply kA)); refine blk_far ?_ NB101_123.out _; (with_reducible repeat (first | apply kN | apply kD | apply kA)); exact BK101.out⟩
            have n1_ : Aside0 ((((w68.setCell ⟨gb123, 0, none⟩ (.int .i64 ((rd_T36 l0_1 x81_2).f0))).setCell ⟨gb123, 1, none⟩ (.int .i64 ((rd_T36 l0_1 x81_2).f1))).setCell ⟨gb123, 2, none⟩ (.string ((rd_T36 l0_1 x81_2).f2))).heap[gb123]? = some (.cells #[.int .i64 ((rd_T36 l0_1 x81_2).f0), .int .i64 ((rd_T36 l0_1 x81_2).f1), .string ((rd_T36 l0_1 x81_2).f2)] 36 (0, 0))) := ⟨by (with_reducible repeat (first | apply kN | apply kD | apply kA)); refine blk_put (cs := #[.int .i64 ((rd_T36 l0_1 x81_2).f0), .int .i64 ((rd_T36 l0_1 x81_2).f1), .string (⟨#[]⟩ : ByteArray)]) ?_ 2 _ rfl; (with_reducible repeat (first | apply kN | apply kD | apply kA)); refine blk_put (cs := #[.int .i64 ((rd_T36 l0_1 x81_2).f0), .int .i64 0, .string (⟨#[]⟩ : ByteArray)]) ?_ 1 _ rfl; (with_reducible repeat (first | apply kN | apply kD | apply kA)); refine blk_put (cs := #[.int .i64 0, .int .i64 0, .string (⟨#[]⟩ : ByteArray)]) ?_ 0 _ rfl; (with_reducible repeat (first | apply kN | apply kD | apply kA)); exact BK123.out⟩
            have n2_ : Aside0 (Below w.heap.size w (((w68.setCell ⟨gb123, 0, none⟩ (.int .i64 ((rd_T36 l0_1 x81_2).f0))).setCell ⟨gb123, 1, none⟩ (.int .i64 ((rd_T36 l0_1 x81_2).f1))).setCell ⟨gb123, 2, none⟩ (.string ((rd_T36 l0_1 x81_2).f2)))) := ⟨by repeat (first | (with_reducible first | exact HB.out | apply bA | apply bN | apply bD | refine bS ?_ GE101.out | refine bS ?_ GE123.out) | exact HB.out)⟩
            (try clear BK101)
            (try clear BK123)
            (try clear HB)
            generalize (((w68.setCell ⟨gb123, 0, none⟩ (.int .i64 ((rd_T36 l0_1 x81_2).f0))).setCell ⟨gb123, 1, none⟩ (.int .i64 ((rd_T36 l0_1 x81_2).f1))).setCell ⟨gb123, 2, none⟩ (.string ((rd_T36 l0_1 x81_2).f2))) = w71 at n0_ n1_ n2_ ⊢
            have BK101 := n0_
            have BK123 := n1_
            have HB := n2_
            clear n0_ n1_ n2_
            have n0_ := AM (kD BK101.out)
            have n1_ := AM (kD BK123.out)
            have n2_ := AM (bD HB.out)
            clear BK101
            clear BK123
            clear HB
            have BK101 := n0_
            have BK123 := n1_
            have HB := n2_
            clear n0_ n1_ n2_
            refine start_ (n := 13) (S := fun w' => w'.cell? ⟨gb123, 0, none⟩ = some (.int .i64 ((rd_T36 l0_1 x81_2).f0)) ∧ w'.cell? ⟨gb123, 1, none⟩ = some (.int .i64 ((rd_T36 l0_1 x81_2).f1)) ∧ w'.cell? ⟨gb123, 2, none⟩ = some (.string ((rd_T36 l0_1 x81_2).f2))) (ds := []) (upTo 0 13) (by kernel_rfl) rfl rfl ⟨(kC BK123.out 0).trans rfl, (kC BK123.out 1).trans rfl, (kC BK123.out 2).trans rfl⟩ (fun hHeld => ?_); refine with_tabW impl_brokerBytes.tab22 impl_brokerBytes.bits22 (fun HT_ HW_ => ?_)
            generalize w71.drew = w72 at BK101 BK123 HB hHeld ⊢
            refine pF 0 1 13 85 ?_
            refine pF 1 2 13 86 ?_
            refine pF2 3 88 impl_brokerBytes.b8 ?_
            refine pF2 7 92 impl_brokerBytes.b9 ?_
            refine pT2 2 87 impl_brokerBytes.b10 ?_ hHeld
            refine pT2 4 89 impl_brokerBytes.b11 ?_ hHeld
            refine pT2 8 93 impl_brokerBytes.b12 ?_ hHeld
            refine one_ (i := 5) (N := some 90) impl_brokerBytes.b13 rfl rfl (one_of HT_.out (by kernel_rfl)) (by decide) (fun K hK => ?_)
            refine Kd.R_lit_step (Kd.int .i64) _ 2 ?hg (N := 90) ?hd (xs := ([(rd_T36 l0_1 x81_2).f0, (rd_T36 l0_1 x81_2).f1] : List Int)) (inner := [.int .i64 ((rd_T36 l0_1 x81_2).f0), .int .i64 ((rd_T36 l0_1 x81_2).f1)]) (ok := fun _ => True) (okp := fun _ => True) ?hr ?hp (fun _ hk => hk) trivial (Below.refl _ _) (Nat.le_refl _) (by simp) ?_; (case hd => rfl); (case hg => rfl); (case hr => first | (go_simp; done) | (go_simp; rfl)); (case hp => exact (Reps.one (show Kd.M (Kd.int .i64) _ _ _ ((rd_T36 l0_1 x81_2).f0) [.int .i64 ((rd_T36 l0_1 x81_2).f0)] from rfl) (Reps.one (show Kd.M (Kd.int .i64) _ _ _ ((rd_T36 l0_1 x81_2).f1) [.int .i64 ((rd_T36 l0_1 x81_2).f1)] from rfl) (Reps.none _ _))))
            intro v125 w73 ho74 hb hg_ hnew_
            clear hg_ hnew_
            (first | rw [← Ny124.out] at ho74 | (simp only [Int.reduceToNat] at ho74; rw [← Ny124.out] at ho74))
            have n0_ := AM (Kd.R_lower ho74 (bZ (by repeat (first | (with_reducible first | exact HB.out | apply bA | apply bN | apply bD | refine bS ?_ GE101.out | refine bS ?_ GE123.out) | exact HB.out))))
            have n1_ := AM (blk_below (g := gb101) (o := .cells #[.slice A0_0 l0_0.length c0_0, .slice (some ad122) l0_1.length c0_1] 31 (0, 0)) (by (with_reducible repeat (first | apply kN | apply kD | apply kA)); exact BK101.out) hb)
            have n2_ := AM (blk_below (g := gb123) (o := .cells #[.int .i64 ((rd_T36 l0_1 x81_2).f0), .int .i64 ((rd_T36 l0_1 x81_2).f1), .string ((rd_T36 l0_1 x81_2).f2)] 36 (0, 0)) (by (with_reducible repeat (first | apply kN | apply kD | apply kA)); exact BK123.out) hb)
            have n3_ := AM (below_step (by repeat (first | (with_reducible first | exact HB.out | apply bA | apply bN | apply bD | refine bS ?_ GE101.out | refine bS ?_ GE123.out) | exact HB.out)) hb)
            clear BK101
            clear BK123
            clear HB
            have HO126 := n0_
            have BK101 := n1_
            have BK123 := n2_
            have HB := n3_
            clear n0_ n1_ n2_ n3_
            clear hb ho74
            obtain ⟨Ao75, co75, eo75⟩ := Kd.R_slice HO126.out
            (first | subst eo75 | (injection eo75 with f1_ f2_ f3_; have f4_ := f1_.symm; have f5_ := f3_.symm; clear f1_ f2_ f3_; subst f4_; subst f5_))
            refine hK.out _ _ ⟨(kC BK123.out 0).trans rfl, (kC BK123.out 1).trans rfl, (kC BK123.out 2).trans rfl⟩ (fun hHeld => ?_)
            clear hK K
            refine norm_ (a' := ?_) ?_ ?_
            rotate_left
            ·
             show Act.put _ (some 90) _ = _
             simp only [Act.put, sA, sB, sC, i64_w, i32_w]
             rfl
            refine one_ (i := 6) (N := some 91) (upTo 9 13) rfl rfl (one_of HT_.out (by kernel_rfl)) (by decide) (fun K hK => ?_)
            refine goes_ Try.func62 (by kernel_rfl) rfl #[.slice Ao75 y124.length co75] (by rfl) rfl rfl (by (try simp only [mA, mB, mC]); first | done | rfl | (simp only [mD, mE]; rfl)) ?_
            with_reducible refine (impl_putNums.calls k2 _ _ y124 t127 _ ?side1 ?side2 A64.out).mono ?_
            (case side1 => repeat (first | exact (Kd.R_reads' HO126.out).2.2 | (with_reducible first | apply cA | apply cN | apply cD)))
            (case side2 => exact (Kd.R_reads' HO126.out).2.1)
            rintro e w76 ⟨rfl, hb⟩
            refine ⟨_, rfl, ?_⟩
            have n0_ := AM (Kd.R_below (by (with_reducible repeat (first | apply rA | apply rN | apply rD)); exact HO126.out) hb)
            have n1_ := AM (blk_below (g := gb101) (o := .cells #[.slice A0_0 l0_0.length c0_0, .slice (some ad122) l0_1.length c0_1] 31 (0, 0)) (by (with_reducible repeat (first | apply kN | apply kD | apply kA)); exact BK101.out) hb)
            have n2_ := AM (blk_below (g := gb123) (o := .cells #[.int .i64 ((rd_T36 l0_1 x81_2).f0), .int .i64 ((rd_T36 l0_1 x81_2).f1), .string ((rd_T36 l0_1 x81_2).f2)] 36 (0, 0)) (by (with_reducible repeat (first | apply kN | apply kD | apply kA)); exact BK123.out) hb)
            have n3_ := AM (below_step (by repeat (first | (with_reducible first | exact HB.out | apply bA | apply bN | apply bD | refine bS ?_ GE101.out | refine bS ?_ GE123.out) | exact HB.out)) hb)
            clear HO126
            clear BK101
            clear BK123
            clear HB
            have HO126 := n0_
            have BK101 := n1_
            have BK123 := n2_
            have HB := n3_
            clear n0_ n1_ n2_ n3_
            (try clear hb)
            (try clear hk)
            refine hK.out _ _ ⟨(kC BK123.out 0).trans rfl, (kC BK123.out 1).trans rfl, (kC BK123.out 2).trans rfl⟩ (fun hHeld => ?_)
            clear hK K
            refine norm_ (a' := ?_) ?_ ?_
            rotate_left
            ·
             show Act.put _ (some 91) _ = _
             simp only [Act.put, sA, sB, sC, i64_w, i32_w]
             rfl
            refine one_ (i := 9) (N := some 94) (upTo 10 13) rfl rfl (one_of HT_.out (by kernel_rfl)) (by decide) (fun K hK => ?_)
            refine goes_ Try.func61 (by kernel_rfl) rfl #[.string ((rd_T36 l0_1 x81_2).f2)] (by rfl) rfl rfl (by (try simp only [mA, mB, mC]); first | done | rfl | (simp only [mD, mE]; rfl)) ?_
            with_reducible refine (impl_putText.calls k2 ((rd_T36 l0_1 x81_2).f2) t128 _ A65.out).mono ?_
            rintro e w77 ⟨rfl, hb⟩
            refine ⟨_, rfl, ?_⟩
            have n0_ := AM (Kd.R_below (by (with_reducible repeat (first | apply rA | apply rN | apply rD)); exact HO126.out) hb)
            have n1_ := AM (blk_below (g := gb101) (o := .cells #[.slice A0_0 l0_0.length c0_0, .slice (some ad122) l0_1.length c0_1] 31 (0, 0)) (by (with_reducible repeat (first | apply kN | apply kD | apply kA)); exact BK101.out) hb)
            have n2_ := AM (blk_below (g := gb123) (o := .cells #[.int .i64 ((rd_T36 l0_1 x81_2).f0), .int .i64 ((rd_T36 l0_1 x81_2).f1), .string ((rd_T36 l0_1 x81_2).f2)] 36 (0, 0)) (by (with_reducible repeat (first | apply kN | apply kD | apply kA)); exact BK123.out) hb)
            have n3_ := AM (below_step (by repeat (first | (with_reducible first | exact HB.out | apply bA | apply bN | apply bD | refine bS ?_ GE101.out | refine bS ?_ GE123.out) | exact HB.out)) hb)
            clear HO126
            clear BK101
            clear BK123
            clear HB
            have HO126 := n0_
            have BK101 := n1_
            have BK123 := n2_
            have HB := n3_
            clear n0_ n1_ n2_ n3_
            (try clear hb)
            (try clear hk)
            refine hK.out _ _ ⟨(kC BK123.out 0).trans rfl, (kC BK123.out 1).trans rfl, (kC BK123.out 2).trans rfl⟩ (fun hHeld => ?_)
            clear hK K
            refine norm_ (a' := ?_) ?_ ?_
            rotate_left
            ·
             show Act.put _ (some 94) _ = _
             simp only [Act.put, sA, sB, sC, i64_w, i32_w]
             rfl
            refine pF 10 11 13 95 ?_
            refine pF 11 12 13 96 ?_
            refine pF 12 13 13 3 ?_
            refine done_ (done_of HT_.out (by kernel_rfl)) ?_
            try go_wp2
            go_roundg k2
            case measure => have := HK1.out; have := HK2.out; omega
            case rel => exact ⟨(x3_2 ++ (t127 ++ t128)), (wrap64 (x81_2 + 1)), (by first | rfl | (simp; done) | (simp [*]; done)), (by first | rfl | (simp; done) | (simp [*]; done)), H', ⟨by have := HK1.out; have := HK2.out; omega⟩, ⟨by (with_reducible repeat (first | apply kN | apply kD | apply kA)); exact BK101.out⟩, ⟨by repeat (first | (with_reducible first | exact HB.out | apply bA | apply bN | apply bD | refine bS ?_ GE101.out | refine bS ?_ GE123.out) | exact HB.out)⟩⟩
           ·
            rw [if_neg c67] at H
            exact absurd H (by simp)
          ·
           rw [if_neg c66] at H
           exact absurd H (by simp)
         ·
          rw [if_neg c63] at H
          exact absurd H (by simp)
        ·
         rw [if_neg c62] at H
         exact absurd H (by simp)
       ·
        rw [if_neg c61] at H
        have c61b0 : decide (x81_2 < (l0_1.length : Int)) = false := decide_eq_false c61
        clear c61
        obtain rfl := Option.some.inj H
        go_wp2
        go_ret
        exact ⟨by first | rfl | (simp [*, errW_none, errW_some] <;> rfl), by repeat (first | (with_reducible first | exact HB.out | apply bA | apply bN | apply bD | refine bS ?_ GE101.out) | exact HB.out)⟩
    ·
     rw [if_neg c57] at H
     exact absurd H (by simp)

/-! ### impl_BrokerBytes: function 16 -/

def impl_BrokerBytes.f (k : Nat) (l0_0 : List (S44)) (l0_1 : List (S36)) : Option (ByteArray) := (impl_isBroker.f k l0_0 l0_1).bind fun t102 => (if t102 = true then ((impl_brokerBytes.f k l0_0 l0_1).bind fun t103 => (some t103)) else (some (⟨#[]⟩ : ByteArray)))
theorem impl_BrokerBytes.mono : ∀ a0 a1 k, LeO (impl_BrokerBytes.f k a0 a1) (impl_BrokerBytes.f (k + 1) a0 a1) := by
  intro a0 a1 k
  unfold impl_BrokerBytes.f
  repeat' first
      | (with_reducible exact impl_brokerBytes.mono _ _ _)
      | (with_reducible exact impl_isBroker.mono _ _ _)
      | (with_reducible exact LeO.refl _)
      | (with_reducible exact LeO.none _)
      | (with_reducible refine LeO.ite ?_ ?_)
      | (with_reducible refine LeO.bind ?_ (fun _ => ?_))
      | exact impl_brokerBytes.mono _ _ _
      | exact impl_isBroker.mono _ _ _
      | exact LeO.none _
      | refine LeO.ite ?_ ?_
      | refine LeO.bind ?_ (fun _ => ?_)
set_option maxHeartbeats 60000000 in
set_option maxRecDepth 100000 in
theorem impl_BrokerBytes.calls (k : Nat) (A0_0 : Option Addr) (c0_0 : Nat) (l0_0 : List (S44)) (A0_1 : Option Addr) (c0_1 : Nat) (l0_1 : List (S36)) (r : ByteArray) (w : World) (hr0_0 : Kd.C k44 w A0_0 l0_0.length l0_0) (hc0_0 : l0_0.length ≤ c0_0) (hr0_1 : Kd.C k36 w A0_1 l0_1.length l0_1) (hc0_1 : l0_1.length ≤ c0_1) (h : impl_BrokerBytes.f k l0_0 l0_1 = some r) :
    Calls Try.prog 16 #[.agg #[.slice A0_0 l0_0.length c0_0, .slice A0_1 l0_1.length c0_1]] w fun e w' => e = .returned (.string r) ∧ Below w.heap.size w w' := by
 have hu31 := Try.underlying31
 have HR0_0 := AM hr0_0
 have HC0_0 := AM hc0_0
 clear hr0_0 hc0_0
 have HR0_1 := AM hr0_1
 have HC0_1 := AM hc0_1
 clear hr0_1 hc0_1
 have HB := AM (Below.refl w.heap.size w)
 have H : ((impl_isBroker.f k l0_0 l0_1).bind fun t102 => (if t102 = true then ((impl_brokerBytes.f k l0_0 l0_1).bind fun t103 => (some t103)) else (some (⟨#[]⟩ : ByteArray)))) = some r := h
 clear h
 replace H := Option.bind_eq_some_iff.mp H
 obtain ⟨t102, A20, H⟩ := H
 replace H : (if t102 = true then ((impl_brokerBytes.f k l0_0 l0_1).bind fun t103 => (some t103)) else (some (⟨#[]⟩ : ByteArray))) = some r := H
 have A2 := AM A20
 clear A20
 by_cases c3 : t102 = true
 ·
  subst c3
  have H1 : ((impl_brokerBytes.f k l0_0 l0_1).bind fun t103 => (some t103)) = some r := by rw [if_pos rfl] at H; exact H
  clear H
  have H := H1
  clear H1
  replace H := Option.bind_eq_some_iff.mp H
  obtain ⟨t103, A40, H⟩ := H
  replace H : (some t103) = some r := H
  have A4 := AM A40
  clear A40
  obtain rfl := Option.some.inj H
  go_enter Try.func16, Try.ntmps16
  go_wp2_with (first | ((with_reducible refine gate_dst (N := 1) rfl ?_); refine box_event (by rfl) (N := 1) (by rfl) (cs := #[.slice A0_0 l0_0.length c0_0, .slice A0_1 l0_1.length c0_1]) (t := 31) (by first | (go_simp; done) | (go_simp; rfl)) ?_; intro gb101 hg w5 hbox hb; have n0_ := AM (below_step (by repeat (first | (with_reducible first | exact HB.out | apply bA | apply bN | apply bD) | exact HB.out)) hb); have n1_ := AM (hbox); have n2_ := AM ((by rw [hg]; exact (bZ (by repeat (first | (with_reducible first | exact HB.out | apply bA | apply bN | apply bD) | exact HB.out))) : w.heap.size ≤ gb101)); have n3_ := n2_; clear HB; have HB := n0_; have BK101 := n1_; have GW101 := n2_; have GE101 := n3_; clear n0_ n1_ n2_ n3_; clear hb hbox hg; have hcz6_0 : w5.cell? ⟨gb101, 0, none⟩ = some (.slice A0_0 l0_0.length c0_0) := (kC BK101.out 0).trans rfl; have hcz6_1 : w5.cell? ⟨gb101, 1, none⟩ = some (.slice A0_1 l0_1.length c0_1) := (kC BK101.out 1).trans rfl; have hfz6_0 := fZ BK101.out 0; have hfz6_1 := fZ BK101.out 1) | ((with_reducible refine gate_callee (f := 29) rfl ?_); refine goesL_ (some 4) rfl rfl Try.func29 (by kernel_rfl) rfl #[.agg #[.slice A0_0 l0_0.length c0_0, .slice A0_1 l0_1.length c0_1]] rfl (by (try simp only [mA, mB, mC]); first | done | rfl | (simp only [mD, mE]; rfl)) ?_; (with_reducible refine (impl_isBroker.calls k _ _ l0_0 _ _ l0_1 true _ ?side1 ?side2 ?side3 ?side4 A2.out).mono ?_); (case side1 => repeat (first | exact (cB HR0_0.out HB.out) | (with_reducible first | apply cA | apply cN | apply cD))); (case side2 => exact HC0_0.out); (case side3 => repeat (first | exact (cB HR0_1.out HB.out) | (with_reducible first | apply cA | apply cN | apply cD))); (case side4 => exact HC0_1.out); rintro e w7 ⟨rfl, hb⟩; refine ⟨_, rfl, ?_⟩; have n0_ := AM (blk_below (g := gb101) (o := .cells #[.slice A0_0 l0_0.length c0_0, .slice A0_1 l0_1.length c0_1] 31 (0, 0)) (by (with_reducible repeat (first | apply kN | apply kD | apply kA)); exact BK101.out) hb); have n1_ := AM (below_step (by repeat (first | (with_reducible first | exact HB.out | apply bA | apply bN | apply bD | refine bS ?_ GE101.out) | exact HB.out)) hb); clear BK101; clear HB; have BK101 := n0_; have HB := n1_; clear n0_ n1_; (try clear hb); (try clear hk); have hcz8_0 : w7.cell? ⟨gb101, 0, none⟩ = some (.slice A0_0 l0_0.length c0_0) := (kC BK101.out 0).trans rfl; have hcz8_1 : w7.cell? ⟨gb101, 1, none⟩ = some (.slice A0_1 l0_1.length c0_1) := (kC BK101.out 1).trans rfl; have hfz8_0 := fZ BK101.out 0; have hfz8_1 := fZ BK101.out 1) | ((with_reducible refine gate_callee (f := 35) rfl ?_); refine goesL_ (some 7) rfl rfl Try.func35 (by kernel_rfl) rfl #[.agg #[.slice A0_0 l0_0.length c0_0, .slice A0_1 l0_1.length c0_1]] rfl (by (try simp only [mA, mB, mC]); first | done | rfl | (simp only [mD, mE]; rfl)) ?_; (with_reducible refine (impl_brokerBytes.calls k _ _ l0_0 _ _ l0_1 t103 _ ?side1 ?side2 ?side3 ?side4 A4.out).mono ?_); (case side1 => repeat (first | exact (cB HR0_0.out HB.out) | (with_reducible first | apply cA | apply cN | apply cD))); (case side2 => exact HC0_0.out); (case side3 => repeat (first | exact (cB HR0_1.out HB.out) | (with_reducible first | apply cA | apply cN | apply cD))); (case side4 => exact HC0_1.out); rintro e w9 ⟨rfl, hb⟩; refine ⟨_, rfl, ?_⟩; have n0_ := AM (blk_below (g := gb101) (o := .cells #[.slice A0_0 l0_0.length c0_0, .slice A0_1 l0_1.length c0_1] 31 (0, 0)) (by (with_reducible repeat (first | apply kN | apply kD | apply kA)); exact BK101.out) hb); have n1_ := AM (below_step (by repeat (first | (with_reducible first | exact HB.out | apply bA | apply bN | apply bD | refine bS ?_ GE101.out) | exact HB.out)) hb); clear BK101; clear HB; have BK101 := n0_; have HB := n1_; clear n0_ n1_; (try clear hb); (try clear hk)))
  go_ret
  exact ⟨by first | rfl | (simp [*, errW_none, errW_some] <;> rfl), by repeat (first | (with_reducible first | exact HB.out | apply bA | apply bN | apply bD | refine bS ?_ GE101.out) | exact HB.out)⟩
 ·
  replace c3 := Bool.eq_false_iff.mpr c3
  subst c3
  have H1 : (some (⟨#[]⟩ : ByteArray)) = some r := by rw [if_neg (show ¬ (false = true) by decide)] at H; exact H
  clear H
  have H := H1
  clear H1
  obtain rfl := Option.some.inj H
  go_enter Try.func16, Try.ntmps16
  go_wp2_with (first | ((with_reducible refine gate_dst (N := 1) rfl ?_); refine box_event (by rfl) (N := 1) (by rfl) (cs := #[.slice A0_0 l0_0.length c0_0, .slice A0_1 l0_1.length c0_1]) (t := 31) (by first | (go_simp; done) | (go_simp; rfl)) ?_; intro gb101 hg w10 hbox hb; have n0_ := AM (below_step (by repeat (first | (with_reducible first | exact HB.out | apply bA | apply bN | apply bD) | exact HB.out)) hb); have n1_ := AM (hbox); have n2_ := AM ((by rw [hg]; exact (bZ (by repeat (first | (with_reducible first | exact HB.out | apply bA | apply bN | apply bD) | exact HB.out))) : w.heap.size ≤ gb101)); have n3_ := n2_; clear HB; have HB := n0_; have BK101 := n1_; have GW101 := n2_; have GE101 := n3_; clear n0_ n1_ n2_ n3_; clear hb hbox hg; have hcz11_0 : w10.cell? ⟨gb101, 0, none⟩ = some (.slice A0_0 l0_0.length c0_0) := (kC BK101.out 0).trans rfl; have hcz11_1 : w10.cell? ⟨gb101, 1, none⟩ = some (.slice A0_1 l0_1.length c0_1) := (kC BK101.out 1).trans rfl; have hfz11_0 := fZ BK101.out 0; have hfz11_1 := fZ BK101.out 1) | ((with_reducible refine gate_callee (f := 29) rfl ?_); refine goesL_ (some 4) rfl rfl Try.func29 (by kernel_rfl) rfl #[.agg #[.slice A0_0 l0_0.length c0_0, .slice A0_1 l0_1.length c0_1]] rfl (by (try simp only [mA, mB, mC]); first | done | rfl | (simp only [mD, mE]; rfl)) ?_; (with_reducible refine (impl_isBroker.calls k _ _ l0_0 _ _ l0_1 false _ ?side1 ?side2 ?side3 ?side4 A2.out).mono ?_); (case side1 => repeat (first | exact (cB HR0_0.out HB.out) | (with_reducible first | apply cA | apply cN | apply cD))); (case side2 => exact HC0_0.out); (case side3 => repeat (first | exact (cB HR0_1.out HB.out) | (with_reducible first | apply cA | apply cN | apply cD))); (case side4 => exact HC0_1.out); rintro e w12 ⟨rfl, hb⟩; refine ⟨_, rfl, ?_⟩; have n0_ := AM (blk_below (g := gb101) (o := .cells #[.slice A0_0 l0_0.length c0_0, .slice A0_1 l0_1.length c0_1] 31 (0, 0)) (by (with_reducible repeat (first | apply kN | apply kD | apply kA)); exact BK101.out) hb); have n1_ := AM (below_step (by repeat (first | (with_reducible first | exact HB.out | apply bA | apply bN | apply bD | refine bS ?_ GE101.out) | exact HB.out)) hb); clear BK101; clear HB; have BK101 := n0_; have HB := n1_; clear n0_ n1_; (try clear hb); (try clear hk)))
  go_ret
  exact ⟨by first | rfl | (simp [*, errW_none, errW_some] <;> rfl), by repeat (first | (with_reducible first | exact HB.out | apply bA | apply bN | apply bD | refine bS ?_ GE101.out) | exact HB.out)⟩

end Go.Proofs.Ytjjdakpnjiocjaa.Q
