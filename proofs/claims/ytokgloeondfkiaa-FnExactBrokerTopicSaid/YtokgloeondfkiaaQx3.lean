/- Printed by a program of this session (wip/mp.py over the kit's print.py): functions of the translation as plain Lean functions, and that the machine's calls do what these say. -/
import Derived.Test.YtokgloeondfkiaaQx0
import Derived.Test.YtokgloeondfkiaaQx1
import Derived.Test.YtokgloeondfkiaaQx2
namespace Go.Proofs.Ytokgloeondfkiaa.Q
open Go.RowKit Go.Proofs.Ytokgloeondfkiaa.HB Go.Proofs.YtokgloeondfkiaaW.PrintWords Go.Proofs.YtokgloeondfkiaaW.PrintLast Go.Proofs.YtokgloeondfkiaaW.PrintMore
attribute [local go_sem] max2_int min2_int max_two min_two max_three min_three max_four min_four   -- for this text's walks alone
set_option linter.unusedVariables false
set_option linter.unusedSimpArgs false

/-! ### spec_BrokerRight: function 16 -/
abbrev spec_BrokerRight.b0 : Array Bool := #[true, false, true, false, false, false, false, false, false, false, false, false, false, false, false, false, false, false, false, false, false, false, false, false, false, false, false]
abbrev spec_BrokerRight.b1 : Array Bool := #[true, true, true, true, true, true, true, true, true, true, true, true, false, true, false, false, false, false, false, false, false, false, false, false, false, false, false]
abbrev spec_BrokerRight.b2 : Array Bool := #[true, true, true, true, true, true, true, true, true, true, true, true, false, true, true, false, false, false, false, false, false, false, false, false, false, false, false]
abbrev spec_BrokerRight.b3 : Array Bool := #[true, true, true, true, true, true, true, true, true, true, true, true, false, true, true, false, false, false, true, false, false, false, false, false, false, false, false]
abbrev spec_BrokerRight.b4 : Array Bool := #[true, true, true, true, true, true, true, true, true, true, true, true, false, true, true, false, false, false, true, false, true, false, false, false, false, false, false]
abbrev spec_BrokerRight.b5 : Array Bool := #[true, true, true, true, true, true, true, true, true, true, true, true, true, true, true, false, false, false, true, false, true, false, false, false, false, false, false]
abbrev spec_BrokerRight.b6 : Array Bool := #[true, true, true, true, true, true, true, true, true, true, true, true, true, true, true, true, false, false, true, false, true, false, false, false, false, false, false]
abbrev spec_BrokerRight.b7 : Array Bool := #[true, true, true, true, true, true, true, true, true, true, true, true, true, true, true, true, true, false, true, false, true, false, false, false, false, false, false]
abbrev spec_BrokerRight.b8 : Array Bool := #[true, true, true, true, true, true, true, true, true, true, true, true, true, true, true, true, true, true, true, false, true, false, false, false, false, false, false]
abbrev spec_BrokerRight.b9 : Array Bool := #[true, true, true, true, true, true, true, true, true, true, true, true, true, true, true, true, true, true, true, true, true, false, true, false, false, false, false, false, false, false, false, false]
abbrev spec_BrokerRight.b10 : Array Bool := #[true, true, true, true, true, true, true, true, true, true, true, true, true, true, true, true, true, true, true, true, true, false, true, true, false, false, false, false, false, false, false, false]
abbrev spec_BrokerRight.b11 : Array Bool := #[true, true, true, true, true, true, true, true, true, true, true, true, true, true, true, true, true, true, true, true, true, false, true, true, false, false, false, true, false, false, false, false]
abbrev spec_BrokerRight.b12 : Array Bool := #[true, true, true, true, true, true, true, true, true, true, true, true, true, true, true, true, true, true, true, true, true, true, true, true, false, false, false, true, false, false, false, false]
abbrev spec_BrokerRight.b13 : Array Bool := #[true, true, true, true, true, true, true, true, true, true, true, true, true, true, true, true, true, true, true, true, true, true, true, true, true, false, false, true, false, false, false, false]
abbrev spec_BrokerRight.b14 : Array Bool := #[true, true, true, true, true, true, true, true, true, true, true, true, true, true, true, true, true, true, true, true, true, true, true, true, true, true, false, true, false, false, false, false]
mutual
def spec_BrokerRight.j0 : Nat → Bool → List (S30) → List (S67) → Option (Bool)
  | 0, _, _, _ => none
  | k + 1, x15, x102000, x102001 => if x15 = true then (some false) else (spec_BrokerRight.l0 k 0 x102000 x102001)
def spec_BrokerRight.l0 : Nat → Int → List (S30) → List (S67) → Option (Bool)
  | 0, _, _, _ => none
  | k + 1, x3, x102000, x102001 => if x3 < (x102000.length : Int) then (if 0 ≤ x3 then ((spec_TopicRight.f k ((rd_T30 x102000 x3).f0) ((rd_T30 x102000 x3).f1) ((rd_T30 x102000 x3).f2) ((rd_T30 x102000 x3).f3)).bind fun t103 => (if t103 = true then (if x3 > 0 then (if 0 ≤ (wrap64 (x3 - 1)) then (if (wrap64 (x3 - 1)) < (x102000.length : Int) then (if ((Op.bytesLess (((rd_T30 x102000 (wrap64 (x3 - 1))).f0).toList) (((rd_T30 x102000 x3).f0).toList)) = true) then (spec_BrokerRight.l0 k (wrap64 (x3 + 1)) x102000 x102001) else (some false)) else (none)) else (none)) else (spec_BrokerRight.l0 k (wrap64 (x3 + 1)) x102000 x102001)) else (some false))) else (none)) else (spec_BrokerRight.l1 k 0 x102000 x102001)
def spec_BrokerRight.l1 : Nat → Int → List (S30) → List (S67) → Option (Bool)
  | 0, _, _, _ => none
  | k + 1, x4, x102000, x102001 => if x4 < (x102001.length : Int) then (if 0 ≤ x4 then ((spec_l03Is.f ((rd_T67 x102001 x4).f0) 1 9).bind fun t108 => (if t108 = true then ((spec_l03Is.f ((rd_T67 x102001 x4).f1) 1 1000000000).bind fun t109 => (if t109 = true then (if (((rd_T67 x102001 x4).f2).size : Int) > 900 then (some false) else (if x4 > 0 then (if 0 ≤ (wrap64 (x4 - 1)) then (if (wrap64 (x4 - 1)) < (x102001.length : Int) then (if ((rd_T67 x102001 (wrap64 (x4 - 1))).f0) ≥ ((rd_T67 x102001 x4).f0) then (some false) else (spec_BrokerRight.l1 k (wrap64 (x4 + 1)) x102000 x102001)) else (none)) else (none)) else (spec_BrokerRight.l1 k (wrap64 (x4 + 1)) x102000 x102001))) else (some false))) else (some false))) else (none)) else (some true)
end
def spec_BrokerRight.f (k : Nat) (l0_0 : List (S30)) (l0_1 : List (S67)) : Option (Bool) := if (l0_0.length : Int) > 4 then (spec_BrokerRight.j0 k true l0_0 l0_1) else (spec_BrokerRight.j0 k (decide ((l0_1.length : Int) > 9)) l0_0 l0_1)
theorem spec_BrokerRight.mono_l : ∀ k, (∀ y0 y1 y2, LeO (spec_BrokerRight.j0 k y0 y1 y2) (spec_BrokerRight.j0 (k + 1) y0 y1 y2)) ∧ (∀ y0 y1 y2, LeO (spec_BrokerRight.l0 k y0 y1 y2) (spec_BrokerRight.l0 (k + 1) y0 y1 y2)) ∧ (∀ y0 y1 y2, LeO (spec_BrokerRight.l1 k y0 y1 y2) (spec_BrokerRight.l1 (k + 1) y0 y1 y2))
  | 0 => ⟨fun _ _ _ r h => by simp [spec_BrokerRight.j0] at h, fun _ _ _ r h => by simp [spec_BrokerRight.l0] at h, fun _ _ _ r h => by simp [spec_BrokerRight.l1] at h⟩
  | k + 1 => by
    obtain ⟨ih0, ih1, ih2⟩ := spec_BrokerRight.mono_l k
    refine ⟨?_, ?_, ?_⟩
    · intro y0 y1 y2
      unfold spec_BrokerRight.j0
      repeat' first
      | (with_reducible exact ih0 _ _ _)
      | (with_reducible exact ih1 _ _ _)
      | (with_reducible exact ih2 _ _ _)
      | (with_reducible exact spec_TopicRight.mono _ _ _ _ _)
      | (with_reducible exact LeO.refl _)
      | (with_reducible exact LeO.none _)
      | (with_reducible refine LeO.ite ?_ ?_)
      | (with_reducible refine LeO.bind ?_ (fun _ => ?_))
      | exact ih0 _ _ _
      | exact ih1 _ _ _
      | exact ih2 _ _ _
      | exact spec_TopicRight.mono _ _ _ _ _
      | exact LeO.none _
      | refine LeO.ite ?_ ?_
      | refine LeO.bind ?_ (fun _ => ?_)
    · intro y0 y1 y2
      unfold spec_BrokerRight.l0
      repeat' first
      | (with_reducible exact ih0 _ _ _)
      | (with_reducible exact ih1 _ _ _)
      | (with_reducible exact ih2 _ _ _)
      | (with_reducible exact spec_TopicRight.mono _ _ _ _ _)
      | (with_reducible exact LeO.refl _)
      | (with_reducible exact LeO.none _)
      | (with_reducible refine LeO.ite ?_ ?_)
      | (with_reducible refine LeO.bind ?_ (fun _ => ?_))
      | exact ih0 _ _ _
      | exact ih1 _ _ _
      | exact ih2 _ _ _
      | exact spec_TopicRight.mono _ _ _ _ _
      | exact LeO.none _
      | refine LeO.ite ?_ ?_
      | refine LeO.bind ?_ (fun _ => ?_)
    · intro y0 y1 y2
      unfold spec_BrokerRight.l1
      repeat' first
      | (with_reducible exact ih0 _ _ _)
      | (with_reducible exact ih1 _ _ _)
      | (with_reducible exact ih2 _ _ _)
      | (with_reducible exact spec_TopicRight.mono _ _ _ _ _)
      | (with_reducible exact LeO.refl _)
      | (with_reducible exact LeO.none _)
      | (with_reducible refine LeO.ite ?_ ?_)
      | (with_reducible refine LeO.bind ?_ (fun _ => ?_))
      | exact ih0 _ _ _
      | exact ih1 _ _ _
      | exact ih2 _ _ _
      | exact spec_TopicRight.mono _ _ _ _ _
      | exact LeO.none _
      | refine LeO.ite ?_ ?_
      | refine LeO.bind ?_ (fun _ => ?_)
theorem spec_BrokerRight.mono : ∀ a0 a1 k, LeO (spec_BrokerRight.f k a0 a1) (spec_BrokerRight.f (k + 1) a0 a1) := by
  intro a0 a1 k
  obtain ⟨ih0, ih1, ih2⟩ := spec_BrokerRight.mono_l k
  unfold spec_BrokerRight.f
  repeat' first
      | (with_reducible exact ih0 _ _ _)
      | (with_reducible exact ih1 _ _ _)
      | (with_reducible exact ih2 _ _ _)
      | (with_reducible exact spec_TopicRight.mono _ _ _ _ _)
      | (with_reducible exact LeO.refl _)
      | (with_reducible exact LeO.none _)
      | (with_reducible refine LeO.ite ?_ ?_)
      | (with_reducible refine LeO.bind ?_ (fun _ => ?_))
      | exact ih0 _ _ _
      | exact ih1 _ _ _
      | exact ih2 _ _ _
      | exact spec_TopicRight.mono _ _ _ _ _
      | exact LeO.none _
      | refine LeO.ite ?_ ?_
      | refine LeO.bind ?_ (fun _ => ?_)
def spec_BrokerRight.T6 : Bool × List (List Nat × List Nat) := (true, [([], []), ([0], [0]), ([], []), ([1, 2], [1, 2]), ([3], [3]), ([4], [4]), ([5], [5]), ([6, 5], [6]), ([7], [7]), ([8, 7], [7, 8]), ([9, 7, 7], [7, 9]), ([10], [10]), ([11, 10], [10, 11]), ([10], [10]), ([13, 10], [10, 13]), ([12, 14, 10], [10, 12, 14]), ([15, 10], [10, 15]), ([16, 10], [10, 16]), ([10], [10]), ([18, 10], [10, 18]), ([10], [10]), ([19, 20, 10], [10, 19, 20]), ([21, 10], [10, 21]), ([22, 10], [10, 22]), ([17, 23, 10], [10, 17, 23]), ([10, 24, 7], [7, 10, 24]), ([7, 25], [7, 25])])
def spec_BrokerRight.B6 : List Nat := [0, 1, 0, 7, 15, 31, 63, 127, 255, 511, 1023, 2047, 4095, 2047, 10239, 32767, 65535, 131071, 2047, 264191, 2047, 1837055, 3934207, 8128511, 16777215, 33554431, 67108863]
theorem spec_BrokerRight.tab6 : rtab .any (opsOf Try.f16 6) = spec_BrokerRight.T6 := by kernel_rfl
theorem spec_BrokerRight.bits6 : waitsOk spec_BrokerRight.T6.2 spec_BrokerRight.B6 = true := by kernel_rfl
def spec_BrokerRight.T12 : Bool × List (List Nat × List Nat) := (true, [([], []), ([0], [0]), ([1], [1]), ([2], [2]), ([3, 2], [3]), ([4], [4]), ([5, 4], [4, 5]), ([6, 4, 4], [4, 6]), ([7, 4], [4, 7]), ([4, 8], [4, 8]), ([9, 7], [9]), ([10], [10]), ([11, 10], [10, 11]), ([12, 10], [10, 12]), ([13, 10], [10, 13]), ([10, 14], [10, 14]), ([15, 10], [15]), ([16], [16]), ([17, 16], [16, 17]), ([18, 16, 16], [16, 18]), ([19], [19]), ([20, 19], [19, 20]), ([19], [19]), ([22, 19], [19, 22]), ([21, 23, 19], [19, 21, 23]), ([24, 19], [19, 24]), ([25, 19], [19, 25]), ([19], [19]), ([27, 19], [19, 27]), ([26, 28, 19], [19, 26, 28]), ([19, 29, 16], [16, 19, 29]), ([16, 30], [16, 30])])
def spec_BrokerRight.B12 : List Nat := [0, 1, 3, 7, 15, 31, 63, 127, 255, 511, 1023, 2047, 4095, 8191, 16383, 32767, 65535, 131071, 262143, 524287, 1048575, 2097151, 1048575, 5242879, 16777215, 33554431, 67108863, 1048575, 135266303, 536870911, 1073741823, 2147483647]
theorem spec_BrokerRight.tab12 : rtab .any (opsOf Try.f16 12) = spec_BrokerRight.T12 := by kernel_rfl
theorem spec_BrokerRight.bits12 : waitsOk spec_BrokerRight.T12.2 spec_BrokerRight.B12 = true := by kernel_rfl
set_option maxHeartbeats 60000000 in
set_option maxRecDepth 100000 in
theorem spec_BrokerRight.calls (k : Nat) (A0_0 : Option Addr) (c0_0 : Nat) (l0_0 : List (S30)) (A0_1 : Option Addr) (c0_1 : Nat) (l0_1 : List (S67)) (r : Bool) (w : World) (hr0_0 : Kd.C k30 w A0_0 l0_0.length l0_0) (hc0_0 : l0_0.length ≤ c0_0) (hr0_1 : Kd.C k67 w A0_1 l0_1.length l0_1) (hc0_1 : l0_1.length ≤ c0_1) (h : spec_BrokerRight.f k l0_0 l0_1 = some r) :
    Calls Try.prog 16 #[.agg #[.slice A0_0 l0_0.length c0_0, .slice A0_1 l0_1.length c0_1]] w fun e w' => e = .returned (.bool r) ∧ Below w.heap.size w w' := by
 have hu35 := Try.underlying35
 have hu30 := Try.underlying30
 have hu67 := Try.underlying67
 have HR0_0 := AM hr0_0
 have HC0_0 := AM hc0_0
 clear hr0_0 hc0_0
 have HR0_1 := AM hr0_1
 have HC0_1 := AM hc0_1
 clear hr0_1 hc0_1
 have HB := AM (Below.refl w.heap.size w)
 have H : (if (l0_0.length : Int) > 4 then (spec_BrokerRight.j0 k true l0_0 l0_1) else (spec_BrokerRight.j0 k (decide ((l0_1.length : Int) > 9)) l0_0 l0_1)) = some r := h
 clear h
 have HC2 := AM H
 clear H
 go_enter Try.func16, Try.ntmps16
 go_upto_region 1 with (first | ((with_reducible refine gate_dst (N := 1) rfl ?_); (try (refine gate_guard (by rfl) ?_; dsimp only)); refine box_event (by rfl) (N := 1) (by rfl) (cs := #[.slice A0_0 l0_0.length c0_0, .slice A0_1 l0_1.length c0_1]) (t := 35) (by first | (go_simp; done) | (go_simp; rfl)) ?_; intro gb101 hg w3 hbox hb; have _ := AM (below_step (bX HB.out) hb); have _ := AM (hbox); have n2_ := AM ((by rw [hg]; exact (bZ (bX HB.out)) : w.heap.size ≤ gb101)); clear HB; rename_i HB BK101; have GW101 := n2_; have GE101 := n2_; clear n2_; clear hb hbox hg))
 (try simp only [Act.put, List.setIfInBounds_toArray, List.set_cons_zero, List.set_cons_succ])
 go_cut [15] (fun v15 wc => ∃ (kq : Nat) (x15_1 : Bool), v15 = .bool x15_1 ∧ Aside0 (spec_BrokerRight.j0 kq x15_1 l0_0 l0_1 = some r) ∧ Aside0 (kq ≤ k) ∧ Aside0 (wc.heap[gb101]? = some (.cells #[(.slice A0_0 l0_0.length c0_0), (.slice A0_1 l0_1.length c0_1)] 35 (0, 0))) ∧ Aside0 (Below w.heap.size w wc))
 case first =>
  have H := HC2.out
  clear HC2
  by_cases c4 : (l0_0.length : Int) > 4
  ·
   rw [if_pos c4] at H
   have c4b0 : decide (4 < (l0_0.length : Int)) = true := decide_eq_true c4
   have c4b1 : decide (4 < l0_0.length) = true := decide_eq_true (by omega)
   clear c4
   (first | rw [c4b0] | (simp only [i64_w, i32_w]; rw [c4b0]) | skip)
   have H' := AM H
   clear H
   have hcz5 := q2 BK101.out
   have hfz5 := fZ BK101.out
   go_wp2
   go_meet
   case rel => exact ⟨_, (true), (by first | rfl | (simp; done) | (simp [*]; done)), H', ⟨by first | omega | exact Nat.le_refl _⟩, ⟨kX BK101.out⟩, ⟨bX HB.out⟩⟩
  rw [if_neg c4] at H
  have c4b0 : decide (4 < (l0_0.length : Int)) = false := decide_eq_false c4
  have c4b1 : decide (4 < l0_0.length) = false := decide_eq_false (by omega)
  clear c4
  (first | rw [c4b0] | (simp only [i64_w, i32_w]; rw [c4b0]) | skip)
  have H' := AM H
  clear H
  have hcz6 := q2 BK101.out
  have hfz6 := fZ BK101.out
  go_wp2
  go_meet
  case rel => exact ⟨_, (decide ((l0_1.length : Int) > 9)), (by first | rfl | (simp; done) | (simp [*]; done)), H', ⟨by first | omega | exact Nat.le_refl _⟩, ⟨kX BK101.out⟩, ⟨bX HB.out⟩⟩
 case rest =>
  clear HC2
  (try clear c1); (try clear p2); (try clear c4); (try clear c4b0); (try clear c4b1); (try clear hcz5); (try clear hcz6); (try clear hfz5); (try clear hfz6)
  obtain ⟨kq, x15_1, rfl, HA, HJ1, BK101, HB⟩ := hcut
  cases kq with
  | zero => exact absurd HA.out (by simp [spec_BrokerRight.j0])
  | succ kj1 =>
   have H := HA.out
   clear HA
   simp only [spec_BrokerRight.j0] at H
   by_cases c7 : x15_1 = true
   ·
    subst c7
    have H1 : (some false) = some r := by rw [if_pos rfl] at H; exact H
    clear H
    have H := H1
    clear H1
    obtain rfl := Option.some.inj H
    go_wp2
    go_ret
    exact ⟨by first | rfl | (simp [*, errW_none, errW_some] <;> rfl), bX HB.out⟩
   replace c7 := Bool.eq_false_iff.mpr c7
   subst c7
   have H1 : (spec_BrokerRight.l0 kj1 0 l0_0 l0_1) = some r := by rw [if_neg (show ¬ (false = true) by decide)] at H; exact H
   clear H
   have H := H1
   clear H1
   have H' := AM H
   clear H
   go_wp2
   go_loopg [3] kj1 (fun kq v3 w' => ∃ (x3_2 : Int), v3 = .int .i64 x3_2 ∧ Aside0 (spec_BrokerRight.l0 kq x3_2 l0_0 l0_1 = some r) ∧ Aside0 (kq ≤ kj1) ∧ Aside0 (w'.heap[gb101]? = some (.cells #[(.slice A0_0 l0_0.length c0_0), (.slice A0_1 l0_1.length c0_1)] 35 (0, 0))) ∧ Aside0 (Below w.heap.size w w'))
   case atStart => exact ⟨(0), (by first | rfl | (simp; done) | (simp [*]; done)), H', ⟨Nat.le_refl _⟩, ⟨kX BK101.out⟩, ⟨bX HB.out⟩⟩
   case round =>
    clear H'
    (try clear c1); (try clear p2); (try clear c4); (try clear c4b0); (try clear c4b1); (try clear c7); (try clear hcz5); (try clear hcz6); (try clear hfz5); (try clear hfz6)
    obtain ⟨x3_2, rfl, HA, HK2, BK101, HB⟩ := hrel
    cases gk with
    | zero => exact absurd HA.out (by simp [spec_BrokerRight.l0])
    | succ k2 =>
     have H := HA.out
     clear HA
     simp only [spec_BrokerRight.l0] at H
     by_cases c8 : x3_2 < (l0_0.length : Int)
     ·
      rw [if_pos c8] at H
      have c8b0 : decide (x3_2 < (l0_0.length : Int)) = true := decide_eq_true c8
      clear c8
      by_cases c9 : 0 ≤ x3_2
      ·
       rw [if_pos c9] at H
       have c9b0 : decide (0 ≤ x3_2) = true := decide_eq_true c9
       clear c9
       replace H := Option.bind_eq_some_iff.mp H
       obtain ⟨t103, A100, H⟩ := H
       replace H : (if t103 = true then (if x3_2 > 0 then (if 0 ≤ (wrap64 (x3_2 - 1)) then (if (wrap64 (x3_2 - 1)) < (l0_0.length : Int) then (if ((Op.bytesLess (((rd_T30 l0_0 (wrap64 (x3_2 - 1))).f0).toList) (((rd_T30 l0_0 x3_2).f0).toList)) = true) then (spec_BrokerRight.l0 k2 (wrap64 (x3_2 + 1)) l0_0 l0_1) else (some false)) else (none)) else (none)) else (spec_BrokerRight.l0 k2 (wrap64 (x3_2 + 1)) l0_0 l0_1)) else (some false)) = some r := H
       have A10 := AM A100
       clear A100
       by_cases c11 : t103 = true
       ·
        subst c11
        have H1 : (if x3_2 > 0 then (if 0 ≤ (wrap64 (x3_2 - 1)) then (if (wrap64 (x3_2 - 1)) < (l0_0.length : Int) then (if ((Op.bytesLess (((rd_T30 l0_0 (wrap64 (x3_2 - 1))).f0).toList) (((rd_T30 l0_0 x3_2).f0).toList)) = true) then (spec_BrokerRight.l0 k2 (wrap64 (x3_2 + 1)) l0_0 l0_1) else (some false)) else (none)) else (none)) else (spec_BrokerRight.l0 k2 (wrap64 (x3_2 + 1)) l0_0 l0_1)) = some r := by rw [if_pos rfl] at H; exact H
        clear H
        have H := H1
        clear H1
        by_cases c12 : x3_2 > 0
        ·
         rw [if_pos c12] at H
         have c12b0 : decide (0 < x3_2) = true := decide_eq_true c12
         clear c12
         obtain ⟨ji13, hji13⟩ : ∃ j_ : Int, (wrap64 (x3_2 - 1)) = j_ := ⟨_, rfl⟩
         replace H : (if 0 ≤ (ji13) then (if (ji13) < (l0_0.length : Int) then (if ((Op.bytesLess (((rd_T30 l0_0 (ji13)).f0).toList) (((rd_T30 l0_0 x3_2).f0).toList)) = true) then (spec_BrokerRight.l0 k2 (wrap64 (x3_2 + 1)) l0_0 l0_1) else (some false)) else (none)) else (none)) = some r := by first | (rw [hji13] at H; exact H) | (simp only [hji13] at H ⊢; exact H)
         (try rw [hji13] at A10)
         have hji13w : (IntKind.i64.wrap (x3_2 - 1)) = ji13 := (i64_w _).trans hji13
         by_cases c14 : 0 ≤ (ji13)
         ·
          rw [if_pos c14] at H
          have c14b0 : decide (0 ≤ (ji13)) = true := decide_eq_true c14
          clear c14
          by_cases c15 : (ji13) < (l0_0.length : Int)
          ·
           rw [if_pos c15] at H
           have c15b0 : decide ((ji13) < (l0_0.length : Int)) = true := decide_eq_true c15
           clear c15
           by_cases c16 : ((Op.bytesLess (((rd_T30 l0_0 (ji13)).f0).toList) (((rd_T30 l0_0 x3_2).f0).toList)) = true)
           ·
            rw [if_pos c16] at H
            have c16b0 : (Op.bytesLess (((rd_T30 l0_0 (ji13)).f0).toList) (((rd_T30 l0_0 x3_2).f0).toList)) = true := c16
            clear c16
            have H' := AM H
            clear H
            have hcz17 := q2 BK101.out
            have hfz17 := fZ BK101.out
            try go_wp2
            have _ := AM (kD BK101.out)
            have _ := AM (bD HB.out)
            clear BK101 HB
            rename_i BK101 HB
            have p102 : 0 ≤ (x3_2 : Int) := of_decide_eq_true (by assumption)
            have q102 : x3_2 < (l0_0.length : Int) := of_decide_eq_true (by assumption)
            obtain ⟨ad102, A102_2, c102_2, A102_3, c102_3, e102, hx102_0, hx102_1, hx102_2, hx102_3, hl102_2, hi102_2, hl102_3, hi102_3⟩ := at_T30 HR0_0.out x3_2 p102 q102
            have hw102_3 := hx102_3
            have hw102_2 := hx102_2
            have hw102_1 := hx102_1
            have hw102_0 := hx102_0
            cases e102
            replace hx102_0 := pw_cell_below HB.out hx102_0
            replace hx102_1 := pw_cell_below HB.out hx102_1
            replace hx102_2 := pw_cell_below HB.out hx102_2
            replace hx102_3 := pw_cell_below HB.out hx102_3
            have HR102_2 := AM hi102_2
            have HC102_2 := AM hl102_2
            clear hi102_2 hl102_2
            have HR102_3 := AM hi102_3
            have HC102_3 := AM hl102_3
            clear hi102_3 hl102_3
            replace p102 := eq_true p102
            replace q102 := eq_true q102
            have p104 : 0 ≤ ((ji13) : Int) := of_decide_eq_true (by assumption)
            have q104 : (ji13) < (l0_0.length : Int) := of_decide_eq_true (by assumption)
            obtain ⟨ad104, A104_2, c104_2, A104_3, c104_3, e104, hx104_0, hx104_1, hx104_2, hx104_3, hl104_2, hi104_2, hl104_3, hi104_3⟩ := at_T30 HR0_0.out (ji13) p104 q104
            have hw104_3 := hx104_3
            have hw104_2 := hx104_2
            have hw104_1 := hx104_1
            have hw104_0 := hx104_0
            obtain rfl : ad102 = ad104 := (by injection e104)
            replace hx104_0 := pw_cell_below HB.out hx104_0
            replace hx104_1 := pw_cell_below HB.out hx104_1
            replace hx104_2 := pw_cell_below HB.out hx104_2
            replace hx104_3 := pw_cell_below HB.out hx104_3
            have HR104_2 := AM hi104_2
            have HC104_2 := AM hl104_2
            clear hi104_2 hl104_2
            have HR104_3 := AM hi104_3
            have HC104_3 := AM hl104_3
            clear hi104_3 hl104_3
            replace p104 := eq_true p104
            replace q104 := eq_true q104
            have p105 : 0 ≤ (x3_2 : Int) := of_decide_eq_true (by assumption)
            have q105 : x3_2 < (l0_0.length : Int) := of_decide_eq_true (by assumption)
            obtain ⟨ad105, A105_2, c105_2, A105_3, c105_3, e105, hx105_0, hx105_1, hx105_2, hx105_3, hl105_2, hi105_2, hl105_3, hi105_3⟩ := at_T30 HR0_0.out x3_2 p105 q105
            have hw105_3 := hx105_3
            have hw105_2 := hx105_2
            have hw105_1 := hx105_1
            have hw105_0 := hx105_0
            obtain rfl : ad102 = ad105 := (by injection e105)
            replace hx105_0 := pw_cell_below HB.out hx105_0
            replace hx105_1 := pw_cell_below HB.out hx105_1
            replace hx105_2 := pw_cell_below HB.out hx105_2
            replace hx105_3 := pw_cell_below HB.out hx105_3
            have HR105_2 := AM hi105_2
            have HC105_2 := AM hl105_2
            clear hi105_2 hl105_2
            have HR105_3 := AM hi105_3
            have HC105_3 := AM hl105_3
            clear hi105_3 hl105_3
            replace p105 := eq_true p105
            replace q105 := eq_true q105
            refine start_ (n := 27) (S := fun w' => w'.cell? ⟨gb101, 0, none⟩ = some (.slice (some ad102) l0_0.length c0_0) ∧ w'.cell? ⟨gb101, 1, none⟩ = some (.slice A0_1 l0_1.length c0_1) ∧ w'.cell? (ad102.add ((x3_2).toNat * 4)) = some (.string ((rd_T30 l0_0 x3_2).f0)) ∧ w'.cell? ⟨(ad102.add ((x3_2).toNat * 4)).block, (ad102.add ((x3_2).toNat * 4)).off + 1, none⟩ = some (.int .i64 ((rd_T30 l0_0 x3_2).f1)) ∧ w'.cell? ⟨(ad102.add ((x3_2).toNat * 4)).block, (ad102.add ((x3_2).toNat * 4)).off + 2, none⟩ = some (.slice A102_2 ((rd_T30 l0_0 x3_2).f2).length c102_2) ∧ w'.cell? ⟨(ad102.add ((x3_2).toNat * 4)).block, (ad102.add ((x3_2).toNat * 4)).off + 3, none⟩ = some (.slice A102_3 ((rd_T30 l0_0 x3_2).f3).length c102_3) ∧ w'.cell? (ad102.add (((ji13)).toNat * 4)) = some (.string ((rd_T30 l0_0 (ji13)).f0)) ∧ w'.cell? ⟨(ad102.add (((ji13)).toNat * 4)).block, (ad102.add (((ji13)).toNat * 4)).off + 1, none⟩ = some (.int .i64 ((rd_T30 l0_0 (ji13)).f1)) ∧ w'.cell? ⟨(ad102.add (((ji13)).toNat * 4)).block, (ad102.add (((ji13)).toNat * 4)).off + 2, none⟩ = some (.slice A104_2 ((rd_T30 l0_0 (ji13)).f2).length c104_2) ∧ w'.cell? ⟨(ad102.add (((ji13)).toNat * 4)).block, (ad102.add (((ji13)).toNat * 4)).off + 3, none⟩ = some (.slice A104_3 ((rd_T30 l0_0 (ji13)).f3).length c104_3) ∧ w'.cell? (ad102.add ((x3_2).toNat * 4)) = some (.string ((rd_T30 l0_0 x3_2).f0)) ∧ w'.cell? ⟨(ad102.add ((x3_2).toNat * 4)).block, (ad102.add ((x3_2).toNat * 4)).off + 1, none⟩ = some (.int .i64 ((rd_T30 l0_0 x3_2).f1)) ∧ w'.cell? ⟨(ad102.add ((x3_2).toNat * 4)).block, (ad102.add ((x3_2).toNat * 4)).off + 2, none⟩ = some (.slice A105_2 ((rd_T30 l0_0 x3_2).f2).length c105_2) ∧ w'.cell? ⟨(ad102.add ((x3_2).toNat * 4)).block, (ad102.add ((x3_2).toNat * 4)).off + 3, none⟩ = some (.slice A105_3 ((rd_T30 l0_0 x3_2).f3).length c105_3)) (ds := []) (upTo 0 27) (by kernel_rfl) rfl rfl ⟨(kC BK101.out 0).trans rfl, (kC BK101.out 1).trans rfl, (pw_cell_below HB.out hw102_0), (pw_cell_below HB.out hw102_1), (pw_cell_below HB.out hw102_2), (pw_cell_below HB.out hw102_3), (pw_cell_below HB.out hw104_0), (pw_cell_below HB.out hw104_1), (pw_cell_below HB.out hw104_2), (pw_cell_below HB.out hw104_3), (pw_cell_below HB.out hw105_0), (pw_cell_below HB.out hw105_1), (pw_cell_below HB.out hw105_2), (pw_cell_below HB.out hw105_3)⟩ (fun hHeld => ?_); refine with_tabW spec_BrokerRight.tab6 spec_BrokerRight.bits6 (fun HT_ HW_ => ?_)
            generalize wr.drew = w18 at BK101 HB HR102_2 HR102_3 HR104_2 HR104_3 HR105_2 HR105_3 hx102_0 hx102_1 hx102_2 hx102_3 hx104_0 hx104_1 hx104_2 hx104_3 hx105_0 hx105_1 hx105_2 hx105_3 hHeld ⊢
            refine pF 0 1 27 23 ?_
            refine pF2 2 25 spec_BrokerRight.b0 ?_
            refine pT2 1 24 (upTo 3 27) ?_ hHeld
            refine pF 3 4 27 26 ?_
            refine pT2 4 27 (upTo 5 27) ?_ hHeld
            refine one_ (i := 5) (N := some 28) (upTo 6 27) rfl rfl (one_of HT_.out (by kernel_rfl)) (by decide) (fun K hK => ?_)
            refine goes_ Try.func35 (by kernel_rfl) rfl #[.agg #[.string ((rd_T30 l0_0 x3_2).f0), .int .i64 ((rd_T30 l0_0 x3_2).f1), .slice A102_2 ((rd_T30 l0_0 x3_2).f2).length c102_2, .slice A102_3 ((rd_T30 l0_0 x3_2).f3).length c102_3]] (by rfl) rfl rfl (by (try simp only [mA, mB, mC]); first | done | rfl | (simp only [mD, mE]; rfl)) ?_
            with_reducible refine (spec_TopicRight.calls k2 ((rd_T30 l0_0 x3_2).f0) ((rd_T30 l0_0 x3_2).f1) _ _ ((rd_T30 l0_0 x3_2).f2) _ _ ((rd_T30 l0_0 x3_2).f3) true _ ?side1 ?side2 ?side3 ?side4 A10.out).mono ?_
            (case side1 => repeat (first | exact (cB HR102_2.out HB.out) | (with_reducible first | apply cA | apply cN | apply cD)))
            (case side2 => exact HC102_2.out)
            (case side3 => repeat (first | exact (cB HR102_3.out HB.out) | (with_reducible first | apply cA | apply cN | apply cD)))
            (case side4 => exact HC102_3.out)
            rintro e w19 ⟨rfl, hb⟩
            refine ⟨_, rfl, ?_⟩
            have _ := AM (nB BK101.out hb)
            have _ := AM (below_step (bX HB.out) hb)
            clear BK101 HB
            rename_i BK101 HB
            (try clear hb)
            (try clear hk)
            refine hK.out _ _ ⟨(kC BK101.out 0).trans rfl, (kC BK101.out 1).trans rfl, (pw_cell_below HB.out hw102_0), (pw_cell_below HB.out hw102_1), (pw_cell_below HB.out hw102_2), (pw_cell_below HB.out hw102_3), (pw_cell_below HB.out hw104_0), (pw_cell_below HB.out hw104_1), (pw_cell_below HB.out hw104_2), (pw_cell_below HB.out hw104_3), (pw_cell_below HB.out hw105_0), (pw_cell_below HB.out hw105_1), (pw_cell_below HB.out hw105_2), (pw_cell_below HB.out hw105_3)⟩ (fun hHeld => ?_)
            clear hK K
            refine norm_ (a' := ?_) ?_ ?_
            rotate_left
            ·
             show Act.put _ (some 28) _ = _
             simp only [Act.put, sA, sB, sC, i64_w, i32_w]
             rfl
            refine pF 6 7 27 29 ?_
            refine pF 7 8 27 30 ?_
            refine pF 8 9 27 31 ?_
            refine pF 9 10 27 32 ?_
            refine pF 10 11 27 33 ?_
            refine pF 11 12 27 34 ?_
            refine pF2 13 36 spec_BrokerRight.b1 ?_
            refine pF2 14 37 spec_BrokerRight.b2 ?_
            refine pF2 18 41 spec_BrokerRight.b3 ?_
            refine pF2 20 43 spec_BrokerRight.b4 ?_
            refine pT2 12 35 spec_BrokerRight.b5 ?_ hHeld
            refine pF2 15 38 spec_BrokerRight.b6 ?_
            refine pF2 16 39 spec_BrokerRight.b7 ?_
            refine pT2 17 40 spec_BrokerRight.b8 ?_ hHeld
            refine pT2 19 42 (upTo 21 27) ?_ hHeld
            refine pF 21 22 27 44 ?_
            refine pF 22 23 27 45 ?_
            refine pT2 23 46 (upTo 24 27) ?_ hHeld
            refine pF 24 25 27 47 ?_
            refine pF 25 26 27 48 ?_
            refine pF 26 27 27 49 ?_
            refine done_ (done_of HT_.out (by kernel_rfl)) ?_
            try go_wp2
            go_roundg k2
            case measure => have := HJ1.out; have := HK2.out; omega
            case rel => exact ⟨(wrap64 (x3_2 + 1)), (by first | rfl | (simp; done) | (simp [*]; done)), H', ⟨by have := HJ1.out; have := HK2.out; omega⟩, ⟨kX BK101.out⟩, ⟨bX HB.out⟩⟩
           rw [if_neg c16] at H
           have c16b0 : (Op.bytesLess (((rd_T30 l0_0 (ji13)).f0).toList) (((rd_T30 l0_0 x3_2).f0).toList)) = false := by simpa using c16
           clear c16
           obtain rfl := Option.some.inj H
           have hcz20 := q2 BK101.out
           have hfz20 := fZ BK101.out
           try go_wp2
           have _ := AM (kD BK101.out)
           have _ := AM (bD HB.out)
           clear BK101 HB
           rename_i BK101 HB
           have p102 : 0 ≤ (x3_2 : Int) := of_decide_eq_true (by assumption)
           have q102 : x3_2 < (l0_0.length : Int) := of_decide_eq_true (by assumption)
           obtain ⟨ad102, A102_2, c102_2, A102_3, c102_3, e102, hx102_0, hx102_1, hx102_2, hx102_3, hl102_2, hi102_2, hl102_3, hi102_3⟩ := at_T30 HR0_0.out x3_2 p102 q102
           have hw102_3 := hx102_3
           have hw102_2 := hx102_2
           have hw102_1 := hx102_1
           have hw102_0 := hx102_0
           cases e102
           replace hx102_0 := pw_cell_below HB.out hx102_0
           replace hx102_1 := pw_cell_below HB.out hx102_1
           replace hx102_2 := pw_cell_below HB.out hx102_2
           replace hx102_3 := pw_cell_below HB.out hx102_3
           have HR102_2 := AM hi102_2
           have HC102_2 := AM hl102_2
           clear hi102_2 hl102_2
           have HR102_3 := AM hi102_3
           have HC102_3 := AM hl102_3
           clear hi102_3 hl102_3
           replace p102 := eq_true p102
           replace q102 := eq_true q102
           have p104 : 0 ≤ ((ji13) : Int) := of_decide_eq_true (by assumption)
           have q104 : (ji13) < (l0_0.length : Int) := of_decide_eq_true (by assumption)
           obtain ⟨ad104, A104_2, c104_2, A104_3, c104_3, e104, hx104_0, hx104_1, hx104_2, hx104_3, hl104_2, hi104_2, hl104_3, hi104_3⟩ := at_T30 HR0_0.out (ji13) p104 q104
           have hw104_3 := hx104_3
           have hw104_2 := hx104_2
           have hw104_1 := hx104_1
           have hw104_0 := hx104_0
           obtain rfl : ad102 = ad104 := (by injection e104)
           replace hx104_0 := pw_cell_below HB.out hx104_0
           replace hx104_1 := pw_cell_below HB.out hx104_1
           replace hx104_2 := pw_cell_below HB.out hx104_2
           replace hx104_3 := pw_cell_below HB.out hx104_3
           have HR104_2 := AM hi104_2
           have HC104_2 := AM hl104_2
           clear hi104_2 hl104_2
           have HR104_3 := AM hi104_3
           have HC104_3 := AM hl104_3
           clear hi104_3 hl104_3
           replace p104 := eq_true p104
           replace q104 := eq_true q104
           have p105 : 0 ≤ (x3_2 : Int) := of_decide_eq_true (by assumption)
           have q105 : x3_2 < (l0_0.length : Int) := of_decide_eq_true (by assumption)
           obtain ⟨ad105, A105_2, c105_2, A105_3, c105_3, e105, hx105_0, hx105_1, hx105_2, hx105_3, hl105_2, hi105_2, hl105_3, hi105_3⟩ := at_T30 HR0_0.out x3_2 p105 q105
           have hw105_3 := hx105_3
           have hw105_2 := hx105_2
           have hw105_1 := hx105_1
           have hw105_0 := hx105_0
           obtain rfl : ad102 = ad105 := (by injection e105)
           replace hx105_0 := pw_cell_below HB.out hx105_0
           replace hx105_1 := pw_cell_below HB.out hx105_1
           replace hx105_2 := pw_cell_below HB.out hx105_2
           replace hx105_3 := pw_cell_below HB.out hx105_3
           have HR105_2 := AM hi105_2
           have HC105_2 := AM hl105_2
           clear hi105_2 hl105_2
           have HR105_3 := AM hi105_3
           have HC105_3 := AM hl105_3
           clear hi105_3 hl105_3
           replace p105 := eq_true p105
           replace q105 := eq_true q105
           refine start_ (n := 27) (S := fun w' => w'.cell? ⟨gb101, 0, none⟩ = some (.slice (some ad102) l0_0.length c0_0) ∧ w'.cell? ⟨gb101, 1, none⟩ = some (.slice A0_1 l0_1.length c0_1) ∧ w'.cell? (ad102.add ((x3_2).toNat * 4)) = some (.string ((rd_T30 l0_0 x3_2).f0)) ∧ w'.cell? ⟨(ad102.add ((x3_2).toNat * 4)).block, (ad102.add ((x3_2).toNat * 4)).off + 1, none⟩ = some (.int .i64 ((rd_T30 l0_0 x3_2).f1)) ∧ w'.cell? ⟨(ad102.add ((x3_2).toNat * 4)).block, (ad102.add ((x3_2).toNat * 4)).off + 2, none⟩ = some (.slice A102_2 ((rd_T30 l0_0 x3_2).f2).length c102_2) ∧ w'.cell? ⟨(ad102.add ((x3_2).toNat * 4)).block, (ad102.add ((x3_2).toNat * 4)).off + 3, none⟩ = some (.slice A102_3 ((rd_T30 l0_0 x3_2).f3).length c102_3) ∧ w'.cell? (ad102.add (((ji13)).toNat * 4)) = some (.string ((rd_T30 l0_0 (ji13)).f0)) ∧ w'.cell? ⟨(ad102.add (((ji13)).toNat * 4)).block, (ad102.add (((ji13)).toNat * 4)).off + 1, none⟩ = some (.int .i64 ((rd_T30 l0_0 (ji13)).f1)) ∧ w'.cell? ⟨(ad102.add (((ji13)).toNat * 4)).block, (ad102.add (((ji13)).toNat * 4)).off + 2, none⟩ = some (.slice A104_2 ((rd_T30 l0_0 (ji13)).f2).length c104_2) ∧ w'.cell? ⟨(ad102.add (((ji13)).toNat * 4)).block, (ad102.add (((ji13)).toNat * 4)).off + 3, none⟩ = some (.slice A104_3 ((rd_T30 l0_0 (ji13)).f3).length c104_3) ∧ w'.cell? (ad102.add ((x3_2).toNat * 4)) = some (.string ((rd_T30 l0_0 x3_2).f0)) ∧ w'.cell? ⟨(ad102.add ((x3_2).toNat * 4)).block, (ad102.add ((x3_2).toNat * 4)).off + 1, none⟩ = some (.int .i64 ((rd_T30 l0_0 x3_2).f1)) ∧ w'.cell? ⟨(ad102.add ((x3_2).toNat * 4)).block, (ad102.add ((x3_2).toNat * 4)).off + 2, none⟩ = some (.slice A105_2 ((rd_T30 l0_0 x3_2).f2).length c105_2) ∧ w'.cell? ⟨(ad102.add ((x3_2).toNat * 4)).block, (ad102.add ((x3_2).toNat * 4)).off + 3, none⟩ = some (.slice A105_3 ((rd_T30 l0_0 x3_2).f3).length c105_3)) (ds := []) (upTo 0 27) (by kernel_rfl) rfl rfl ⟨(kC BK101.out 0).trans rfl, (kC BK101.out 1).trans rfl, (pw_cell_below HB.out hw102_0), (pw_cell_below HB.out hw102_1), (pw_cell_below HB.out hw102_2), (pw_cell_below HB.out hw102_3), (pw_cell_below HB.out hw104_0), (pw_cell_below HB.out hw104_1), (pw_cell_below HB.out hw104_2), (pw_cell_below HB.out hw104_3), (pw_cell_below HB.out hw105_0), (pw_cell_below HB.out hw105_1), (pw_cell_below HB.out hw105_2), (pw_cell_below HB.out hw105_3)⟩ (fun hHeld => ?_); refine with_tabW spec_BrokerRight.tab6 spec_BrokerRight.bits6 (fun HT_ HW_ => ?_)
           generalize wr.drew = w21 at BK101 HB HR102_2 HR102_3 HR104_2 HR104_3 HR105_2 HR105_3 hx102_0 hx102_1 hx102_2 hx102_3 hx104_0 hx104_1 hx104_2 hx104_3 hx105_0 hx105_1 hx105_2 hx105_3 hHeld ⊢
           refine pF 0 1 27 23 ?_
           refine pF2 2 25 spec_BrokerRight.b0 ?_
           refine pT2 1 24 (upTo 3 27) ?_ hHeld
           refine pF 3 4 27 26 ?_
           refine pT2 4 27 (upTo 5 27) ?_ hHeld
           refine one_ (i := 5) (N := some 28) (upTo 6 27) rfl rfl (one_of HT_.out (by kernel_rfl)) (by decide) (fun K hK => ?_)
           refine goes_ Try.func35 (by kernel_rfl) rfl #[.agg #[.string ((rd_T30 l0_0 x3_2).f0), .int .i64 ((rd_T30 l0_0 x3_2).f1), .slice A102_2 ((rd_T30 l0_0 x3_2).f2).length c102_2, .slice A102_3 ((rd_T30 l0_0 x3_2).f3).length c102_3]] (by rfl) rfl rfl (by (try simp only [mA, mB, mC]); first | done | rfl | (simp only [mD, mE]; rfl)) ?_
           with_reducible refine (spec_TopicRight.calls k2 ((rd_T30 l0_0 x3_2).f0) ((rd_T30 l0_0 x3_2).f1) _ _ ((rd_T30 l0_0 x3_2).f2) _ _ ((rd_T30 l0_0 x3_2).f3) true _ ?side1 ?side2 ?side3 ?side4 A10.out).mono ?_
           (case side1 => repeat (first | exact (cB HR102_2.out HB.out) | (with_reducible first | apply cA | apply cN | apply cD)))
           (case side2 => exact HC102_2.out)
           (case side3 => repeat (first | exact (cB HR102_3.out HB.out) | (with_reducible first | apply cA | apply cN | apply cD)))
           (case side4 => exact HC102_3.out)
           rintro e w22 ⟨rfl, hb⟩
           refine ⟨_, rfl, ?_⟩
           have _ := AM (nB BK101.out hb)
           have _ := AM (below_step (bX HB.out) hb)
           clear BK101 HB
           rename_i BK101 HB
           (try clear hb)
           (try clear hk)
           refine hK.out _ _ ⟨(kC BK101.out 0).trans rfl, (kC BK101.out 1).trans rfl, (pw_cell_below HB.out hw102_0), (pw_cell_below HB.out hw102_1), (pw_cell_below HB.out hw102_2), (pw_cell_below HB.out hw102_3), (pw_cell_below HB.out hw104_0), (pw_cell_below HB.out hw104_1), (pw_cell_below HB.out hw104_2), (pw_cell_below HB.out hw104_3), (pw_cell_below HB.out hw105_0), (pw_cell_below HB.out hw105_1), (pw_cell_below HB.out hw105_2), (pw_cell_below HB.out hw105_3)⟩ (fun hHeld => ?_)
           clear hK K
           refine norm_ (a' := ?_) ?_ ?_
           rotate_left
           ·
            show Act.put _ (some 28) _ = _
            simp only [Act.put, sA, sB, sC, i64_w, i32_w]
            rfl
           refine pF 6 7 27 29 ?_
           refine pF 7 8 27 30 ?_
           refine pF 8 9 27 31 ?_
           refine pF 9 10 27 32 ?_
           refine pF 10 11 27 33 ?_
           refine pF 11 12 27 34 ?_
           refine pF2 13 36 spec_BrokerRight.b1 ?_
           refine pF2 14 37 spec_BrokerRight.b2 ?_
           refine pF2 18 41 spec_BrokerRight.b3 ?_
           refine pF2 20 43 spec_BrokerRight.b4 ?_
           refine pT2 12 35 spec_BrokerRight.b5 ?_ hHeld
           refine pF2 15 38 spec_BrokerRight.b6 ?_
           refine pF2 16 39 spec_BrokerRight.b7 ?_
           refine pT2 17 40 spec_BrokerRight.b8 ?_ hHeld
           refine pT2 19 42 (upTo 21 27) ?_ hHeld
           refine pF 21 22 27 44 ?_
           refine pF 22 23 27 45 ?_
           refine pT2 23 46 (upTo 24 27) ?_ hHeld
           refine pF 24 25 27 47 ?_
           refine pF 25 26 27 48 ?_
           refine pF 26 27 27 49 ?_
           refine done_ (done_of HT_.out (by kernel_rfl)) ?_
           try go_wp2
           go_ret
           exact ⟨by first | rfl | (simp [errW_none, errW_some] <;> rfl) | (simp only [← hji13]; first | rfl | (simp [errW_none, errW_some] <;> rfl)) | (simp [*, errW_none, errW_some] <;> rfl), bX HB.out⟩
          rw [if_neg c15] at H
          exact absurd H (by simp)
         rw [if_neg c14] at H
         exact absurd H (by simp)
        rw [if_neg c12] at H
        have c12b0 : decide (0 < x3_2) = false := decide_eq_false c12
        clear c12
        have H' := AM H
        clear H
        have hcz23 := q2 BK101.out
        have hfz23 := fZ BK101.out
        try go_wp2
        have _ := AM (kD BK101.out)
        have _ := AM (bD HB.out)
        clear BK101 HB
        rename_i BK101 HB
        have p102 : 0 ≤ (x3_2 : Int) := of_decide_eq_true (by assumption)
        have q102 : x3_2 < (l0_0.length : Int) := of_decide_eq_true (by assumption)
        obtain ⟨ad102, A102_2, c102_2, A102_3, c102_3, e102, hx102_0, hx102_1, hx102_2, hx102_3, hl102_2, hi102_2, hl102_3, hi102_3⟩ := at_T30 HR0_0.out x3_2 p102 q102
        have hw102_3 := hx102_3
        have hw102_2 := hx102_2
        have hw102_1 := hx102_1
        have hw102_0 := hx102_0
        cases e102
        replace hx102_0 := pw_cell_below HB.out hx102_0
        replace hx102_1 := pw_cell_below HB.out hx102_1
        replace hx102_2 := pw_cell_below HB.out hx102_2
        replace hx102_3 := pw_cell_below HB.out hx102_3
        have HR102_2 := AM hi102_2
        have HC102_2 := AM hl102_2
        clear hi102_2 hl102_2
        have HR102_3 := AM hi102_3
        have HC102_3 := AM hl102_3
        clear hi102_3 hl102_3
        replace p102 := eq_true p102
        replace q102 := eq_true q102
        refine start_ (n := 27) (S := fun w' => w'.cell? ⟨gb101, 0, none⟩ = some (.slice (some ad102) l0_0.length c0_0) ∧ w'.cell? ⟨gb101, 1, none⟩ = some (.slice A0_1 l0_1.length c0_1) ∧ w'.cell? (ad102.add ((x3_2).toNat * 4)) = some (.string ((rd_T30 l0_0 x3_2).f0)) ∧ w'.cell? ⟨(ad102.add ((x3_2).toNat * 4)).block, (ad102.add ((x3_2).toNat * 4)).off + 1, none⟩ = some (.int .i64 ((rd_T30 l0_0 x3_2).f1)) ∧ w'.cell? ⟨(ad102.add ((x3_2).toNat * 4)).block, (ad102.add ((x3_2).toNat * 4)).off + 2, none⟩ = some (.slice A102_2 ((rd_T30 l0_0 x3_2).f2).length c102_2) ∧ w'.cell? ⟨(ad102.add ((x3_2).toNat * 4)).block, (ad102.add ((x3_2).toNat * 4)).off + 3, none⟩ = some (.slice A102_3 ((rd_T30 l0_0 x3_2).f3).length c102_3)) (ds := []) (upTo 0 27) (by kernel_rfl) rfl rfl ⟨(kC BK101.out 0).trans rfl, (kC BK101.out 1).trans rfl, (pw_cell_below HB.out hw102_0), (pw_cell_below HB.out hw102_1), (pw_cell_below HB.out hw102_2), (pw_cell_below HB.out hw102_3)⟩ (fun hHeld => ?_); refine with_tabW spec_BrokerRight.tab6 spec_BrokerRight.bits6 (fun HT_ HW_ => ?_)
        generalize wr.drew = w24 at BK101 HB HR102_2 HR102_3 hx102_0 hx102_1 hx102_2 hx102_3 hHeld ⊢
        refine pF 0 1 27 23 ?_
        refine pF2 2 25 spec_BrokerRight.b0 ?_
        refine pT2 1 24 (upTo 3 27) ?_ hHeld
        refine pF 3 4 27 26 ?_
        refine pT2 4 27 (upTo 5 27) ?_ hHeld
        refine one_ (i := 5) (N := some 28) (upTo 6 27) rfl rfl (one_of HT_.out (by kernel_rfl)) (by decide) (fun K hK => ?_)
        refine goes_ Try.func35 (by kernel_rfl) rfl #[.agg #[.string ((rd_T30 l0_0 x3_2).f0), .int .i64 ((rd_T30 l0_0 x3_2).f1), .slice A102_2 ((rd_T30 l0_0 x3_2).f2).length c102_2, .slice A102_3 ((rd_T30 l0_0 x3_2).f3).length c102_3]] (by rfl) rfl rfl (by (try simp only [mA, mB, mC]); first | done | rfl | (simp only [mD, mE]; rfl)) ?_
        with_reducible refine (spec_TopicRight.calls k2 ((rd_T30 l0_0 x3_2).f0) ((rd_T30 l0_0 x3_2).f1) _ _ ((rd_T30 l0_0 x3_2).f2) _ _ ((rd_T30 l0_0 x3_2).f3) true _ ?side1 ?side2 ?side3 ?side4 A10.out).mono ?_
        (case side1 => repeat (first | exact (cB HR102_2.out HB.out) | (with_reducible first | apply cA | apply cN | apply cD)))
        (case side2 => exact HC102_2.out)
        (case side3 => repeat (first | exact (cB HR102_3.out HB.out) | (with_reducible first | apply cA | apply cN | apply cD)))
        (case side4 => exact HC102_3.out)
        rintro e w25 ⟨rfl, hb⟩
        refine ⟨_, rfl, ?_⟩
        have _ := AM (nB BK101.out hb)
        have _ := AM (below_step (bX HB.out) hb)
        clear BK101 HB
        rename_i BK101 HB
        (try clear hb)
        (try clear hk)
        refine hK.out _ _ ⟨(kC BK101.out 0).trans rfl, (kC BK101.out 1).trans rfl, (pw_cell_below HB.out hw102_0), (pw_cell_below HB.out hw102_1), (pw_cell_below HB.out hw102_2), (pw_cell_below HB.out hw102_3)⟩ (fun hHeld => ?_)
        clear hK K
        refine norm_ (a' := ?_) ?_ ?_
        rotate_left
        ·
         show Act.put _ (some 28) _ = _
         simp only [Act.put, sA, sB, sC, i64_w, i32_w]
         rfl
        refine pF 6 7 27 29 ?_
        refine pF 7 8 27 30 ?_
        refine pF 8 9 27 31 ?_
        refine pF 9 10 27 32 ?_
        refine pF 10 11 27 33 ?_
        refine pU 11 12 27 34 ?_
        refine pU 12 13 27 35 ?_
        refine pU 13 14 27 36 ?_
        refine pU 14 15 27 37 ?_
        refine pU 15 16 27 38 ?_
        refine pU 16 17 27 39 ?_
        refine pU 17 18 27 40 ?_
        refine pU 18 19 27 41 ?_
        refine pU 19 20 27 42 ?_
        refine pU 20 21 27 43 ?_
        refine pU 21 22 27 44 ?_
        refine pU 22 23 27 45 ?_
        refine pU 23 24 27 46 ?_
        refine pU 24 25 27 47 ?_
        refine pF 25 26 27 48 ?_
        refine pF 26 27 27 49 ?_
        refine done_ (done_of HT_.out (by kernel_rfl)) ?_
        try go_wp2
        go_roundg k2
        case measure => have := HJ1.out; have := HK2.out; omega
        case rel => exact ⟨(wrap64 (x3_2 + 1)), (by first | rfl | (simp; done) | (simp [*]; done)), H', ⟨by have := HJ1.out; have := HK2.out; omega⟩, ⟨kX BK101.out⟩, ⟨bX HB.out⟩⟩
       replace c11 := Bool.eq_false_iff.mpr c11
       subst c11
       have H1 : (some false) = some r := by rw [if_neg (show ¬ (false = true) by decide)] at H; exact H
       clear H
       have H := H1
       clear H1
       obtain rfl := Option.some.inj H
       have hcz26 := q2 BK101.out
       have hfz26 := fZ BK101.out
       try go_wp2
       have _ := AM (kD BK101.out)
       have _ := AM (bD HB.out)
       clear BK101 HB
       rename_i BK101 HB
       have p102 : 0 ≤ (x3_2 : Int) := of_decide_eq_true (by assumption)
       have q102 : x3_2 < (l0_0.length : Int) := of_decide_eq_true (by assumption)
       obtain ⟨ad102, A102_2, c102_2, A102_3, c102_3, e102, hx102_0, hx102_1, hx102_2, hx102_3, hl102_2, hi102_2, hl102_3, hi102_3⟩ := at_T30 HR0_0.out x3_2 p102 q102
       have hw102_3 := hx102_3
       have hw102_2 := hx102_2
       have hw102_1 := hx102_1
       have hw102_0 := hx102_0
       cases e102
       replace hx102_0 := pw_cell_below HB.out hx102_0
       replace hx102_1 := pw_cell_below HB.out hx102_1
       replace hx102_2 := pw_cell_below HB.out hx102_2
       replace hx102_3 := pw_cell_below HB.out hx102_3
       have HR102_2 := AM hi102_2
       have HC102_2 := AM hl102_2
       clear hi102_2 hl102_2
       have HR102_3 := AM hi102_3
       have HC102_3 := AM hl102_3
       clear hi102_3 hl102_3
       replace p102 := eq_true p102
       replace q102 := eq_true q102
       refine start_ (n := 27) (S := fun w' => w'.cell? ⟨gb101, 0, none⟩ = some (.slice (some ad102) l0_0.length c0_0) ∧ w'.cell? ⟨gb101, 1, none⟩ = some (.slice A0_1 l0_1.length c0_1) ∧ w'.cell? (ad102.add ((x3_2).toNat * 4)) = some (.string ((rd_T30 l0_0 x3_2).f0)) ∧ w'.cell? ⟨(ad102.add ((x3_2).toNat * 4)).block, (ad102.add ((x3_2).toNat * 4)).off + 1, none⟩ = some (.int .i64 ((rd_T30 l0_0 x3_2).f1)) ∧ w'.cell? ⟨(ad102.add ((x3_2).toNat * 4)).block, (ad102.add ((x3_2).toNat * 4)).off + 2, none⟩ = some (.slice A102_2 ((rd_T30 l0_0 x3_2).f2).length c102_2) ∧ w'.cell? ⟨(ad102.add ((x3_2).toNat * 4)).block, (ad102.add ((x3_2).toNat * 4)).off + 3, none⟩ = some (.slice A102_3 ((rd_T30 l0_0 x3_2).f3).length c102_3)) (ds := []) (upTo 0 27) (by kernel_rfl) rfl rfl ⟨(kC BK101.out 0).trans rfl, (kC BK101.out 1).trans rfl, (pw_cell_below HB.out hw102_0), (pw_cell_below HB.out hw102_1), (pw_cell_below HB.out hw102_2), (pw_cell_below HB.out hw102_3)⟩ (fun hHeld => ?_); refine with_tabW spec_BrokerRight.tab6 spec_BrokerRight.bits6 (fun HT_ HW_ => ?_)
       generalize wr.drew = w27 at BK101 HB HR102_2 HR102_3 hx102_0 hx102_1 hx102_2 hx102_3 hHeld ⊢
       refine pF 0 1 27 23 ?_
       refine pF2 2 25 spec_BrokerRight.b0 ?_
       refine pT2 1 24 (upTo 3 27) ?_ hHeld
       refine pF 3 4 27 26 ?_
       refine pT2 4 27 (upTo 5 27) ?_ hHeld
       refine one_ (i := 5) (N := some 28) (upTo 6 27) rfl rfl (one_of HT_.out (by kernel_rfl)) (by decide) (fun K hK => ?_)
       refine goes_ Try.func35 (by kernel_rfl) rfl #[.agg #[.string ((rd_T30 l0_0 x3_2).f0), .int .i64 ((rd_T30 l0_0 x3_2).f1), .slice A102_2 ((rd_T30 l0_0 x3_2).f2).length c102_2, .slice A102_3 ((rd_T30 l0_0 x3_2).f3).length c102_3]] (by rfl) rfl rfl (by (try simp only [mA, mB, mC]); first | done | rfl | (simp only [mD, mE]; rfl)) ?_
       with_reducible refine (spec_TopicRight.calls k2 ((rd_T30 l0_0 x3_2).f0) ((rd_T30 l0_0 x3_2).f1) _ _ ((rd_T30 l0_0 x3_2).f2) _ _ ((rd_T30 l0_0 x3_2).f3) false _ ?side1 ?side2 ?side3 ?side4 A10.out).mono ?_
       (case side1 => repeat (first | exact (cB HR102_2.out HB.out) | (with_reducible first | apply cA | apply cN | apply cD)))
       (case side2 => exact HC102_2.out)
       (case side3 => repeat (first | exact (cB HR102_3.out HB.out) | (with_reducible first | apply cA | apply cN | apply cD)))
       (case side4 => exact HC102_3.out)
       rintro e w28 ⟨rfl, hb⟩
       refine ⟨_, rfl, ?_⟩
       have _ := AM (nB BK101.out hb)
       have _ := AM (below_step (bX HB.out) hb)
       clear BK101 HB
       rename_i BK101 HB
       (try clear hb)
       (try clear hk)
       refine hK.out _ _ ⟨(kC BK101.out 0).trans rfl, (kC BK101.out 1).trans rfl, (pw_cell_below HB.out hw102_0), (pw_cell_below HB.out hw102_1), (pw_cell_below HB.out hw102_2), (pw_cell_below HB.out hw102_3)⟩ (fun hHeld => ?_)
       clear hK K
       refine norm_ (a' := ?_) ?_ ?_
       rotate_left
       ·
        show Act.put _ (some 28) _ = _
        simp only [Act.put, sA, sB, sC, i64_w, i32_w]
        rfl
       refine pF 6 7 27 29 ?_
       refine pF 7 8 27 30 ?_
       refine pU 8 9 27 31 ?_
       refine pU 9 10 27 32 ?_
       refine pU 10 11 27 33 ?_
       refine pU 11 12 27 34 ?_
       refine pU 12 13 27 35 ?_
       refine pU 13 14 27 36 ?_
       refine pU 14 15 27 37 ?_
       refine pU 15 16 27 38 ?_
       refine pU 16 17 27 39 ?_
       refine pU 17 18 27 40 ?_
       refine pU 18 19 27 41 ?_
       refine pU 19 20 27 42 ?_
       refine pU 20 21 27 43 ?_
       refine pU 21 22 27 44 ?_
       refine pU 22 23 27 45 ?_
       refine pU 23 24 27 46 ?_
       refine pU 24 25 27 47 ?_
       refine pU 25 26 27 48 ?_
       refine pF 26 27 27 49 ?_
       refine done_ (done_of HT_.out (by kernel_rfl)) ?_
       try go_wp2
       go_ret
       exact ⟨by first | rfl | (simp [*, errW_none, errW_some] <;> rfl), bX HB.out⟩
      rw [if_neg c9] at H
      exact absurd H (by simp)
     rw [if_neg c8] at H
     have c8b0 : decide (x3_2 < (l0_0.length : Int)) = false := decide_eq_false c8
     clear c8
     have H' := AM H
     clear H
     have hcz29 := q2 BK101.out
     have hfz29 := fZ BK101.out
     go_wp2
     go_loopg [4] k2 (fun kq v4 w' => ∃ (x4_3 : Int), v4 = .int .i64 x4_3 ∧ Aside0 (spec_BrokerRight.l1 kq x4_3 l0_0 l0_1 = some r) ∧ Aside0 (kq ≤ k2) ∧ Aside0 (w'.heap[gb101]? = some (.cells #[(.slice A0_0 l0_0.length c0_0), (.slice A0_1 l0_1.length c0_1)] 35 (0, 0))) ∧ Aside0 (Below w.heap.size w w'))
     case atStart => exact ⟨(0), (by first | rfl | (simp; done) | (simp [*]; done)), H', ⟨Nat.le_refl _⟩, ⟨kX BK101.out⟩, ⟨bX HB.out⟩⟩
     case round =>
      clear H'
      (try clear c1); (try clear p1); (try clear q1); (try clear hx1); (try clear p2); (try clear c3); (try clear p6); (try clear c8); (try clear c8b0); (try clear c9); (try clear c10); (try clear p10); (try clear q10); (try clear hx10); (try clear c11); (try clear c12); (try clear c12b0); (try clear c14); (try clear c15); (try clear hcz23); (try clear hcz26); (try clear hcz29); (try clear hfz23); (try clear hfz26); (try clear hfz29); (try clear hx102_0); (try clear hx102_1); (try clear hx102_2); (try clear hx102_3); (try clear p102); (try clear q102)
      obtain ⟨x4_3, rfl, HA, HK3, BK101, HB⟩ := hrel
      cases gk with
      | zero => exact absurd HA.out (by simp [spec_BrokerRight.l1])
      | succ k3 =>
       have H := HA.out
       clear HA
       simp only [spec_BrokerRight.l1] at H
       by_cases c30 : x4_3 < (l0_1.length : Int)
       ·
        rw [if_pos c30] at H
        have c30b0 : decide (x4_3 < (l0_1.length : Int)) = true := decide_eq_true c30
        clear c30
        by_cases c31 : 0 ≤ x4_3
        ·
         rw [if_pos c31] at H
         have c31b0 : decide (0 ≤ x4_3) = true := decide_eq_true c31
         clear c31
         replace H := Option.bind_eq_some_iff.mp H
         obtain ⟨t108, A320, H⟩ := H
         replace H : (if t108 = true then ((spec_l03Is.f ((rd_T67 l0_1 x4_3).f1) 1 1000000000).bind fun t109 => (if t109 = true then (if (((rd_T67 l0_1 x4_3).f2).size : Int) > 900 then (some false) else (if x4_3 > 0 then (if 0 ≤ (wrap64 (x4_3 - 1)) then (if (wrap64 (x4_3 - 1)) < (l0_1.length : Int) then (if ((rd_T67 l0_1 (wrap64 (x4_3 - 1))).f0) ≥ ((rd_T67 l0_1 x4_3).f0) then (some false) else (spec_BrokerRight.l1 k3 (wrap64 (x4_3 + 1)) l0_0 l0_1)) else (none)) else (none)) else (spec_BrokerRight.l1 k3 (wrap64 (x4_3 + 1)) l0_0 l0_1))) else (some false))) else (some false)) = some r := H
         have A32 := AM A320
         clear A320
         by_cases c33 : t108 = true
         ·
          subst c33
          have H1 : ((spec_l03Is.f ((rd_T67 l0_1 x4_3).f1) 1 1000000000).bind fun t109 => (if t109 = true then (if (((rd_T67 l0_1 x4_3).f2).size : Int) > 900 then (some false) else (if x4_3 > 0 then (if 0 ≤ (wrap64 (x4_3 - 1)) then (if (wrap64 (x4_3 - 1)) < (l0_1.length : Int) then (if ((rd_T67 l0_1 (wrap64 (x4_3 - 1))).f0) ≥ ((rd_T67 l0_1 x4_3).f0) then (some false) else (spec_BrokerRight.l1 k3 (wrap64 (x4_3 + 1)) l0_0 l0_1)) else (none)) else (none)) else (spec_BrokerRight.l1 k3 (wrap64 (x4_3 + 1)) l0_0 l0_1))) else (some false))) = some r := by rw [if_pos rfl] at H; exact H
          clear H
          have H := H1
          clear H1
          replace H := Option.bind_eq_some_iff.mp H
          obtain ⟨t109, A340, H⟩ := H
          replace H : (if t109 = true then (if (((rd_T67 l0_1 x4_3).f2).size : Int) > 900 then (some false) else (if x4_3 > 0 then (if 0 ≤ (wrap64 (x4_3 - 1)) then (if (wrap64 (x4_3 - 1)) < (l0_1.length : Int) then (if ((rd_T67 l0_1 (wrap64 (x4_3 - 1))).f0) ≥ ((rd_T67 l0_1 x4_3).f0) then (some false) else (spec_BrokerRight.l1 k3 (wrap64 (x4_3 + 1)) l0_0 l0_1)) else (none)) else (none)) else (spec_BrokerRight.l1 k3 (wrap64 (x4_3 + 1)) l0_0 l0_1))) else (some false)) = some r := H
          have A34 := AM A340
          clear A340
          by_cases c35 : t109 = true
          ·
           subst c35
           have H1 : (if (((rd_T67 l0_1 x4_3).f2).size : Int) > 900 then (some false) else (if x4_3 > 0 then (if 0 ≤ (wrap64 (x4_3 - 1)) then (if (wrap64 (x4_3 - 1)) < (l0_1.length : Int) then (if ((rd_T67 l0_1 (wrap64 (x4_3 - 1))).f0) ≥ ((rd_T67 l0_1 x4_3).f0) then (some false) else (spec_BrokerRight.l1 k3 (wrap64 (x4_3 + 1)) l0_0 l0_1)) else (none)) else (none)) else (spec_BrokerRight.l1 k3 (wrap64 (x4_3 + 1)) l0_0 l0_1))) = some r := by rw [if_pos rfl] at H; exact H
           clear H
           have H := H1
           clear H1
           by_cases c36 : (((rd_T67 l0_1 x4_3).f2).size : Int) > 900
           ·
            rw [if_pos c36] at H
            have c36b0 : decide (900 < (((rd_T67 l0_1 x4_3).f2).size : Int)) = true := decide_eq_true c36
            have c36b1 : decide (900 < ((rd_T67 l0_1 x4_3).f2).size) = true := decide_eq_true (by omega)
            clear c36
            obtain rfl := Option.some.inj H
            have hcz37 := q2 BK101.out
            have hfz37 := fZ BK101.out
            have p106 : 0 ≤ (x4_3 : Int) := of_decide_eq_true (by assumption)
            have q106 : x4_3 < (l0_1.length : Int) := of_decide_eq_true (by assumption)
            obtain ⟨ad106, e106, hx106_0, hx106_1, hx106_2⟩ := at_T67 HR0_1.out x4_3 p106 q106
            cases e106
            replace hx106_0 := pw_cell_below HB.out hx106_0
            replace hx106_1 := pw_cell_below HB.out hx106_1
            replace hx106_2 := pw_cell_below HB.out hx106_2
            replace p106 := eq_true p106
            replace q106 := eq_true q106
            try go_wp2_with (first | ((with_reducible refine gate_dst (N := 5) rfl ?_); (try (refine gate_guard (by rfl) ?_; dsimp only)); refine box_event (by rfl) (N := 5) (by rfl) (cs := #[.int .i64 0, .int .i64 0, .string (⟨#[]⟩ : ByteArray)]) (t := 67) (by first | (go_simp; done) | (go_simp; rfl)) ?_; intro gb107 hg w38 hbox hb; have _ := AM (nB BK101.out hb); have _ := AM (below_step (bX HB.out) hb); have _ := AM (hbox); have n3_ := AM ((by rw [hg]; exact (bZ (bX HB.out)) : w.heap.size ≤ gb107)); have _ := AM (lX hg BK101.out); have _ := AM (lX hg BK101.out).symm; clear BK101 HB; rename_i BK101 HB BK107 NB101_107 NB107_101; have GW107 := n3_; have GE107 := n3_; clear n3_; clear hb hbox hg; have hnb39 := NB107_101.out; have hnc39 := NB101_107.out; have hcz40 := q3 BK107.out; have hfz40 := fZ BK107.out))
            have n0_ : Aside0 ((((w38.setCell ⟨gb107, 0, none⟩ (.int .i64 ((rd_T67 l0_1 x4_3).f0))).setCell ⟨gb107, 1, none⟩ (.int .i64 ((rd_T67 l0_1 x4_3).f1))).setCell ⟨gb107, 2, none⟩ (.string ((rd_T67 l0_1 x4_3).f2))).heap[gb101]? = some (.cells #[.slice A0_0 l0_0.length c0_0, .slice (some ad106) l0_1.length c0_1] 35 (0, 0))) := ⟨by (iterate 3 refine kF NB101_107.out ?_); (with_reducible repeat (first | apply kN | apply kD | apply kA)); exact BK101.out⟩
            have n1_ : Aside0 ((((w38.setCell ⟨gb107, 0, none⟩ (.int .i64 ((rd_T67 l0_1 x4_3).f0))).setCell ⟨gb107, 1, none⟩ (.int .i64 ((rd_T67 l0_1 x4_3).f1))).setCell ⟨gb107, 2, none⟩ (.string ((rd_T67 l0_1 x4_3).f2))).heap[gb107]? = some (.cells #[.int .i64 ((rd_T67 l0_1 x4_3).f0), .int .i64 ((rd_T67 l0_1 x4_3).f1), .string ((rd_T67 l0_1 x4_3).f2)] 67 (0, 0))) := ⟨by refine kP (cs := #[.int .i64 ((rd_T67 l0_1 x4_3).f0), .int .i64 ((rd_T67 l0_1 x4_3).f1), .string (⟨#[]⟩ : ByteArray)]) 2 ?_; refine kP (cs := #[.int .i64 ((rd_T67 l0_1 x4_3).f0), .int .i64 0, .string (⟨#[]⟩ : ByteArray)]) 1 ?_; refine kP (cs := #[.int .i64 0, .int .i64 0, .string (⟨#[]⟩ : ByteArray)]) 0 ?_; (with_reducible repeat (first | apply kN | apply kD | apply kA)); exact BK107.out⟩
            have n2_ : Aside0 (Below w.heap.size w (((w38.setCell ⟨gb107, 0, none⟩ (.int .i64 ((rd_T67 l0_1 x4_3).f0))).setCell ⟨gb107, 1, none⟩ (.int .i64 ((rd_T67 l0_1 x4_3).f1))).setCell ⟨gb107, 2, none⟩ (.string ((rd_T67 l0_1 x4_3).f2)))) := ⟨bX HB.out⟩
            (try clear BK101)
            (try clear BK107)
            (try clear HB)
            generalize (((w38.setCell ⟨gb107, 0, none⟩ (.int .i64 ((rd_T67 l0_1 x4_3).f0))).setCell ⟨gb107, 1, none⟩ (.int .i64 ((rd_T67 l0_1 x4_3).f1))).setCell ⟨gb107, 2, none⟩ (.string ((rd_T67 l0_1 x4_3).f2))) = w41 at n0_ n1_ n2_ ⊢
            have BK101 := n0_
            have BK107 := n1_
            have HB := n2_
            clear n0_ n1_ n2_
            have _ := AM (kD BK101.out)
            have _ := AM (kD BK107.out)
            have _ := AM (bD HB.out)
            clear BK101 BK107 HB
            rename_i BK101 BK107 HB
            refine start_ (n := 32) (S := fun w' => w'.cell? ⟨gb107, 0, none⟩ = some (.int .i64 ((rd_T67 l0_1 x4_3).f0)) ∧ w'.cell? ⟨gb107, 1, none⟩ = some (.int .i64 ((rd_T67 l0_1 x4_3).f1)) ∧ w'.cell? ⟨gb107, 2, none⟩ = some (.string ((rd_T67 l0_1 x4_3).f2))) (ds := []) (upTo 0 32) (by kernel_rfl) rfl rfl ⟨(kC BK107.out 0).trans rfl, (kC BK107.out 1).trans rfl, (kC BK107.out 2).trans rfl⟩ (fun hHeld => ?_); refine with_tabW spec_BrokerRight.tab12 spec_BrokerRight.bits12 (fun HT_ HW_ => ?_)
            generalize w41.drew = w42 at BK101 BK107 HB hHeld ⊢
            refine pF 0 1 32 62 ?_
            refine pT2 1 63 (upTo 2 32) ?_ hHeld
            refine one_ (i := 2) (N := some 64) (upTo 3 32) rfl rfl (one_of HT_.out (by kernel_rfl)) (by decide) (fun K hK => ?_)
            refine goes_ Try.func36 (by kernel_rfl) rfl #[.int .i64 ((rd_T67 l0_1 x4_3).f0), .int .i64 1, .int .i64 9] (by rfl) rfl rfl (by (try simp only [mA, mB, mC]); first | done | rfl | (simp only [mD, mE]; rfl)) ?_
            with_reducible refine (spec_l03Is.calls ((rd_T67 l0_1 x4_3).f0) 1 9 true _ A32.out).mono ?_
            rintro e w' ⟨rfl, ⟨nd, rfl⟩⟩
            refine ⟨_, rfl, ?_⟩
            refine hK.out _ _ (q3 BK107.out) (fun hHeld => ?_)
            clear hK K
            refine norm_ (a' := ?_) ?_ ?_
            rotate_left
            ·
             show Act.put _ (some 64) _ = _
             simp only [Act.put, sA, sB, sC, i64_w, i32_w]
             rfl
            refine pF 3 4 32 65 ?_
            refine pF 4 5 32 66 ?_
            refine pF 5 6 32 67 ?_
            refine pT2 6 68 (upTo 7 32) ?_ hHeld
            refine one_ (i := 7) (N := some 69) (upTo 8 32) rfl rfl (one_of HT_.out (by kernel_rfl)) (by decide) (fun K hK => ?_)
            refine goes_ Try.func36 (by kernel_rfl) rfl #[.int .i64 ((rd_T67 l0_1 x4_3).f1), .int .i64 1, .int .i64 1000000000] (by rfl) rfl rfl (by (try simp only [mA, mB, mC]); first | done | rfl | (simp only [mD, mE]; rfl)) ?_
            with_reducible refine (spec_l03Is.calls ((rd_T67 l0_1 x4_3).f1) 1 1000000000 true _ A34.out).mono ?_
            rintro e w' ⟨rfl, ⟨nd, rfl⟩⟩
            refine ⟨_, rfl, ?_⟩
            refine hK.out _ _ (q3 BK107.out) (fun hHeld => ?_)
            clear hK K
            refine norm_ (a' := ?_) ?_ ?_
            rotate_left
            ·
             show Act.put _ (some 69) _ = _
             simp only [Act.put, sA, sB, sC, i64_w, i32_w]
             rfl
            refine pF 8 9 32 70 ?_
            refine pF 9 10 32 71 ?_
            refine pF 10 11 32 72 ?_
            refine pF 11 12 32 73 ?_
            refine pT2 12 74 (upTo 13 32) ?_ hHeld
            refine pF 13 14 32 75 ?_
            refine pF 14 15 32 76 ?_
            refine pF 15 16 32 77 ?_
            refine pF 16 17 32 78 ?_
            refine pU 17 18 32 79 ?_
            refine pU 18 19 32 80 ?_
            refine pU 19 20 32 81 ?_
            refine pU 20 21 32 82 ?_
            refine pU 21 22 32 83 ?_
            refine pU 22 23 32 84 ?_
            refine pU 23 24 32 85 ?_
            refine pU 24 25 32 86 ?_
            refine pU 25 26 32 87 ?_
            refine pU 26 27 32 88 ?_
            refine pU 27 28 32 89 ?_
            refine pU 28 29 32 90 ?_
            refine pU 29 30 32 91 ?_
            refine pU 30 31 32 92 ?_
            refine pF 31 32 32 93 ?_
            refine done_ (done_of HT_.out (by kernel_rfl)) ?_
            try go_wp2
            go_ret
            exact ⟨by first | rfl | (simp [*, errW_none, errW_some] <;> rfl), bX HB.out⟩
           rw [if_neg c36] at H
           have c36b0 : decide (900 < (((rd_T67 l0_1 x4_3).f2).size : Int)) = false := decide_eq_false c36
           have c36b1 : decide (900 < ((rd_T67 l0_1 x4_3).f2).size) = false := decide_eq_false (by omega)
           clear c36
           by_cases c43 : x4_3 > 0
           ·
            rw [if_pos c43] at H
            have c43b0 : decide (0 < x4_3) = true := decide_eq_true c43
            clear c43
            obtain ⟨ji44, hji44⟩ : ∃ j_ : Int, (wrap64 (x4_3 - 1)) = j_ := ⟨_, rfl⟩
            replace H : (if 0 ≤ (ji44) then (if (ji44) < (l0_1.length : Int) then (if ((rd_T67 l0_1 (ji44)).f0) ≥ ((rd_T67 l0_1 x4_3).f0) then (some false) else (spec_BrokerRight.l1 k3 (wrap64 (x4_3 + 1)) l0_0 l0_1)) else (none)) else (none)) = some r := by first | (rw [hji44] at H; exact H) | (simp only [hji44] at H ⊢; exact H)
            (try rw [hji44] at A32)
            (try rw [hji44] at A34)
            have hji44w : (IntKind.i64.wrap (x4_3 - 1)) = ji44 := (i64_w _).trans hji44
            by_cases c45 : 0 ≤ (ji44)
            ·
             rw [if_pos c45] at H
             have c45b0 : decide (0 ≤ (ji44)) = true := decide_eq_true c45
             clear c45
             by_cases c46 : (ji44) < (l0_1.length : Int)
             ·
              rw [if_pos c46] at H
              have c46b0 : decide ((ji44) < (l0_1.length : Int)) = true := decide_eq_true c46
              clear c46
              by_cases c47 : ((rd_T67 l0_1 (ji44)).f0) ≥ ((rd_T67 l0_1 x4_3).f0)
              ·
               rw [if_pos c47] at H
               have c47b0 : decide (((rd_T67 l0_1 x4_3).f0) ≤ ((rd_T67 l0_1 (ji44)).f0)) = true := decide_eq_true c47
               clear c47
               obtain rfl := Option.some.inj H
               have hcz48 := q2 BK101.out
               have hfz48 := fZ BK101.out
               have p106 : 0 ≤ (x4_3 : Int) := of_decide_eq_true (by assumption)
               have q106 : x4_3 < (l0_1.length : Int) := of_decide_eq_true (by assumption)
               obtain ⟨ad106, e106, hx106_0, hx106_1, hx106_2⟩ := at_T67 HR0_1.out x4_3 p106 q106
               cases e106
               replace hx106_0 := pw_cell_below HB.out hx106_0
               replace hx106_1 := pw_cell_below HB.out hx106_1
               replace hx106_2 := pw_cell_below HB.out hx106_2
               replace p106 := eq_true p106
               replace q106 := eq_true q106
               try go_wp2_with (first | ((with_reducible refine gate_dst (N := 5) rfl ?_); (try (refine gate_guard (by rfl) ?_; dsimp only)); refine box_event (by rfl) (N := 5) (by rfl) (cs := #[.int .i64 0, .int .i64 0, .string (⟨#[]⟩ : ByteArray)]) (t := 67) (by first | (go_simp; done) | (go_simp; rfl)) ?_; intro gb107 hg w49 hbox hb; have _ := AM (nB BK101.out hb); have _ := AM (below_step (bX HB.out) hb); have _ := AM (hbox); have n3_ := AM ((by rw [hg]; exact (bZ (bX HB.out)) : w.heap.size ≤ gb107)); have _ := AM (lX hg BK101.out); have _ := AM (lX hg BK101.out).symm; clear BK101 HB; rename_i BK101 HB BK107 NB101_107 NB107_101; have GW107 := n3_; have GE107 := n3_; clear n3_; clear hb hbox hg; have hnb50 := NB107_101.out; have hnc50 := NB101_107.out; have hcz51 := q3 BK107.out; have hfz51 := fZ BK107.out))
               have n0_ : Aside0 ((((w49.setCell ⟨gb107, 0, none⟩ (.int .i64 ((rd_T67 l0_1 x4_3).f0))).setCell ⟨gb107, 1, none⟩ (.int .i64 ((rd_T67 l0_1 x4_3).f1))).setCell ⟨gb107, 2, none⟩ (.string ((rd_T67 l0_1 x4_3).f2))).heap[gb101]? = some (.cells #[.slice A0_0 l0_0.length c0_0, .slice (some ad106) l0_1.length c0_1] 35 (0, 0))) := ⟨by (iterate 3 refine kF NB101_107.out ?_); (with_reducible repeat (first | apply kN | apply kD | apply kA)); exact BK101.out⟩
               have n1_ : Aside0 ((((w49.setCell ⟨gb107, 0, none⟩ (.int .i64 ((rd_T67 l0_1 x4_3).f0))).setCell ⟨gb107, 1, none⟩ (.int .i64 ((rd_T67 l0_1 x4_3).f1))).setCell ⟨gb107, 2, none⟩ (.string ((rd_T67 l0_1 x4_3).f2))).heap[gb107]? = some (.cells #[.int .i64 ((rd_T67 l0_1 x4_3).f0), .int .i64 ((rd_T67 l0_1 x4_3).f1), .string ((rd_T67 l0_1 x4_3).f2)] 67 (0, 0))) := ⟨by refine kP (cs := #[.int .i64 ((rd_T67 l0_1 x4_3).f0), .int .i64 ((rd_T67 l0_1 x4_3).f1), .string (⟨#[]⟩ : ByteArray)]) 2 ?_; refine kP (cs := #[.int .i64 ((rd_T67 l0_1 x4_3).f0), .int .i64 0, .string (⟨#[]⟩ : ByteArray)]) 1 ?_; refine kP (cs := #[.int .i64 0, .int .i64 0, .string (⟨#[]⟩ : ByteArray)]) 0 ?_; (with_reducible repeat (first | apply kN | apply kD | apply kA)); exact BK107.out⟩
               have n2_ : Aside0 (Below w.heap.size w (((w49.setCell ⟨gb107, 0, none⟩ (.int .i64 ((rd_T67 l0_1 x4_3).f0))).setCell ⟨gb107, 1, none⟩ (.int .i64 ((rd_T67 l0_1 x4_3).f1))).setCell ⟨gb107, 2, none⟩ (.string ((rd_T67 l0_1 x4_3).f2)))) := ⟨bX HB.out⟩
               (try clear BK101)
               (try clear BK107)
               (try clear HB)
               generalize (((w49.setCell ⟨gb107, 0, none⟩ (.int .i64 ((rd_T67 l0_1 x4_3).f0))).setCell ⟨gb107, 1, none⟩ (.int .i64 ((rd_T67 l0_1 x4_3).f1))).setCell ⟨gb107, 2, none⟩ (.string ((rd_T67 l0_1 x4_3).f2))) = w52 at n0_ n1_ n2_ ⊢
               have BK101 := n0_
               have BK107 := n1_
               have HB := n2_
               clear n0_ n1_ n2_
               have _ := AM (kD BK101.out)
               have _ := AM (kD BK107.out)
               have _ := AM (bD HB.out)
               clear BK101 BK107 HB
               rename_i BK101 BK107 HB
               have p110 : 0 ≤ ((ji44) : Int) := of_decide_eq_true (by assumption)
               have q110 : (ji44) < (l0_1.length : Int) := of_decide_eq_true (by assumption)
               obtain ⟨ad110, e110, hx110_0, hx110_1, hx110_2⟩ := at_T67 HR0_1.out (ji44) p110 q110
               have hw110_2 := hx110_2
               have hw110_1 := hx110_1
               have hw110_0 := hx110_0
               obtain rfl : ad106 = ad110 := (by injection e110)
               replace hx110_0 := pw_cell_below HB.out hx110_0
               replace hx110_1 := pw_cell_below HB.out hx110_1
               replace hx110_2 := pw_cell_below HB.out hx110_2
               replace p110 := eq_true p110
               replace q110 := eq_true q110
               refine start_ (n := 32) (S := fun w' => w'.cell? ⟨gb107, 0, none⟩ = some (.int .i64 ((rd_T67 l0_1 x4_3).f0)) ∧ w'.cell? ⟨gb107, 1, none⟩ = some (.int .i64 ((rd_T67 l0_1 x4_3).f1)) ∧ w'.cell? ⟨gb107, 2, none⟩ = some (.string ((rd_T67 l0_1 x4_3).f2)) ∧ w'.cell? ⟨gb101, 0, none⟩ = some (.slice A0_0 l0_0.length c0_0) ∧ w'.cell? ⟨gb101, 1, none⟩ = some (.slice (some ad106) l0_1.length c0_1) ∧ w'.cell? (ad106.add (((ji44)).toNat * 3)) = some (.int .i64 ((rd_T67 l0_1 (ji44)).f0)) ∧ w'.cell? ⟨(ad106.add (((ji44)).toNat * 3)).block, (ad106.add (((ji44)).toNat * 3)).off + 1, none⟩ = some (.int .i64 ((rd_T67 l0_1 (ji44)).f1)) ∧ w'.cell? ⟨(ad106.add (((ji44)).toNat * 3)).block, (ad106.add (((ji44)).toNat * 3)).off + 2, none⟩ = some (.string ((rd_T67 l0_1 (ji44)).f2))) (ds := []) (upTo 0 32) (by kernel_rfl) rfl rfl ⟨(kC BK107.out 0).trans rfl, (kC BK107.out 1).trans rfl, (kC BK107.out 2).trans rfl, (kC BK101.out 0).trans rfl, (kC BK101.out 1).trans rfl, (pw_cell_below HB.out hw110_0), (pw_cell_below HB.out hw110_1), (pw_cell_below HB.out hw110_2)⟩ (fun hHeld => ?_); refine with_tabW spec_BrokerRight.tab12 spec_BrokerRight.bits12 (fun HT_ HW_ => ?_)
               generalize w52.drew = w53 at BK101 BK107 HB hx110_0 hx110_1 hx110_2 hHeld ⊢
               refine pF 0 1 32 62 ?_
               refine pT2 1 63 (upTo 2 32) ?_ hHeld
               refine one_ (i := 2) (N := some 64) (upTo 3 32) rfl rfl (one_of HT_.out (by kernel_rfl)) (by decide) (fun K hK => ?_)
               refine goes_ Try.func36 (by kernel_rfl) rfl #[.int .i64 ((rd_T67 l0_1 x4_3).f0), .int .i64 1, .int .i64 9] (by rfl) rfl rfl (by (try simp only [mA, mB, mC]); first | done | rfl | (simp only [mD, mE]; rfl)) ?_
               with_reducible refine (spec_l03Is.calls ((rd_T67 l0_1 x4_3).f0) 1 9 true _ A32.out).mono ?_
               rintro e w' ⟨rfl, ⟨nd, rfl⟩⟩
               refine ⟨_, rfl, ?_⟩
               refine hK.out _ _ ⟨(kC BK107.out 0).trans rfl, (kC BK107.out 1).trans rfl, (kC BK107.out 2).trans rfl, (kC BK101.out 0).trans rfl, (kC BK101.out 1).trans rfl, (pw_cell_below HB.out hw110_0), (pw_cell_below HB.out hw110_1), (pw_cell_below HB.out hw110_2)⟩ (fun hHeld => ?_)
               clear hK K
               refine norm_ (a' := ?_) ?_ ?_
               rotate_left
               ·
                show Act.put _ (some 64) _ = _
                simp only [Act.put, sA, sB, sC, i64_w, i32_w]
                rfl
               refine pF 3 4 32 65 ?_
               refine pF 4 5 32 66 ?_
               refine pF 5 6 32 67 ?_
               refine pT2 6 68 (upTo 7 32) ?_ hHeld
               refine one_ (i := 7) (N := some 69) (upTo 8 32) rfl rfl (one_of HT_.out (by kernel_rfl)) (by decide) (fun K hK => ?_)
               refine goes_ Try.func36 (by kernel_rfl) rfl #[.int .i64 ((rd_T67 l0_1 x4_3).f1), .int .i64 1, .int .i64 1000000000] (by rfl) rfl rfl (by (try simp only [mA, mB, mC]); first | done | rfl | (simp only [mD, mE]; rfl)) ?_
               with_reducible refine (spec_l03Is.calls ((rd_T67 l0_1 x4_3).f1) 1 1000000000 true _ A34.out).mono ?_
               rintro e w' ⟨rfl, ⟨nd, rfl⟩⟩
               refine ⟨_, rfl, ?_⟩
               refine hK.out _ _ ⟨(kC BK107.out 0).trans rfl, (kC BK107.out 1).trans rfl, (kC BK107.out 2).trans rfl, (kC BK101.out 0).trans rfl, (kC BK101.out 1).trans rfl, (pw_cell_below HB.out hw110_0), (pw_cell_below HB.out hw110_1), (pw_cell_below HB.out hw110_2)⟩ (fun hHeld => ?_)
               clear hK K
               refine norm_ (a' := ?_) ?_ ?_
               rotate_left
               ·
                show Act.put _ (some 69) _ = _
                simp only [Act.put, sA, sB, sC, i64_w, i32_w]
                rfl
               refine pF 8 9 32 70 ?_
               refine pF 9 10 32 71 ?_
               refine pF 10 11 32 72 ?_
               refine pF 11 12 32 73 ?_
               refine pT2 12 74 (upTo 13 32) ?_ hHeld
               refine pF 13 14 32 75 ?_
               refine pF 14 15 32 76 ?_
               refine pF 15 16 32 77 ?_
               refine pF 16 17 32 78 ?_
               refine pF 17 18 32 79 ?_
               refine pF 18 19 32 80 ?_
               refine pF 19 20 32 81 ?_
               refine pF 20 21 32 82 ?_
               refine pF2 22 84 spec_BrokerRight.b9 ?_
               refine pF2 23 85 spec_BrokerRight.b10 ?_
               refine pF2 27 89 spec_BrokerRight.b11 ?_
               refine pT2 21 83 spec_BrokerRight.b12 ?_ hHeld
               refine pF2 24 86 spec_BrokerRight.b13 ?_
               refine pF2 25 87 spec_BrokerRight.b14 ?_
               refine pT2 26 88 (upTo 28 32) ?_ hHeld
               refine pT2 28 90 (upTo 29 32) ?_ hHeld
               refine pF 29 30 32 91 ?_
               refine pF 30 31 32 92 ?_
               refine pF 31 32 32 93 ?_
               refine done_ (done_of HT_.out (by kernel_rfl)) ?_
               try go_wp2
               go_ret
               exact ⟨by first | rfl | (simp [errW_none, errW_some] <;> rfl) | (simp only [← hji44]; first | rfl | (simp [errW_none, errW_some] <;> rfl)) | (simp [*, errW_none, errW_some] <;> rfl), bX HB.out⟩
              rw [if_neg c47] at H
              have c47b0 : decide (((rd_T67 l0_1 x4_3).f0) ≤ ((rd_T67 l0_1 (ji44)).f0)) = false := decide_eq_false c47
              clear c47
              have H' := AM H
              clear H
              have hcz54 := q2 BK101.out
              have hfz54 := fZ BK101.out
              have p106 : 0 ≤ (x4_3 : Int) := of_decide_eq_true (by assumption)
              have q106 : x4_3 < (l0_1.length : Int) := of_decide_eq_true (by assumption)
              obtain ⟨ad106, e106, hx106_0, hx106_1, hx106_2⟩ := at_T67 HR0_1.out x4_3 p106 q106
              cases e106
              replace hx106_0 := pw_cell_below HB.out hx106_0
              replace hx106_1 := pw_cell_below HB.out hx106_1
              replace hx106_2 := pw_cell_below HB.out hx106_2
              replace p106 := eq_true p106
              replace q106 := eq_true q106
              try go_wp2_with (first | ((with_reducible refine gate_dst (N := 5) rfl ?_); (try (refine gate_guard (by rfl) ?_; dsimp only)); refine box_event (by rfl) (N := 5) (by rfl) (cs := #[.int .i64 0, .int .i64 0, .string (⟨#[]⟩ : ByteArray)]) (t := 67) (by first | (go_simp; done) | (go_simp; rfl)) ?_; intro gb107 hg w55 hbox hb; have _ := AM (nB BK101.out hb); have _ := AM (below_step (bX HB.out) hb); have _ := AM (hbox); have n3_ := AM ((by rw [hg]; exact (bZ (bX HB.out)) : w.heap.size ≤ gb107)); have _ := AM (lX hg BK101.out); have _ := AM (lX hg BK101.out).symm; clear BK101 HB; rename_i BK101 HB BK107 NB101_107 NB107_101; have GW107 := n3_; have GE107 := n3_; clear n3_; clear hb hbox hg; have hnb56 := NB107_101.out; have hnc56 := NB101_107.out; have hcz57 := q3 BK107.out; have hfz57 := fZ BK107.out))
              have n0_ : Aside0 ((((w55.setCell ⟨gb107, 0, none⟩ (.int .i64 ((rd_T67 l0_1 x4_3).f0))).setCell ⟨gb107, 1, none⟩ (.int .i64 ((rd_T67 l0_1 x4_3).f1))).setCell ⟨gb107, 2, none⟩ (.string ((rd_T67 l0_1 x4_3).f2))).heap[gb101]? = some (.cells #[.slice A0_0 l0_0.length c0_0, .slice (some ad106) l0_1.length c0_1] 35 (0, 0))) := ⟨by (iterate 3 refine kF NB101_107.out ?_); (with_reducible repeat (first | apply kN | apply kD | apply kA)); exact BK101.out⟩
              have n1_ : Aside0 ((((w55.setCell ⟨gb107, 0, none⟩ (.int .i64 ((rd_T67 l0_1 x4_3).f0))).setCell ⟨gb107, 1, none⟩ (.int .i64 ((rd_T67 l0_1 x4_3).f1))).setCell ⟨gb107, 2, none⟩ (.string ((rd_T67 l0_1 x4_3).f2))).heap[gb107]? = some (.cells #[.int .i64 ((rd_T67 l0_1 x4_3).f0), .int .i64 ((rd_T67 l0_1 x4_3).f1), .string ((rd_T67 l0_1 x4_3).f2)] 67 (0, 0))) := ⟨by refine kP (cs := #[.int .i64 ((rd_T67 l0_1 x4_3).f0), .int .i64 ((rd_T67 l0_1 x4_3).f1), .string (⟨#[]⟩ : ByteArray)]) 2 ?_; refine kP (cs := #[.int .i64 ((rd_T67 l0_1 x4_3).f0), .int .i64 0, .string (⟨#[]⟩ : ByteArray)]) 1 ?_; refine kP (cs := #[.int .i64 0, .int .i64 0, .string (⟨#[]⟩ : ByteArray)]) 0 ?_; (with_reducible repeat (first | apply kN | apply kD | apply kA)); exact BK107.out⟩
              have n2_ : Aside0 (Below w.heap.size w (((w55.setCell ⟨gb107, 0, none⟩ (.int .i64 ((rd_T67 l0_1 x4_3).f0))).setCell ⟨gb107, 1, none⟩ (.int .i64 ((rd_T67 l0_1 x4_3).f1))).setCell ⟨gb107, 2, none⟩ (.string ((rd_T67 l0_1 x4_3).f2)))) := ⟨bX HB.out⟩
              (try clear BK101)
              (try clear BK107)
              (try clear HB)
              generalize (((w55.setCell ⟨gb107, 0, none⟩ (.int .i64 ((rd_T67 l0_1 x4_3).f0))).setCell ⟨gb107, 1, none⟩ (.int .i64 ((rd_T67 l0_1 x4_3).f1))).setCell ⟨gb107, 2, none⟩ (.string ((rd_T67 l0_1 x4_3).f2))) = w58 at n0_ n1_ n2_ ⊢
              have BK101 := n0_
              have BK107 := n1_
              have HB := n2_
              clear n0_ n1_ n2_
              have _ := AM (kD BK101.out)
              have _ := AM (kD BK107.out)
              have _ := AM (bD HB.out)
              clear BK101 BK107 HB
              rename_i BK101 BK107 HB
              have p110 : 0 ≤ ((ji44) : Int) := of_decide_eq_true (by assumption)
              have q110 : (ji44) < (l0_1.length : Int) := of_decide_eq_true (by assumption)
              obtain ⟨ad110, e110, hx110_0, hx110_1, hx110_2⟩ := at_T67 HR0_1.out (ji44) p110 q110
              have hw110_2 := hx110_2
              have hw110_1 := hx110_1
              have hw110_0 := hx110_0
              obtain rfl : ad106 = ad110 := (by injection e110)
              replace hx110_0 := pw_cell_below HB.out hx110_0
              replace hx110_1 := pw_cell_below HB.out hx110_1
              replace hx110_2 := pw_cell_below HB.out hx110_2
              replace p110 := eq_true p110
              replace q110 := eq_true q110
              refine start_ (n := 32) (S := fun w' => w'.cell? ⟨gb107, 0, none⟩ = some (.int .i64 ((rd_T67 l0_1 x4_3).f0)) ∧ w'.cell? ⟨gb107, 1, none⟩ = some (.int .i64 ((rd_T67 l0_1 x4_3).f1)) ∧ w'.cell? ⟨gb107, 2, none⟩ = some (.string ((rd_T67 l0_1 x4_3).f2)) ∧ w'.cell? ⟨gb101, 0, none⟩ = some (.slice A0_0 l0_0.length c0_0) ∧ w'.cell? ⟨gb101, 1, none⟩ = some (.slice (some ad106) l0_1.length c0_1) ∧ w'.cell? (ad106.add (((ji44)).toNat * 3)) = some (.int .i64 ((rd_T67 l0_1 (ji44)).f0)) ∧ w'.cell? ⟨(ad106.add (((ji44)).toNat * 3)).block, (ad106.add (((ji44)).toNat * 3)).off + 1, none⟩ = some (.int .i64 ((rd_T67 l0_1 (ji44)).f1)) ∧ w'.cell? ⟨(ad106.add (((ji44)).toNat * 3)).block, (ad106.add (((ji44)).toNat * 3)).off + 2, none⟩ = some (.string ((rd_T67 l0_1 (ji44)).f2))) (ds := []) (upTo 0 32) (by kernel_rfl) rfl rfl ⟨(kC BK107.out 0).trans rfl, (kC BK107.out 1).trans rfl, (kC BK107.out 2).trans rfl, (kC BK101.out 0).trans rfl, (kC BK101.out 1).trans rfl, (pw_cell_below HB.out hw110_0), (pw_cell_below HB.out hw110_1), (pw_cell_below HB.out hw110_2)⟩ (fun hHeld => ?_); refine with_tabW spec_BrokerRight.tab12 spec_BrokerRight.bits12 (fun HT_ HW_ => ?_)
              generalize w58.drew = w59 at BK101 BK107 HB hx110_0 hx110_1 hx110_2 hHeld ⊢
              refine pF 0 1 32 62 ?_
              refine pT2 1 63 (upTo 2 32) ?_ hHeld
              refine one_ (i := 2) (N := some 64) (upTo 3 32) rfl rfl (one_of HT_.out (by kernel_rfl)) (by decide) (fun K hK => ?_)
              refine goes_ Try.func36 (by kernel_rfl) rfl #[.int .i64 ((rd_T67 l0_1 x4_3).f0), .int .i64 1, .int .i64 9] (by rfl) rfl rfl (by (try simp only [mA, mB, mC]); first | done | rfl | (simp only [mD, mE]; rfl)) ?_
              with_reducible refine (spec_l03Is.calls ((rd_T67 l0_1 x4_3).f0) 1 9 true _ A32.out).mono ?_
              rintro e w' ⟨rfl, ⟨nd, rfl⟩⟩
              refine ⟨_, rfl, ?_⟩
              refine hK.out _ _ ⟨(kC BK107.out 0).trans rfl, (kC BK107.out 1).trans rfl, (kC BK107.out 2).trans rfl, (kC BK101.out 0).trans rfl, (kC BK101.out 1).trans rfl, (pw_cell_below HB.out hw110_0), (pw_cell_below HB.out hw110_1), (pw_cell_below HB.out hw110_2)⟩ (fun hHeld => ?_)
              clear hK K
              refine norm_ (a' := ?_) ?_ ?_
              rotate_left
              ·
               show Act.put _ (some 64) _ = _
               simp only [Act.put, sA, sB, sC, i64_w, i32_w]
               rfl
              refine pF 3 4 32 65 ?_
              refine pF 4 5 32 66 ?_
              refine pF 5 6 32 67 ?_
              refine pT2 6 68 (upTo 7 32) ?_ hHeld
              refine one_ (i := 7) (N := some 69) (upTo 8 32) rfl rfl (one_of HT_.out (by kernel_rfl)) (by decide) (fun K hK => ?_)
              refine goes_ Try.func36 (by kernel_rfl) rfl #[.int .i64 ((rd_T67 l0_1 x4_3).f1), .int .i64 1, .int .i64 1000000000] (by rfl) rfl rfl (by (try simp only [mA, mB, mC]); first | done | rfl | (simp only [mD, mE]; rfl)) ?_
              with_reducible refine (spec_l03Is.calls ((rd_T67 l0_1 x4_3).f1) 1 1000000000 true _ A34.out).mono ?_
              rintro e w' ⟨rfl, ⟨nd, rfl⟩⟩
              refine ⟨_, rfl, ?_⟩
              refine hK.out _ _ ⟨(kC BK107.out 0).trans rfl, (kC BK107.out 1).trans rfl, (kC BK107.out 2).trans rfl, (kC BK101.out 0).trans rfl, (kC BK101.out 1).trans rfl, (pw_cell_below HB.out hw110_0), (pw_cell_below HB.out hw110_1), (pw_cell_below HB.out hw110_2)⟩ (fun hHeld => ?_)
              clear hK K
              refine norm_ (a' := ?_) ?_ ?_
              rotate_left
              ·
               show Act.put _ (some 69) _ = _
               simp only [Act.put, sA, sB, sC, i64_w, i32_w]
               rfl
              refine pF 8 9 32 70 ?_
              refine pF 9 10 32 71 ?_
              refine pF 10 11 32 72 ?_
              refine pF 11 12 32 73 ?_
              refine pT2 12 74 (upTo 13 32) ?_ hHeld
              refine pF 13 14 32 75 ?_
              refine pF 14 15 32 76 ?_
              refine pF 15 16 32 77 ?_
              refine pF 16 17 32 78 ?_
              refine pF 17 18 32 79 ?_
              refine pF 18 19 32 80 ?_
              refine pF 19 20 32 81 ?_
              refine pF 20 21 32 82 ?_
              refine pF2 22 84 spec_BrokerRight.b9 ?_
              refine pF2 23 85 spec_BrokerRight.b10 ?_
              refine pF2 27 89 spec_BrokerRight.b11 ?_
              refine pT2 21 83 spec_BrokerRight.b12 ?_ hHeld
              refine pF2 24 86 spec_BrokerRight.b13 ?_
              refine pF2 25 87 spec_BrokerRight.b14 ?_
              refine pT2 26 88 (upTo 28 32) ?_ hHeld
              refine pT2 28 90 (upTo 29 32) ?_ hHeld
              refine pF 29 30 32 91 ?_
              refine pF 30 31 32 92 ?_
              refine pF 31 32 32 93 ?_
              refine done_ (done_of HT_.out (by kernel_rfl)) ?_
              try go_wp2
              go_roundg k3
              case measure => have := HJ1.out; have := HK2.out; have := HK3.out; omega
              case rel => exact ⟨(wrap64 (x4_3 + 1)), (by first | rfl | (simp; done) | (simp [*]; done)), H', ⟨by have := HJ1.out; have := HK2.out; have := HK3.out; omega⟩, ⟨kX BK101.out⟩, ⟨bX HB.out⟩⟩
             rw [if_neg c46] at H
             exact absurd H (by simp)
            rw [if_neg c45] at H
            exact absurd H (by simp)
           rw [if_neg c43] at H
           have c43b0 : decide (0 < x4_3) = false := decide_eq_false c43
           clear c43
           have H' := AM H
           clear H
           have hcz60 := q2 BK101.out
           have hfz60 := fZ BK101.out
           have p106 : 0 ≤ (x4_3 : Int) := of_decide_eq_true (by assumption)
           have q106 : x4_3 < (l0_1.length : Int) := of_decide_eq_true (by assumption)
           obtain ⟨ad106, e106, hx106_0, hx106_1, hx106_2⟩ := at_T67 HR0_1.out x4_3 p106 q106
           cases e106
           replace hx106_0 := pw_cell_below HB.out hx106_0
           replace hx106_1 := pw_cell_below HB.out hx106_1
           replace hx106_2 := pw_cell_below HB.out hx106_2
           replace p106 := eq_true p106
           replace q106 := eq_true q106
           try go_wp2_with (first | ((with_reducible refine gate_dst (N := 5) rfl ?_); (try (refine gate_guard (by rfl) ?_; dsimp only)); refine box_event (by rfl) (N := 5) (by rfl) (cs := #[.int .i64 0, .int .i64 0, .string (⟨#[]⟩ : ByteArray)]) (t := 67) (by first | (go_simp; done) | (go_simp; rfl)) ?_; intro gb107 hg w61 hbox hb; have _ := AM (nB BK101.out hb); have _ := AM (below_step (bX HB.out) hb); have _ := AM (hbox); have n3_ := AM ((by rw [hg]; exact (bZ (bX HB.out)) : w.heap.size ≤ gb107)); have _ := AM (lX hg BK101.out); have _ := AM (lX hg BK101.out).symm; clear BK101 HB; rename_i BK101 HB BK107 NB101_107 NB107_101; have GW107 := n3_; have GE107 := n3_; clear n3_; clear hb hbox hg; have hnb62 := NB107_101.out; have hnc62 := NB101_107.out; have hcz63 := q3 BK107.out; have hfz63 := fZ BK107.out))
           have n0_ : Aside0 ((((w61.setCell ⟨gb107, 0, none⟩ (.int .i64 ((rd_T67 l0_1 x4_3).f0))).setCell ⟨gb107, 1, none⟩ (.int .i64 ((rd_T67 l0_1 x4_3).f1))).setCell ⟨gb107, 2, none⟩ (.string ((rd_T67 l0_1 x4_3).f2))).heap[gb101]? = some (.cells #[.slice A0_0 l0_0.length c0_0, .slice (some ad106) l0_1.length c0_1] 35 (0, 0))) := ⟨by (iterate 3 refine kF NB101_107.out ?_); (with_reducible repeat (first | apply kN | apply kD | apply kA)); exact BK101.out⟩
           have n1_ : Aside0 ((((w61.setCell ⟨gb107, 0, none⟩ (.int .i64 ((rd_T67 l0_1 x4_3).f0))).setCell ⟨gb107, 1, none⟩ (.int .i64 ((rd_T67 l0_1 x4_3).f1))).setCell ⟨gb107, 2, none⟩ (.string ((rd_T67 l0_1 x4_3).f2))).heap[gb107]? = some (.cells #[.int .i64 ((rd_T67 l0_1 x4_3).f0), .int .i64 ((rd_T67 l0_1 x4_3).f1), .string ((rd_T67 l0_1 x4_3).f2)] 67 (0, 0))) := ⟨by refine kP (cs := #[.int .i64 ((rd_T67 l0_1 x4_3).f0), .int .i64 ((rd_T67 l0_1 x4_3).f1), .string (⟨#[]⟩ : ByteArray)]) 2 ?_; refine kP (cs := #[.int .i64 ((rd_T67 l0_1 x4_3).f0), .int .i64 0, .string (⟨#[]⟩ : ByteArray)]) 1 ?_; refine kP (cs := #[.int .i64 0, .int .i64 0, .string (⟨#[]⟩ : ByteArray)]) 0 ?_; (with_reducible repeat (first | apply kN | apply kD | apply kA)); exact BK107.out⟩
           have n2_ : Aside0 (Below w.heap.size w (((w61.setCell ⟨gb107, 0, none⟩ (.int .i64 ((rd_T67 l0_1 x4_3).f0))).setCell ⟨gb107, 1, none⟩ (.int .i64 ((rd_T67 l0_1 x4_3).f1))).setCell ⟨gb107, 2, none⟩ (.string ((rd_T67 l0_1 x4_3).f2)))) := ⟨bX HB.out⟩
           (try clear BK101)
           (try clear BK107)
           (try clear HB)
           generalize (((w61.setCell ⟨gb107, 0, none⟩ (.int .i64 ((rd_T67 l0_1 x4_3).f0))).setCell ⟨gb107, 1, none⟩ (.int .i64 ((rd_T67 l0_1 x4_3).f1))).setCell ⟨gb107, 2, none⟩ (.string ((rd_T67 l0_1 x4_3).f2))) = w64 at n0_ n1_ n2_ ⊢
           have BK101 := n0_
           have BK107 := n1_
           have HB := n2_
           clear n0_ n1_ n2_
           have _ := AM (kD BK101.out)
           have _ := AM (kD BK107.out)
           have _ := AM (bD HB.out)
           clear BK101 BK107 HB
           rename_i BK101 BK107 HB
           refine start_ (n := 32) (S := fun w' => w'.cell? ⟨gb107, 0, none⟩ = some (.int .i64 ((rd_T67 l0_1 x4_3).f0)) ∧ w'.cell? ⟨gb107, 1, none⟩ = some (.int .i64 ((rd_T67 l0_1 x4_3).f1)) ∧ w'.cell? ⟨gb107, 2, none⟩ = some (.string ((rd_T67 l0_1 x4_3).f2))) (ds := []) (upTo 0 32) (by kernel_rfl) rfl rfl ⟨(kC BK107.out 0).trans rfl, (kC BK107.out 1).trans rfl, (kC BK107.out 2).trans rfl⟩ (fun hHeld => ?_); refine with_tabW spec_BrokerRight.tab12 spec_BrokerRight.bits12 (fun HT_ HW_ => ?_)
           generalize w64.drew = w65 at BK101 BK107 HB hHeld ⊢
           refine pF 0 1 32 62 ?_
           refine pT2 1 63 (upTo 2 32) ?_ hHeld
           refine one_ (i := 2) (N := some 64) (upTo 3 32) rfl rfl (one_of HT_.out (by kernel_rfl)) (by decide) (fun K hK => ?_)
           refine goes_ Try.func36 (by kernel_rfl) rfl #[.int .i64 ((rd_T67 l0_1 x4_3).f0), .int .i64 1, .int .i64 9] (by rfl) rfl rfl (by (try simp only [mA, mB, mC]); first | done | rfl | (simp only [mD, mE]; rfl)) ?_
           with_reducible refine (spec_l03Is.calls ((rd_T67 l0_1 x4_3).f0) 1 9 true _ A32.out).mono ?_
           rintro e w' ⟨rfl, ⟨nd, rfl⟩⟩
           refine ⟨_, rfl, ?_⟩
           refine hK.out _ _ (q3 BK107.out) (fun hHeld => ?_)
           clear hK K
           refine norm_ (a' := ?_) ?_ ?_
           rotate_left
           ·
            show Act.put _ (some 64) _ = _
            simp only [Act.put, sA, sB, sC, i64_w, i32_w]
            rfl
           refine pF 3 4 32 65 ?_
           refine pF 4 5 32 66 ?_
           refine pF 5 6 32 67 ?_
           refine pT2 6 68 (upTo 7 32) ?_ hHeld
           refine one_ (i := 7) (N := some 69) (upTo 8 32) rfl rfl (one_of HT_.out (by kernel_rfl)) (by decide) (fun K hK => ?_)
           refine goes_ Try.func36 (by kernel_rfl) rfl #[.int .i64 ((rd_T67 l0_1 x4_3).f1), .int .i64 1, .int .i64 1000000000] (by rfl) rfl rfl (by (try simp only [mA, mB, mC]); first | done | rfl | (simp only [mD, mE]; rfl)) ?_
           with_reducible refine (spec_l03Is.calls ((rd_T67 l0_1 x4_3).f1) 1 1000000000 true _ A34.out).mono ?_
           rintro e w' ⟨rfl, ⟨nd, rfl⟩⟩
           refine ⟨_, rfl, ?_⟩
           refine hK.out _ _ (q3 BK107.out) (fun hHeld => ?_)
           clear hK K
           refine norm_ (a' := ?_) ?_ ?_
           rotate_left
           ·
            show Act.put _ (some 69) _ = _
            simp only [Act.put, sA, sB, sC, i64_w, i32_w]
            rfl
           refine pF 8 9 32 70 ?_
           refine pF 9 10 32 71 ?_
           refine pF 10 11 32 72 ?_
           refine pF 11 12 32 73 ?_
           refine pT2 12 74 (upTo 13 32) ?_ hHeld
           refine pF 13 14 32 75 ?_
           refine pF 14 15 32 76 ?_
           refine pF 15 16 32 77 ?_
           refine pF 16 17 32 78 ?_
           refine pF 17 18 32 79 ?_
           refine pF 18 19 32 80 ?_
           refine pF 19 20 32 81 ?_
           refine pU 20 21 32 82 ?_
           refine pU 21 22 32 83 ?_
           refine pU 22 23 32 84 ?_
           refine pU 23 24 32 85 ?_
           refine pU 24 25 32 86 ?_
           refine pU 25 26 32 87 ?_
           refine pU 26 27 32 88 ?_
           refine pU 27 28 32 89 ?_
           refine pU 28 29 32 90 ?_
           refine pU 29 30 32 91 ?_
           refine pF 30 31 32 92 ?_
           refine pF 31 32 32 93 ?_
           refine done_ (done_of HT_.out (by kernel_rfl)) ?_
           try go_wp2
           go_roundg k3
           case measure => have := HJ1.out; have := HK2.out; have := HK3.out; omega
           case rel => exact ⟨(wrap64 (x4_3 + 1)), (by first | rfl | (simp; done) | (simp [*]; done)), H', ⟨by have := HJ1.out; have := HK2.out; have := HK3.out; omega⟩, ⟨kX BK101.out⟩, ⟨bX HB.out⟩⟩
          replace c35 := Bool.eq_false_iff.mpr c35
          subst c35
          have H1 : (some false) = some r := by rw [if_neg (show ¬ (false = true) by decide)] at H; exact H
          clear H
          have H := H1
          clear H1
          obtain rfl := Option.some.inj H
          have hcz66 := q2 BK101.out
          have hfz66 := fZ BK101.out
          have p106 : 0 ≤ (x4_3 : Int) := of_decide_eq_true (by assumption)
          have q106 : x4_3 < (l0_1.length : Int) := of_decide_eq_true (by assumption)
          obtain ⟨ad106, e106, hx106_0, hx106_1, hx106_2⟩ := at_T67 HR0_1.out x4_3 p106 q106
          cases e106
          replace hx106_0 := pw_cell_below HB.out hx106_0
          replace hx106_1 := pw_cell_below HB.out hx106_1
          replace hx106_2 := pw_cell_below HB.out hx106_2
          replace p106 := eq_true p106
          replace q106 := eq_true q106
          try go_wp2_with (first | ((with_reducible refine gate_dst (N := 5) rfl ?_); (try (refine gate_guard (by rfl) ?_; dsimp only)); refine box_event (by rfl) (N := 5) (by rfl) (cs := #[.int .i64 0, .int .i64 0, .string (⟨#[]⟩ : ByteArray)]) (t := 67) (by first | (go_simp; done) | (go_simp; rfl)) ?_; intro gb107 hg w67 hbox hb; have _ := AM (nB BK101.out hb); have _ := AM (below_step (bX HB.out) hb); have _ := AM (hbox); have n3_ := AM ((by rw [hg]; exact (bZ (bX HB.out)) : w.heap.size ≤ gb107)); have _ := AM (lX hg BK101.out); have _ := AM (lX hg BK101.out).symm; clear BK101 HB; rename_i BK101 HB BK107 NB101_107 NB107_101; have GW107 := n3_; have GE107 := n3_; clear n3_; clear hb hbox hg; have hnb68 := NB107_101.out; have hnc68 := NB101_107.out; have hcz69 := q3 BK107.out; have hfz69 := fZ BK107.out))
          have n0_ : Aside0 ((((w67.setCell ⟨gb107, 0, none⟩ (.int .i64 ((rd_T67 l0_1 x4_3).f0))).setCell ⟨gb107, 1, none⟩ (.int .i64 ((rd_T67 l0_1 x4_3).f1))).setCell ⟨gb107, 2, none⟩ (.string ((rd_T67 l0_1 x4_3).f2))).heap[gb101]? = some (.cells #[.slice A0_0 l0_0.length c0_0, .slice (some ad106) l0_1.length c0_1] 35 (0, 0))) := ⟨by (iterate 3 refine kF NB101_107.out ?_); (with_reducible repeat (first | apply kN | apply kD | apply kA)); exact BK101.out⟩
          have n1_ : Aside0 ((((w67.setCell ⟨gb107, 0, none⟩ (.int .i64 ((rd_T67 l0_1 x4_3).f0))).setCell ⟨gb107, 1, none⟩ (.int .i64 ((rd_T67 l0_1 x4_3).f1))).setCell ⟨gb107, 2, none⟩ (.string ((rd_T67 l0_1 x4_3).f2))).heap[gb107]? = some (.cells #[.int .i64 ((rd_T67 l0_1 x4_3).f0), .int .i64 ((rd_T67 l0_1 x4_3).f1), .string ((rd_T67 l0_1 x4_3).f2)] 67 (0, 0))) := ⟨by refine kP (cs := #[.int .i64 ((rd_T67 l0_1 x4_3).f0), .int .i64 ((rd_T67 l0_1 x4_3).f1), .string (⟨#[]⟩ : ByteArray)]) 2 ?_; refine kP (cs := #[.int .i64 ((rd_T67 l0_1 x4_3).f0), .int .i64 0, .string (⟨#[]⟩ : ByteArray)]) 1 ?_; refine kP (cs := #[.int .i64 0, .int .i64 0, .string (⟨#[]⟩ : ByteArray)]) 0 ?_; (with_reducible repeat (first | apply kN | apply kD | apply kA)); exact BK107.out⟩
          have n2_ : Aside0 (Below w.heap.size w (((w67.setCell ⟨gb107, 0, none⟩ (.int .i64 ((rd_T67 l0_1 x4_3).f0))).setCell ⟨gb107, 1, none⟩ (.int .i64 ((rd_T67 l0_1 x4_3).f1))).setCell ⟨gb107, 2, none⟩ (.string ((rd_T67 l0_1 x4_3).f2)))) := ⟨bX HB.out⟩
          (try clear BK101)
          (try clear BK107)
          (try clear HB)
          generalize (((w67.setCell ⟨gb107, 0, none⟩ (.int .i64 ((rd_T67 l0_1 x4_3).f0))).setCell ⟨gb107, 1, none⟩ (.int .i64 ((rd_T67 l0_1 x4_3).f1))).setCell ⟨gb107, 2, none⟩ (.string ((rd_T67 l0_1 x4_3).f2))) = w70 at n0_ n1_ n2_ ⊢
          have BK101 := n0_
          have BK107 := n1_
          have HB := n2_
          clear n0_ n1_ n2_
          have _ := AM (kD BK101.out)
          have _ := AM (kD BK107.out)
          have _ := AM (bD HB.out)
          clear BK101 BK107 HB
          rename_i BK101 BK107 HB
          refine start_ (n := 32) (S := fun w' => w'.cell? ⟨gb107, 0, none⟩ = some (.int .i64 ((rd_T67 l0_1 x4_3).f0)) ∧ w'.cell? ⟨gb107, 1, none⟩ = some (.int .i64 ((rd_T67 l0_1 x4_3).f1)) ∧ w'.cell? ⟨gb107, 2, none⟩ = some (.string ((rd_T67 l0_1 x4_3).f2))) (ds := []) (upTo 0 32) (by kernel_rfl) rfl rfl ⟨(kC BK107.out 0).trans rfl, (kC BK107.out 1).trans rfl, (kC BK107.out 2).trans rfl⟩ (fun hHeld => ?_); refine with_tabW spec_BrokerRight.tab12 spec_BrokerRight.bits12 (fun HT_ HW_ => ?_)
          generalize w70.drew = w71 at BK101 BK107 HB hHeld ⊢
          refine pF 0 1 32 62 ?_
          refine pT2 1 63 (upTo 2 32) ?_ hHeld
          refine one_ (i := 2) (N := some 64) (upTo 3 32) rfl rfl (one_of HT_.out (by kernel_rfl)) (by decide) (fun K hK => ?_)
          refine goes_ Try.func36 (by kernel_rfl) rfl #[.int .i64 ((rd_T67 l0_1 x4_3).f0), .int .i64 1, .int .i64 9] (by rfl) rfl rfl (by (try simp only [mA, mB, mC]); first | done | rfl | (simp only [mD, mE]; rfl)) ?_
          with_reducible refine (spec_l03Is.calls ((rd_T67 l0_1 x4_3).f0) 1 9 true _ A32.out).mono ?_
          rintro e w' ⟨rfl, ⟨nd, rfl⟩⟩
          refine ⟨_, rfl, ?_⟩
          refine hK.out _ _ (q3 BK107.out) (fun hHeld => ?_)
          clear hK K
          refine norm_ (a' := ?_) ?_ ?_
          rotate_left
          ·
           show Act.put _ (some 64) _ = _
           simp only [Act.put, sA, sB, sC, i64_w, i32_w]
           rfl
          refine pF 3 4 32 65 ?_
          refine pF 4 5 32 66 ?_
          refine pF 5 6 32 67 ?_
          refine pT2 6 68 (upTo 7 32) ?_ hHeld
          refine one_ (i := 7) (N := some 69) (upTo 8 32) rfl rfl (one_of HT_.out (by kernel_rfl)) (by decide) (fun K hK => ?_)
          refine goes_ Try.func36 (by kernel_rfl) rfl #[.int .i64 ((rd_T67 l0_1 x4_3).f1), .int .i64 1, .int .i64 1000000000] (by rfl) rfl rfl (by (try simp only [mA, mB, mC]); first | done | rfl | (simp only [mD, mE]; rfl)) ?_
          with_reducible refine (spec_l03Is.calls ((rd_T67 l0_1 x4_3).f1) 1 1000000000 false _ A34.out).mono ?_
          rintro e w' ⟨rfl, ⟨nd, rfl⟩⟩
          refine ⟨_, rfl, ?_⟩
          refine hK.out _ _ (q3 BK107.out) (fun hHeld => ?_)
          clear hK K
          refine norm_ (a' := ?_) ?_ ?_
          rotate_left
          ·
           show Act.put _ (some 69) _ = _
           simp only [Act.put, sA, sB, sC, i64_w, i32_w]
           rfl
          refine pF 8 9 32 70 ?_
          refine pF 9 10 32 71 ?_
          refine pF 10 11 32 72 ?_
          refine pU 11 12 32 73 ?_
          refine pU 12 13 32 74 ?_
          refine pU 13 14 32 75 ?_
          refine pU 14 15 32 76 ?_
          refine pF 15 16 32 77 ?_
          refine pF 16 17 32 78 ?_
          refine pU 17 18 32 79 ?_
          refine pU 18 19 32 80 ?_
          refine pU 19 20 32 81 ?_
          refine pU 20 21 32 82 ?_
          refine pU 21 22 32 83 ?_
          refine pU 22 23 32 84 ?_
          refine pU 23 24 32 85 ?_
          refine pU 24 25 32 86 ?_
          refine pU 25 26 32 87 ?_
          refine pU 26 27 32 88 ?_
          refine pU 27 28 32 89 ?_
          refine pU 28 29 32 90 ?_
          refine pU 29 30 32 91 ?_
          refine pU 30 31 32 92 ?_
          refine pF 31 32 32 93 ?_
          refine done_ (done_of HT_.out (by kernel_rfl)) ?_
          try go_wp2
          go_ret
          exact ⟨by first | rfl | (simp [*, errW_none, errW_some] <;> rfl), bX HB.out⟩
         replace c33 := Bool.eq_false_iff.mpr c33
         subst c33
         have H1 : (some false) = some r := by rw [if_neg (show ¬ (false = true) by decide)] at H; exact H
         clear H
         have H := H1
         clear H1
         obtain rfl := Option.some.inj H
         have hcz72 := q2 BK101.out
         have hfz72 := fZ BK101.out
         have p106 : 0 ≤ (x4_3 : Int) := of_decide_eq_true (by assumption)
         have q106 : x4_3 < (l0_1.length : Int) := of_decide_eq_true (by assumption)
         obtain ⟨ad106, e106, hx106_0, hx106_1, hx106_2⟩ := at_T67 HR0_1.out x4_3 p106 q106
         cases e106
         replace hx106_0 := pw_cell_below HB.out hx106_0
         replace hx106_1 := pw_cell_below HB.out hx106_1
         replace hx106_2 := pw_cell_below HB.out hx106_2
         replace p106 := eq_true p106
         replace q106 := eq_true q106
         try go_wp2_with (first | ((with_reducible refine gate_dst (N := 5) rfl ?_); (try (refine gate_guard (by rfl) ?_; dsimp only)); refine box_event (by rfl) (N := 5) (by rfl) (cs := #[.int .i64 0, .int .i64 0, .string (⟨#[]⟩ : ByteArray)]) (t := 67) (by first | (go_simp; done) | (go_simp; rfl)) ?_; intro gb107 hg w73 hbox hb; have _ := AM (nB BK101.out hb); have _ := AM (below_step (bX HB.out) hb); have _ := AM (hbox); have n3_ := AM ((by rw [hg]; exact (bZ (bX HB.out)) : w.heap.size ≤ gb107)); have _ := AM (lX hg BK101.out); have _ := AM (lX hg BK101.out).symm; clear BK101 HB; rename_i BK101 HB BK107 NB101_107 NB107_101; have GW107 := n3_; have GE107 := n3_; clear n3_; clear hb hbox hg; have hnb74 := NB107_101.out; have hnc74 := NB101_107.out; have hcz75 := q3 BK107.out; have hfz75 := fZ BK107.out))
         have n0_ : Aside0 ((((w73.setCell ⟨gb107, 0, none⟩ (.int .i64 ((rd_T67 l0_1 x4_3).f0))).setCell ⟨gb107, 1, none⟩ (.int .i64 ((rd_T67 l0_1 x4_3).f1))).setCell ⟨gb107, 2, none⟩ (.string ((rd_T67 l0_1 x4_3).f2))).heap[gb101]? = some (.cells #[.slice A0_0 l0_0.length c0_0, .slice (some ad106) l0_1.length c0_1] 35 (0, 0))) := ⟨by (iterate 3 refine kF NB101_107.out ?_); (with_reducible repeat (first | apply kN | apply kD | apply kA)); exact BK101.out⟩
         have n1_ : Aside0 ((((w73.setCell ⟨gb107, 0, none⟩ (.int .i64 ((rd_T67 l0_1 x4_3).f0))).setCell ⟨gb107, 1, none⟩ (.int .i64 ((rd_T67 l0_1 x4_3).f1))).setCell ⟨gb107, 2, none⟩ (.string ((rd_T67 l0_1 x4_3).f2))).heap[gb107]? = some (.cells #[.int .i64 ((rd_T67 l0_1 x4_3).f0), .int .i64 ((rd_T67 l0_1 x4_3).f1), .string ((rd_T67 l0_1 x4_3).f2)] 67 (0, 0))) := ⟨by refine kP (cs := #[.int .i64 ((rd_T67 l0_1 x4_3).f0), .int .i64 ((rd_T67 l0_1 x4_3).f1), .string (⟨#[]⟩ : ByteArray)]) 2 ?_; refine kP (cs := #[.int .i64 ((rd_T67 l0_1 x4_3).f0), .int .i64 0, .string (⟨#[]⟩ : ByteArray)]) 1 ?_; refine kP (cs := #[.int .i64 0, .int .i64 0, .string (⟨#[]⟩ : ByteArray)]) 0 ?_; (with_reducible repeat (first | apply kN | apply kD | apply kA)); exact BK107.out⟩
         have n2_ : Aside0 (Below w.heap.size w (((w73.setCell ⟨gb107, 0, none⟩ (.int .i64 ((rd_T67 l0_1 x4_3).f0))).setCell ⟨gb107, 1, none⟩ (.int .i64 ((rd_T67 l0_1 x4_3).f1))).setCell ⟨gb107, 2, none⟩ (.string ((rd_T67 l0_1 x4_3).f2)))) := ⟨bX HB.out⟩
         (try clear BK101)
         (try clear BK107)
         (try clear HB)
         generalize (((w73.setCell ⟨gb107, 0, none⟩ (.int .i64 ((rd_T67 l0_1 x4_3).f0))).setCell ⟨gb107, 1, none⟩ (.int .i64 ((rd_T67 l0_1 x4_3).f1))).setCell ⟨gb107, 2, none⟩ (.string ((rd_T67 l0_1 x4_3).f2))) = w76 at n0_ n1_ n2_ ⊢
         have BK101 := n0_
         have BK107 := n1_
         have HB := n2_
         clear n0_ n1_ n2_
         have _ := AM (kD BK101.out)
         have _ := AM (kD BK107.out)
         have _ := AM (bD HB.out)
         clear BK101 BK107 HB
         rename_i BK101 BK107 HB
         refine start_ (n := 32) (S := fun w' => w'.cell? ⟨gb107, 0, none⟩ = some (.int .i64 ((rd_T67 l0_1 x4_3).f0)) ∧ w'.cell? ⟨gb107, 1, none⟩ = some (.int .i64 ((rd_T67 l0_1 x4_3).f1)) ∧ w'.cell? ⟨gb107, 2, none⟩ = some (.string ((rd_T67 l0_1 x4_3).f2))) (ds := []) (upTo 0 32) (by kernel_rfl) rfl rfl ⟨(kC BK107.out 0).trans rfl, (kC BK107.out 1).trans rfl, (kC BK107.out 2).trans rfl⟩ (fun hHeld => ?_); refine with_tabW spec_BrokerRight.tab12 spec_BrokerRight.bits12 (fun HT_ HW_ => ?_)
         generalize w76.drew = w77 at BK101 BK107 HB hHeld ⊢
         refine pF 0 1 32 62 ?_
         refine pT2 1 63 (upTo 2 32) ?_ hHeld
         refine one_ (i := 2) (N := some 64) (upTo 3 32) rfl rfl (one_of HT_.out (by kernel_rfl)) (by decide) (fun K hK => ?_)
         refine goes_ Try.func36 (by kernel_rfl) rfl #[.int .i64 ((rd_T67 l0_1 x4_3).f0), .int .i64 1, .int .i64 9] (by rfl) rfl rfl (by (try simp only [mA, mB, mC]); first | done | rfl | (simp only [mD, mE]; rfl)) ?_
         with_reducible refine (spec_l03Is.calls ((rd_T67 l0_1 x4_3).f0) 1 9 false _ A32.out).mono ?_
         rintro e w' ⟨rfl, ⟨nd, rfl⟩⟩
         refine ⟨_, rfl, ?_⟩
         refine hK.out _ _ (q3 BK107.out) (fun hHeld => ?_)
         clear hK K
         refine norm_ (a' := ?_) ?_ ?_
         rotate_left
         ·
          show Act.put _ (some 64) _ = _
          simp only [Act.put, sA, sB, sC, i64_w, i32_w]
          rfl
         refine pF 3 4 32 65 ?_
         refine pF 4 5 32 66 ?_
         refine pU 5 6 32 67 ?_
         refine pU 6 7 32 68 ?_
         refine pU 7 8 32 69 ?_
         refine pU 8 9 32 70 ?_
         refine pF 9 10 32 71 ?_
         refine pF 10 11 32 72 ?_
         refine pU 11 12 32 73 ?_
         refine pU 12 13 32 74 ?_
         refine pU 13 14 32 75 ?_
         refine pU 14 15 32 76 ?_
         refine pF 15 16 32 77 ?_
         refine pF 16 17 32 78 ?_
         refine pU 17 18 32 79 ?_
         refine pU 18 19 32 80 ?_
         refine pU 19 20 32 81 ?_
         refine pU 20 21 32 82 ?_
         refine pU 21 22 32 83 ?_
         refine pU 22 23 32 84 ?_
         refine pU 23 24 32 85 ?_
         refine pU 24 25 32 86 ?_
         refine pU 25 26 32 87 ?_
         refine pU 26 27 32 88 ?_
         refine pU 27 28 32 89 ?_
         refine pU 28 29 32 90 ?_
         refine pU 29 30 32 91 ?_
         refine pU 30 31 32 92 ?_
         refine pF 31 32 32 93 ?_
         refine done_ (done_of HT_.out (by kernel_rfl)) ?_
         try go_wp2
         go_ret
         exact ⟨by first | rfl | (simp [*, errW_none, errW_some] <;> rfl), bX HB.out⟩
        rw [if_neg c31] at H
        exact absurd H (by simp)
       rw [if_neg c30] at H
       have c30b0 : decide (x4_3 < (l0_1.length : Int)) = false := decide_eq_false c30
       clear c30
       obtain rfl := Option.some.inj H
       have hcz78 := q2 BK101.out
       have hfz78 := fZ BK101.out
       go_wp2
       go_ret
       exact ⟨by first | rfl | (simp [*, errW_none, errW_some] <;> rfl), bX HB.out⟩

end Go.Proofs.Ytokgloeondfkiaa.Q
