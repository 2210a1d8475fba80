/- Printed by a program of this session (wip/mp.py over the kit's print.py): functions of the translation as plain Lean functions, and that the machine's calls do what these say. -/
import Derived.Test.YtmaliehmbodioaaQx0
import Derived.Test.YtmaliehmbodioaaQx1
namespace Go.Proofs.Ytmaliehmbodioaa.Q
open Go.RowKit Go.Proofs.Ytmaliehmbodioaa.HB Go.Proofs.YtmaliehmbodioaaW.PrintWords Go.Proofs.YtmaliehmbodioaaW.PrintLast Go.Proofs.YtmaliehmbodioaaW.PrintMore
attribute [local go_sem] max2_int min2_int max_two min_two max_three min_three max_four min_four   -- for this text's walks alone
set_option linter.unusedVariables false
set_option linter.unusedSimpArgs false

/-! ### spec_ChangeRight: function 39 -/
abbrev spec_ChangeRight.b0 : Array Bool := #[true, true, true, true, true, false, true, false, false, false, false, false, false, false, false, false, false, false, false, false, false, false, false, false, false, false]
abbrev spec_ChangeRight.b1 : Array Bool := #[true, true, true, true, true, true, true, true, true, true, true, true, true, true, true, false, true, false, false, false, false, false, false, false, false, false]
abbrev spec_ChangeRight.b2 : Array Bool := #[true, true, true, true, true, true, true, true, true, true, true, true, true, true, true, false, true, true, false, false, false, false, false, false, false, false]
abbrev spec_ChangeRight.b3 : Array Bool := #[true, true, true, true, true, true, true, true, true, true, true, true, true, true, true, false, true, true, false, false, false, true, false, false, false, false]
abbrev spec_ChangeRight.b4 : Array Bool := #[true, true, true, true, true, true, true, true, true, true, true, true, true, true, true, true, true, true, false, false, false, true, false, false, false, false]
abbrev spec_ChangeRight.b5 : Array Bool := #[true, true, true, true, true, true, true, true, true, true, true, true, true, true, true, true, true, true, true, false, false, true, false, false, false, false]
abbrev spec_ChangeRight.b6 : Array Bool := #[true, true, true, true, true, true, true, true, true, true, true, true, true, true, true, true, true, true, true, true, false, true, false, false, false, false]
mutual
def spec_ChangeRight.j0 : Nat → Bool → Int → Int → List (S72) → Option (Bool)
  | 0, _, _, _, _ => none
  | k + 1, x14, x102000, x102001, x102002 => if x14 = true then (some false) else (spec_ChangeRight.l0 k 0 x102000 x102001 x102002)
def spec_ChangeRight.l0 : Nat → Int → Int → Int → List (S72) → Option (Bool)
  | 0, _, _, _, _ => none
  | k + 1, x3, x102000, x102001, x102002 => if x3 < (x102002.length : Int) then (if 0 ≤ x3 then ((spec_ProofRight.f k ((rd_T72 x102002 x3).f0) ((rd_T72 x102002 x3).f1) ((rd_T72 x102002 x3).f2) ((rd_T72 x102002 x3).f3)).bind fun t106 => (if t106 = true then (if ((rd_T72 x102002 x3).f0) ≥ x102001 then (some false) else (if x3 > 0 then (if 0 ≤ (wrap64 (x3 - 1)) then (if (wrap64 (x3 - 1)) < (x102002.length : Int) then (if ((rd_T72 x102002 (wrap64 (x3 - 1))).f1) ≥ ((rd_T72 x102002 x3).f1) then (some false) else (spec_ChangeRight.l0 k (wrap64 (x3 + 1)) x102000 x102001 x102002)) else (none)) else (none)) else (spec_ChangeRight.l0 k (wrap64 (x3 + 1)) x102000 x102001 x102002))) else (some false))) else (none)) else (some true)
end
def spec_ChangeRight.f (k : Nat) (a0_0 : Int) (a0_1 : Int) (l0_2 : List (S72)) : Option (Bool) := (spec_l09Who.f a0_0).bind fun t102 => (if t102 = true then ((spec_l03Is.f a0_1 1 7).bind fun t103 => (spec_ChangeRight.j0 k (!t103) a0_0 a0_1 l0_2)) else (spec_ChangeRight.j0 k true a0_0 a0_1 l0_2))
theorem spec_ChangeRight.mono_l : ∀ k, (∀ y0 y1 y2 y3, LeO (spec_ChangeRight.j0 k y0 y1 y2 y3) (spec_ChangeRight.j0 (k + 1) y0 y1 y2 y3)) ∧ (∀ y0 y1 y2 y3, LeO (spec_ChangeRight.l0 k y0 y1 y2 y3) (spec_ChangeRight.l0 (k + 1) y0 y1 y2 y3))
  | 0 => ⟨fun _ _ _ _ r h => by simp [spec_ChangeRight.j0] at h, fun _ _ _ _ r h => by simp [spec_ChangeRight.l0] at h⟩
  | k + 1 => by
    obtain ⟨ih0, ih1⟩ := spec_ChangeRight.mono_l k
    refine ⟨?_, ?_⟩
    · intro y0 y1 y2 y3
      unfold spec_ChangeRight.j0
      repeat' first
      | (with_reducible exact ih0 _ _ _ _)
      | (with_reducible exact ih1 _ _ _ _)
      | (with_reducible exact spec_ProofRight.mono _ _ _ _ _)
      | (with_reducible exact LeO.refl _)
      | (with_reducible exact LeO.none _)
      | (with_reducible refine LeO.ite ?_ ?_)
      | (with_reducible refine LeO.bind ?_ (fun _ => ?_))
      | exact ih0 _ _ _ _
      | exact ih1 _ _ _ _
      | exact spec_ProofRight.mono _ _ _ _ _
      | exact LeO.none _
      | refine LeO.ite ?_ ?_
      | refine LeO.bind ?_ (fun _ => ?_)
    · intro y0 y1 y2 y3
      unfold spec_ChangeRight.l0
      repeat' first
      | (with_reducible exact ih0 _ _ _ _)
      | (with_reducible exact ih1 _ _ _ _)
      | (with_reducible exact spec_ProofRight.mono _ _ _ _ _)
      | (with_reducible exact LeO.refl _)
      | (with_reducible exact LeO.none _)
      | (with_reducible refine LeO.ite ?_ ?_)
      | (with_reducible refine LeO.bind ?_ (fun _ => ?_))
      | exact ih0 _ _ _ _
      | exact ih1 _ _ _ _
      | exact spec_ProofRight.mono _ _ _ _ _
      | exact LeO.none _
      | refine LeO.ite ?_ ?_
      | refine LeO.bind ?_ (fun _ => ?_)
theorem spec_ChangeRight.mono : ∀ a0 a1 a2 k, LeO (spec_ChangeRight.f k a0 a1 a2) (spec_ChangeRight.f (k + 1) a0 a1 a2) := by
  intro a0 a1 a2 k
  obtain ⟨ih0, ih1⟩ := spec_ChangeRight.mono_l k
  unfold spec_ChangeRight.f
  repeat' first
      | (with_reducible exact ih0 _ _ _ _)
      | (with_reducible exact ih1 _ _ _ _)
      | (with_reducible exact spec_ProofRight.mono _ _ _ _ _)
      | (with_reducible exact LeO.refl _)
      | (with_reducible exact LeO.none _)
      | (with_reducible refine LeO.ite ?_ ?_)
      | (with_reducible refine LeO.bind ?_ (fun _ => ?_))
      | exact ih0 _ _ _ _
      | exact ih1 _ _ _ _
      | exact spec_ProofRight.mono _ _ _ _ _
      | exact LeO.none _
      | refine LeO.ite ?_ ?_
      | refine LeO.bind ?_ (fun _ => ?_)
def spec_ChangeRight.T7 : Bool × List (List Nat × List Nat) := (true, [([], []), ([0], [0]), ([1], [1]), ([2, 1], [2]), ([3], [3]), ([4, 3], [3, 4]), ([3], [3]), ([6, 3], [3, 6]), ([5, 7, 3], [3, 5, 7]), ([3, 8], [3, 8]), ([9, 3], [9]), ([10], [10]), ([11, 10], [10, 11]), ([12, 10, 10], [10, 12]), ([13], [13]), ([14, 13], [13, 14]), ([13], [13]), ([16, 13], [13, 16]), ([15, 17, 13], [13, 15, 17]), ([18, 13], [13, 18]), ([19, 13], [13, 19]), ([13], [13]), ([21, 13], [13, 21]), ([20, 22, 13], [13, 20, 22]), ([13, 23, 10], [10, 13, 23]), ([10, 24], [10, 24])])
def spec_ChangeRight.B7 : List Nat := [0, 1, 3, 7, 15, 31, 15, 79, 255, 511, 1023, 2047, 4095, 8191, 16383, 32767, 16383, 81919, 262143, 524287, 1048575, 16383, 2113535, 8388607, 16777215, 33554431]
theorem spec_ChangeRight.tab7 : rtab .any (opsOf Try.f39 7) = spec_ChangeRight.T7 := by kernel_rfl
theorem spec_ChangeRight.bits7 : waitsOk spec_ChangeRight.T7.2 spec_ChangeRight.B7 = true := by kernel_rfl
set_option maxHeartbeats 60000000 in
set_option maxRecDepth 100000 in
theorem spec_ChangeRight.calls (k : Nat) (a0_0 : Int) (a0_1 : Int) (A0_2 : Option Addr) (c0_2 : Nat) (l0_2 : List (S72)) (r : Bool) (w : World) (hr0_2 : Kd.C k72 w A0_2 l0_2.length l0_2) (hc0_2 : l0_2.length ≤ c0_2) (h : spec_ChangeRight.f k a0_0 a0_1 l0_2 = some r) :
    Calls Try.prog 39 #[.agg #[.int .i64 a0_0, .int .i64 a0_1, .slice A0_2 l0_2.length c0_2]] w fun e w' => e = .returned (.bool r) ∧ Below w.heap.size w w' := by
 have hu26 := Try.underlying26
 have hu72 := Try.underlying72
 have HR0_2 := AM hr0_2
 have HC0_2 := AM hc0_2
 clear hr0_2 hc0_2
 have HB := AM (Below.refl w.heap.size w)
 have H : ((spec_l09Who.f a0_0).bind fun t102 => (if t102 = true then ((spec_l03Is.f a0_1 1 7).bind fun t103 => (spec_ChangeRight.j0 k (!t103) a0_0 a0_1 l0_2)) else (spec_ChangeRight.j0 k true a0_0 a0_1 l0_2))) = some r := h
 clear h
 have HC2 := AM H
 clear H
 go_enter Try.func39, Try.ntmps39
 go_upto_region 1 with (first | ((with_reducible refine gate_dst (N := 1) rfl ?_); refine box_event (by rfl) (N := 1) (by rfl) (cs := #[.int .i64 a0_0, .int .i64 a0_1, .slice A0_2 l0_2.length c0_2]) (t := 26) (by first | (go_simp; done) | (go_simp; rfl)) ?_; intro gb101 hg w3 hbox hb; have _ := AM (below_step (bX HB.out) hb); have _ := AM (hbox); have n2_ := AM ((by rw [hg]; exact (bZ (bX HB.out)) : w.heap.size ≤ gb101)); clear HB; rename_i HB BK101; have GW101 := n2_; have GE101 := n2_; clear n2_; clear hb hbox hg))
 (try simp only [Act.put, List.setIfInBounds_toArray, List.set_cons_zero, List.set_cons_succ])
 go_cut [14] (fun v14 wc => ∃ (kq : Nat) (x14_1 : Bool), v14 = .bool x14_1 ∧ Aside0 (spec_ChangeRight.j0 kq x14_1 a0_0 a0_1 l0_2 = some r) ∧ Aside0 (kq ≤ k) ∧ Aside0 (wc.heap[gb101]? = some (.cells #[.int .i64 a0_0, .int .i64 a0_1, (.slice A0_2 l0_2.length c0_2)] 26 (0, 0))) ∧ Aside0 (Below w.heap.size w wc))
 case first =>
  have H := HC2.out
  clear HC2
  replace H := Option.bind_eq_some_iff.mp H
  obtain ⟨t102, A40, H⟩ := H
  replace H : (if t102 = true then ((spec_l03Is.f a0_1 1 7).bind fun t103 => (spec_ChangeRight.j0 k (!t103) a0_0 a0_1 l0_2)) else (spec_ChangeRight.j0 k true a0_0 a0_1 l0_2)) = some r := H
  have A4 := AM A40
  clear A40
  by_cases c5 : t102 = true
  ·
   subst c5
   have H1 : ((spec_l03Is.f a0_1 1 7).bind fun t103 => (spec_ChangeRight.j0 k (!t103) a0_0 a0_1 l0_2)) = some r := by rw [if_pos rfl] at H; exact H
   clear H
   have H := H1
   clear H1
   replace H := Option.bind_eq_some_iff.mp H
   obtain ⟨t103, A60, H⟩ := H
   replace H : (spec_ChangeRight.j0 k (!t103) a0_0 a0_1 l0_2) = some r := H
   have A6 := AM A60
   clear A60
   have H' := AM H
   clear H
   have hcz7 := q3 BK101.out
   have hfz7 := fZ BK101.out
   go_wp2_with (first | ((with_reducible refine gate_callee (f := 25) rfl ?_); refine goesL_ (some 7) rfl rfl Try.func25 (by kernel_rfl) rfl #[.int .i64 a0_0] rfl (by (try simp only [mA, mB, mC]); first | done | rfl | (simp only [mD, mE]; rfl)) ?_; (with_reducible refine (spec_l09Who.calls a0_0 true _ A4.out).mono ?_); rintro e w' ⟨rfl, ⟨nd, rfl⟩⟩; refine ⟨_, rfl, ?_⟩) | (go_at_call 26; (with_reducible refine (spec_l03Is.calls a0_1 1 7 t103 _ A6.out).mono ?_); rintro e w' ⟨rfl, ⟨nd, rfl⟩⟩))
   go_meet
   case rel => exact ⟨_, (!t103), (by first | rfl | (simp; done) | (simp [*]; done)), H', ⟨by first | omega | exact Nat.le_refl _⟩, ⟨kX BK101.out⟩, ⟨bX HB.out⟩⟩
  replace c5 := Bool.eq_false_iff.mpr c5
  subst c5
  have H1 : (spec_ChangeRight.j0 k true a0_0 a0_1 l0_2) = some r := by rw [if_neg (show ¬ (false = true) by decide)] at H; exact H
  clear H
  have H := H1
  clear H1
  have H' := AM H
  clear H
  have hcz8 := q3 BK101.out
  have hfz8 := fZ BK101.out
  go_wp2_with (first | ((with_reducible refine gate_callee (f := 25) rfl ?_); refine goesL_ (some 7) rfl rfl Try.func25 (by kernel_rfl) rfl #[.int .i64 a0_0] rfl (by (try simp only [mA, mB, mC]); first | done | rfl | (simp only [mD, mE]; rfl)) ?_; (with_reducible refine (spec_l09Who.calls a0_0 false _ A4.out).mono ?_); rintro e w' ⟨rfl, ⟨nd, rfl⟩⟩; refine ⟨_, rfl, ?_⟩))
  go_meet
  case rel => exact ⟨_, (true), (by first | rfl | (simp; done) | (simp [*]; done)), H', ⟨by first | omega | exact Nat.le_refl _⟩, ⟨kX BK101.out⟩, ⟨bX HB.out⟩⟩
 case rest =>
  clear HC2
  (try clear c2); (try clear p2); (try clear c3); (try clear c5); (try clear hcz7); (try clear hcz8); (try clear hfz7); (try clear hfz8)
  obtain ⟨kq, x14_1, rfl, HA, HJ1, BK101, HB⟩ := hcut
  cases kq with
  | zero => exact absurd HA.out (by simp [spec_ChangeRight.j0])
  | succ kj1 =>
   have H := HA.out
   clear HA
   simp only [spec_ChangeRight.j0] at H
   by_cases c9 : x14_1 = true
   ·
    subst c9
    have H1 : (some false) = some r := by rw [if_pos rfl] at H; exact H
    clear H
    have H := H1
    clear H1
    obtain rfl := Option.some.inj H
    go_wp2
    go_ret
    exact ⟨by first | rfl | (simp [*, errW_none, errW_some] <;> rfl), bX HB.out⟩
   replace c9 := Bool.eq_false_iff.mpr c9
   subst c9
   have H1 : (spec_ChangeRight.l0 kj1 0 a0_0 a0_1 l0_2) = some r := by rw [if_neg (show ¬ (false = true) by decide)] at H; exact H
   clear H
   have H := H1
   clear H1
   have H' := AM H
   clear H
   go_wp2
   go_loopg [3] kj1 (fun kq v3 w' => ∃ (x3_2 : Int), v3 = .int .i64 x3_2 ∧ Aside0 (spec_ChangeRight.l0 kq x3_2 a0_0 a0_1 l0_2 = some r) ∧ Aside0 (kq ≤ kj1) ∧ Aside0 (w'.heap[gb101]? = some (.cells #[.int .i64 a0_0, .int .i64 a0_1, (.slice A0_2 l0_2.length c0_2)] 26 (0, 0))) ∧ Aside0 (Below w.heap.size w w'))
   case atStart => exact ⟨(0), (by first | rfl | (simp; done) | (simp [*]; done)), H', ⟨Nat.le_refl _⟩, ⟨kX BK101.out⟩, ⟨bX HB.out⟩⟩
   case round =>
    clear H'
    (try clear c2); (try clear p2); (try clear c3); (try clear c5); (try clear c9); (try clear hcz7); (try clear hcz8); (try clear hfz7); (try clear hfz8)
    obtain ⟨x3_2, rfl, HA, HK2, BK101, HB⟩ := hrel
    cases gk with
    | zero => exact absurd HA.out (by simp [spec_ChangeRight.l0])
    | succ k2 =>
     have H := HA.out
     clear HA
     simp only [spec_ChangeRight.l0] at H
     by_cases c10 : x3_2 < (l0_2.length : Int)
     ·
      rw [if_pos c10] at H
      have c10b0 : decide (x3_2 < (l0_2.length : Int)) = true := decide_eq_true c10
      clear c10
      by_cases c11 : 0 ≤ x3_2
      ·
       rw [if_pos c11] at H
       have c11b0 : decide (0 ≤ x3_2) = true := decide_eq_true c11
       clear c11
       replace H := Option.bind_eq_some_iff.mp H
       obtain ⟨t106, A120, H⟩ := H
       replace H : (if t106 = true then (if ((rd_T72 l0_2 x3_2).f0) ≥ a0_1 then (some false) else (if x3_2 > 0 then (if 0 ≤ (wrap64 (x3_2 - 1)) then (if (wrap64 (x3_2 - 1)) < (l0_2.length : Int) then (if ((rd_T72 l0_2 (wrap64 (x3_2 - 1))).f1) ≥ ((rd_T72 l0_2 x3_2).f1) then (some false) else (spec_ChangeRight.l0 k2 (wrap64 (x3_2 + 1)) a0_0 a0_1 l0_2)) else (none)) else (none)) else (spec_ChangeRight.l0 k2 (wrap64 (x3_2 + 1)) a0_0 a0_1 l0_2))) else (some false)) = some r := H
       have A12 := AM A120
       clear A120
       by_cases c13 : t106 = true
       ·
        subst c13
        have H1 : (if ((rd_T72 l0_2 x3_2).f0) ≥ a0_1 then (some false) else (if x3_2 > 0 then (if 0 ≤ (wrap64 (x3_2 - 1)) then (if (wrap64 (x3_2 - 1)) < (l0_2.length : Int) then (if ((rd_T72 l0_2 (wrap64 (x3_2 - 1))).f1) ≥ ((rd_T72 l0_2 x3_2).f1) then (some false) else (spec_ChangeRight.l0 k2 (wrap64 (x3_2 + 1)) a0_0 a0_1 l0_2)) else (none)) else (none)) else (spec_ChangeRight.l0 k2 (wrap64 (x3_2 + 1)) a0_0 a0_1 l0_2))) = some r := by rw [if_pos rfl] at H; exact H
        clear H
        have H := H1
        clear H1
        by_cases c14 : ((rd_T72 l0_2 x3_2).f0) ≥ a0_1
        ·
         rw [if_pos c14] at H
         have c14b0 : decide (a0_1 ≤ ((rd_T72 l0_2 x3_2).f0)) = true := decide_eq_true c14
         clear c14
         obtain rfl := Option.some.inj H
         have hcz15 := q3 BK101.out
         have hfz15 := fZ BK101.out
         have p104 : 0 ≤ (x3_2 : Int) := of_decide_eq_true (by assumption)
         have q104 : x3_2 < (l0_2.length : Int) := of_decide_eq_true (by assumption)
         obtain ⟨ad104, A104_3, c104_3, e104, hx104_0, hx104_1, hx104_2, hx104_3, hl104_3, hi104_3⟩ := at_T72 HR0_2.out x3_2 p104 q104
         cases e104
         replace hx104_0 := pw_cell_below HB.out hx104_0
         replace hx104_1 := pw_cell_below HB.out hx104_1
         replace hx104_2 := pw_cell_below HB.out hx104_2
         replace hx104_3 := pw_cell_below HB.out hx104_3
         have HR104_3 := AM hi104_3
         have HC104_3 := AM hl104_3
         clear hi104_3 hl104_3
         replace p104 := eq_true p104
         replace q104 := eq_true q104
         try go_wp2_with (first | ((with_reducible refine gate_dst (N := 4) rfl ?_); refine box_event (by rfl) (N := 4) (by rfl) (cs := #[.int .i64 0, .int .i64 0, .string (⟨#[]⟩ : ByteArray), .slice none 0 0]) (t := 72) (by first | (go_simp; done) | (go_simp; rfl)) ?_; intro gb105 hg w16 hbox hb; have _ := AM (nB BK101.out hb); have _ := AM (below_step (bX HB.out) hb); have _ := AM (hbox); have n3_ := AM ((by rw [hg]; exact (bZ (bX HB.out)) : w.heap.size ≤ gb105)); have _ := AM (lX hg BK101.out); have _ := AM (lX hg BK101.out).symm; clear BK101 HB; rename_i BK101 HB BK105 NB101_105 NB105_101; have GW105 := n3_; have GE105 := n3_; clear n3_; clear hb hbox hg; have hnb17 := NB105_101.out; have hnc17 := NB101_105.out; have hcz18 := q4 BK105.out; have hfz18 := fZ BK105.out))
         have n0_ : Aside0 (((((w16.setCell ⟨gb105, 0, none⟩ (.int .i64 ((rd_T72 l0_2 x3_2).f0))).setCell ⟨gb105, 1, none⟩ (.int .i64 ((rd_T72 l0_2 x3_2).f1))).setCell ⟨gb105, 2, none⟩ (.string ((rd_T72 l0_2 x3_2).f2))).setCell ⟨gb105, 3, none⟩ (.slice A104_3 ((rd_T72 l0_2 x3_2).f3).length c104_3)).heap[gb101]? = some (.cells #[.int .i64 a0_0, .int .i64 a0_1, .slice (some ad104) l0_2.length c0_2] 26 (0, 0))) := ⟨by (iterate 4 refine kF NB101_105.out ?_); (with_reducible repeat (first | apply kN | apply kD | apply kA)); exact BK101.out⟩
         have n1_ : Aside0 (((((w16.setCell ⟨gb105, 0, none⟩ (.int .i64 ((rd_T72 l0_2 x3_2).f0))).setCell ⟨gb105, 1, none⟩ (.int .i64 ((rd_T72 l0_2 x3_2).f1))).setCell ⟨gb105, 2, none⟩ (.string ((rd_T72 l0_2 x3_2).f2))).setCell ⟨gb105, 3, none⟩ (.slice A104_3 ((rd_T72 l0_2 x3_2).f3).length c104_3)).heap[gb105]? = some (.cells #[.int .i64 ((rd_T72 l0_2 x3_2).f0), .int .i64 ((rd_T72 l0_2 x3_2).f1), .string ((rd_T72 l0_2 x3_2).f2), .slice A104_3 ((rd_T72 l0_2 x3_2).f3).length c104_3] 72 (0, 0))) := ⟨by refine kP (cs := #[.int .i64 ((rd_T72 l0_2 x3_2).f0), .int .i64 ((rd_T72 l0_2 x3_2).f1), .string ((rd_T72 l0_2 x3_2).f2), .slice none 0 0]) 3 ?_; refine kP (cs := #[.int .i64 ((rd_T72 l0_2 x3_2).f0), .int .i64 ((rd_T72 l0_2 x3_2).f1), .string (⟨#[]⟩ : ByteArray), .slice none 0 0]) 2 ?_; refine kP (cs := #[.int .i64 ((rd_T72 l0_2 x3_2).f0), .int .i64 0, .string (⟨#[]⟩ : ByteArray), .slice none 0 0]) 1 ?_; refine kP (cs := #[.int .i64 0, .int .i64 0, .string (⟨#[]⟩ : ByteArray), .slice none 0 0]) 0 ?_; (with_reducible repeat (first | apply kN | apply kD | apply kA)); exact BK105.out⟩
         have n2_ : Aside0 (Below w.heap.size w ((((w16.setCell ⟨gb105, 0, none⟩ (.int .i64 ((rd_T72 l0_2 x3_2).f0))).setCell ⟨gb105, 1, none⟩ (.int .i64 ((rd_T72 l0_2 x3_2).f1))).setCell ⟨gb105, 2, none⟩ (.string ((rd_T72 l0_2 x3_2).f2))).setCell ⟨gb105, 3, none⟩ (.slice A104_3 ((rd_T72 l0_2 x3_2).f3).length c104_3))) := ⟨bX HB.out⟩
         (try clear BK101)
         (try clear BK105)
         (try clear HB)
         generalize ((((w16.setCell ⟨gb105, 0, none⟩ (.int .i64 ((rd_T72 l0_2 x3_2).f0))).setCell ⟨gb105, 1, none⟩ (.int .i64 ((rd_T72 l0_2 x3_2).f1))).setCell ⟨gb105, 2, none⟩ (.string ((rd_T72 l0_2 x3_2).f2))).setCell ⟨gb105, 3, none⟩ (.slice A104_3 ((rd_T72 l0_2 x3_2).f3).length c104_3)) = w19 at n0_ n1_ n2_ ⊢
         have BK101 := n0_
         have BK105 := n1_
         have HB := n2_
         clear n0_ n1_ n2_
         have _ := AM (kD BK101.out)
         have _ := AM (kD BK105.out)
         have _ := AM (bD HB.out)
         clear BK101 BK105 HB
         rename_i BK101 BK105 HB
         refine start_ (n := 26) (S := fun w' => w'.cell? ⟨gb105, 0, none⟩ = some (.int .i64 ((rd_T72 l0_2 x3_2).f0)) ∧ w'.cell? ⟨gb105, 1, none⟩ = some (.int .i64 ((rd_T72 l0_2 x3_2).f1)) ∧ w'.cell? ⟨gb105, 2, none⟩ = some (.string ((rd_T72 l0_2 x3_2).f2)) ∧ w'.cell? ⟨gb105, 3, none⟩ = some (.slice A104_3 ((rd_T72 l0_2 x3_2).f3).length c104_3) ∧ w'.cell? ⟨gb101, 0, none⟩ = some (.int .i64 a0_0) ∧ w'.cell? ⟨gb101, 1, none⟩ = some (.int .i64 a0_1) ∧ w'.cell? ⟨gb101, 2, none⟩ = some (.slice (some ad104) l0_2.length c0_2)) (ds := []) (upTo 0 26) (by kernel_rfl) rfl rfl ⟨(kC BK105.out 0).trans rfl, (kC BK105.out 1).trans rfl, (kC BK105.out 2).trans rfl, (kC BK105.out 3).trans rfl, (kC BK101.out 0).trans rfl, (kC BK101.out 1).trans rfl, (kC BK101.out 2).trans rfl⟩ (fun hHeld => ?_); refine with_tabW spec_ChangeRight.tab7 spec_ChangeRight.bits7 (fun HT_ HW_ => ?_)
         generalize w19.drew = w20 at BK101 BK105 HB hHeld ⊢
         refine pT2 0 27 (upTo 1 26) ?_ hHeld
         refine one_ (i := 1) (N := some 28) (upTo 2 26) rfl rfl (one_of HT_.out (by kernel_rfl)) (by decide) (fun K hK => ?_)
         refine goes_ Try.func56 (by kernel_rfl) rfl #[.agg #[.int .i64 ((rd_T72 l0_2 x3_2).f0), .int .i64 ((rd_T72 l0_2 x3_2).f1), .string ((rd_T72 l0_2 x3_2).f2), .slice A104_3 ((rd_T72 l0_2 x3_2).f3).length c104_3]] (by rfl) rfl rfl (by (try simp only [mA, mB, mC]); first | done | rfl | (simp only [mD, mE]; rfl)) ?_
         with_reducible refine (spec_ProofRight.calls k2 ((rd_T72 l0_2 x3_2).f0) ((rd_T72 l0_2 x3_2).f1) ((rd_T72 l0_2 x3_2).f2) _ _ ((rd_T72 l0_2 x3_2).f3) true _ ?side1 ?side2 A12.out).mono ?_
         (case side1 => repeat (first | exact (cB HR104_3.out HB.out) | (with_reducible first | apply cA | apply cN | apply cD)))
         (case side2 => exact HC104_3.out)
         rintro e w21 ⟨rfl, hb⟩
         refine ⟨_, rfl, ?_⟩
         have _ := AM (nB BK101.out hb)
         have _ := AM (nB BK105.out hb)
         have _ := AM (below_step (bX HB.out) hb)
         clear BK101 BK105 HB
         rename_i BK101 BK105 HB
         (try clear hb)
         (try clear hk)
         refine hK.out _ _ ⟨(kC BK105.out 0).trans rfl, (kC BK105.out 1).trans rfl, (kC BK105.out 2).trans rfl, (kC BK105.out 3).trans rfl, (kC BK101.out 0).trans rfl, (kC BK101.out 1).trans rfl, (kC BK101.out 2).trans rfl⟩ (fun hHeld => ?_)
         clear hK K
         refine norm_ (a' := ?_) ?_ ?_
         rotate_left
         ·
          show Act.put _ (some 28) _ = _
          simp only [Act.put, sA, sB, sC, i64_w, i32_w]
          rfl
         refine pF 2 3 26 29 ?_
         refine pF 3 4 26 30 ?_
         refine pF 4 5 26 31 ?_
         refine pF2 6 33 spec_ChangeRight.b0 ?_
         refine pT2 5 32 (upTo 7 26) ?_ hHeld
         refine pT2 7 34 (upTo 8 26) ?_ hHeld
         refine pF 8 9 26 35 ?_
         refine pF 9 10 26 36 ?_
         refine pF 10 11 26 37 ?_
         refine pU 11 12 26 38 ?_
         refine pU 12 13 26 39 ?_
         refine pU 13 14 26 40 ?_
         refine pU 14 15 26 41 ?_
         refine pU 15 16 26 42 ?_
         refine pU 16 17 26 43 ?_
         refine pU 17 18 26 44 ?_
         refine pU 18 19 26 45 ?_
         refine pU 19 20 26 46 ?_
         refine pU 20 21 26 47 ?_
         refine pU 21 22 26 48 ?_
         refine pU 22 23 26 49 ?_
         refine pU 23 24 26 50 ?_
         refine pU 24 25 26 51 ?_
         refine pF 25 26 26 52 ?_
         refine done_ (done_of HT_.out (by kernel_rfl)) ?_
         try go_wp2
         go_ret
         exact ⟨by first | rfl | (simp [*, errW_none, errW_some] <;> rfl), bX HB.out⟩
        rw [if_neg c14] at H
        have c14b0 : decide (a0_1 ≤ ((rd_T72 l0_2 x3_2).f0)) = false := decide_eq_false c14
        clear c14
        by_cases c22 : x3_2 > 0
        ·
         rw [if_pos c22] at H
         have c22b0 : decide (0 < x3_2) = true := decide_eq_true c22
         clear c22
         obtain ⟨ji23, hji23⟩ : ∃ j_ : Int, (wrap64 (x3_2 - 1)) = j_ := ⟨_, rfl⟩
         replace H : (if 0 ≤ (ji23) then (if (ji23) < (l0_2.length : Int) then (if ((rd_T72 l0_2 (ji23)).f1) ≥ ((rd_T72 l0_2 x3_2).f1) then (some false) else (spec_ChangeRight.l0 k2 (wrap64 (x3_2 + 1)) a0_0 a0_1 l0_2)) else (none)) else (none)) = some r := by first | (rw [hji23] at H; exact H) | (simp only [hji23] at H ⊢; exact H)
         (try rw [hji23] at A12)
         have hji23w : (IntKind.i64.wrap (x3_2 - 1)) = ji23 := (i64_w _).trans hji23
         by_cases c24 : 0 ≤ (ji23)
         ·
          rw [if_pos c24] at H
          have c24b0 : decide (0 ≤ (ji23)) = true := decide_eq_true c24
          clear c24
          by_cases c25 : (ji23) < (l0_2.length : Int)
          ·
           rw [if_pos c25] at H
           have c25b0 : decide ((ji23) < (l0_2.length : Int)) = true := decide_eq_true c25
           clear c25
           by_cases c26 : ((rd_T72 l0_2 (ji23)).f1) ≥ ((rd_T72 l0_2 x3_2).f1)
           ·
            rw [if_pos c26] at H
            have c26b0 : decide (((rd_T72 l0_2 x3_2).f1) ≤ ((rd_T72 l0_2 (ji23)).f1)) = true := decide_eq_true c26
            clear c26
            obtain rfl := Option.some.inj H
            have hcz27 := q3 BK101.out
            have hfz27 := fZ BK101.out
            have p104 : 0 ≤ (x3_2 : Int) := of_decide_eq_true (by assumption)
            have q104 : x3_2 < (l0_2.length : Int) := of_decide_eq_true (by assumption)
            obtain ⟨ad104, A104_3, c104_3, e104, hx104_0, hx104_1, hx104_2, hx104_3, hl104_3, hi104_3⟩ := at_T72 HR0_2.out x3_2 p104 q104
            cases e104
            replace hx104_0 := pw_cell_below HB.out hx104_0
            replace hx104_1 := pw_cell_below HB.out hx104_1
            replace hx104_2 := pw_cell_below HB.out hx104_2
            replace hx104_3 := pw_cell_below HB.out hx104_3
            have HR104_3 := AM hi104_3
            have HC104_3 := AM hl104_3
            clear hi104_3 hl104_3
            replace p104 := eq_true p104
            replace q104 := eq_true q104
            try go_wp2_with (first | ((with_reducible refine gate_dst (N := 4) rfl ?_); refine box_event (by rfl) (N := 4) (by rfl) (cs := #[.int .i64 0, .int .i64 0, .string (⟨#[]⟩ : ByteArray), .slice none 0 0]) (t := 72) (by first | (go_simp; done) | (go_simp; rfl)) ?_; intro gb105 hg w28 hbox hb; have _ := AM (nB BK101.out hb); have _ := AM (below_step (bX HB.out) hb); have _ := AM (hbox); have n3_ := AM ((by rw [hg]; exact (bZ (bX HB.out)) : w.heap.size ≤ gb105)); have _ := AM (lX hg BK101.out); have _ := AM (lX hg BK101.out).symm; clear BK101 HB; rename_i BK101 HB BK105 NB101_105 NB105_101; have GW105 := n3_; have GE105 := n3_; clear n3_; clear hb hbox hg; have hnb29 := NB105_101.out; have hnc29 := NB101_105.out; have hcz30 := q4 BK105.out; have hfz30 := fZ BK105.out))
            have n0_ : Aside0 (((((w28.setCell ⟨gb105, 0, none⟩ (.int .i64 ((rd_T72 l0_2 x3_2).f0))).setCell ⟨gb105, 1, none⟩ (.int .i64 ((rd_T72 l0_2 x3_2).f1))).setCell ⟨gb105, 2, none⟩ (.string ((rd_T72 l0_2 x3_2).f2))).setCell ⟨gb105, 3, none⟩ (.slice A104_3 ((rd_T72 l0_2 x3_2).f3).length c104_3)).heap[gb101]? = some (.cells #[.int .i64 a0_0, .int .i64 a0_1, .slice (some ad104) l0_2.length c0_2] 26 (0, 0))) := ⟨by (iterate 4 refine kF NB101_105.out ?_); (with_reducible repeat (first | apply kN | apply kD | apply kA)); exact BK101.out⟩
            have n1_ : Aside0 (((((w28.setCell ⟨gb105, 0, none⟩ (.int .i64 ((rd_T72 l0_2 x3_2).f0))).setCell ⟨gb105, 1, none⟩ (.int .i64 ((rd_T72 l0_2 x3_2).f1))).setCell ⟨gb105, 2, none⟩ (.string ((rd_T72 l0_2 x3_2).f2))).setCell ⟨gb105, 3, none⟩ (.slice A104_3 ((rd_T72 l0_2 x3_2).f3).length c104_3)).heap[gb105]? = some (.cells #[.int .i64 ((rd_T72 l0_2 x3_2).f0), .int .i64 ((rd_T72 l0_2 x3_2).f1), .string ((rd_T72 l0_2 x3_2).f2), .slice A104_3 ((rd_T72 l0_2 x3_2).f3).length c104_3] 72 (0, 0))) := ⟨by refine kP (cs := #[.int .i64 ((rd_T72 l0_2 x3_2).f0), .int .i64 ((rd_T72 l0_2 x3_2).f1), .string ((rd_T72 l0_2 x3_2).f2), .slice none 0 0]) 3 ?_; refine kP (cs := #[.int .i64 ((rd_T72 l0_2 x3_2).f0), .int .i64 ((rd_T72 l0_2 x3_2).f1), .string (⟨#[]⟩ : ByteArray), .slice none 0 0]) 2 ?_; refine kP (cs := #[.int .i64 ((rd_T72 l0_2 x3_2).f0), .int .i64 0, .string (⟨#[]⟩ : ByteArray), .slice none 0 0]) 1 ?_; refine kP (cs := #[.int .i64 0, .int .i64 0, .string (⟨#[]⟩ : ByteArray), .slice none 0 0]) 0 ?_; (with_reducible repeat (first | apply kN | apply kD | apply kA)); exact BK105.out⟩
            have n2_ : Aside0 (Below w.heap.size w ((((w28.setCell ⟨gb105, 0, none⟩ (.int .i64 ((rd_T72 l0_2 x3_2).f0))).setCell ⟨gb105, 1, none⟩ (.int .i64 ((rd_T72 l0_2 x3_2).f1))).setCell ⟨gb105, 2, none⟩ (.string ((rd_T72 l0_2 x3_2).f2))).setCell ⟨gb105, 3, none⟩ (.slice A104_3 ((rd_T72 l0_2 x3_2).f3).length c104_3))) := ⟨bX HB.out⟩
            (try clear BK101)
            (try clear BK105)
            (try clear HB)
            generalize ((((w28.setCell ⟨gb105, 0, none⟩ (.int .i64 ((rd_T72 l0_2 x3_2).f0))).setCell ⟨gb105, 1, none⟩ (.int .i64 ((rd_T72 l0_2 x3_2).f1))).setCell ⟨gb105, 2, none⟩ (.string ((rd_T72 l0_2 x3_2).f2))).setCell ⟨gb105, 3, none⟩ (.slice A104_3 ((rd_T72 l0_2 x3_2).f3).length c104_3)) = w31 at n0_ n1_ n2_ ⊢
            have BK101 := n0_
            have BK105 := n1_
            have HB := n2_
            clear n0_ n1_ n2_
            have _ := AM (kD BK101.out)
            have _ := AM (kD BK105.out)
            have _ := AM (bD HB.out)
            clear BK101 BK105 HB
            rename_i BK101 BK105 HB
            have p107 : 0 ≤ ((ji23) : Int) := of_decide_eq_true (by assumption)
            have q107 : (ji23) < (l0_2.length : Int) := of_decide_eq_true (by assumption)
            obtain ⟨ad107, A107_3, c107_3, e107, hx107_0, hx107_1, hx107_2, hx107_3, hl107_3, hi107_3⟩ := at_T72 HR0_2.out (ji23) p107 q107
            have hw107_3 := hx107_3
            have hw107_2 := hx107_2
            have hw107_1 := hx107_1
            have hw107_0 := hx107_0
            obtain rfl : ad104 = ad107 := (by injection e107)
            replace hx107_0 := pw_cell_below HB.out hx107_0
            replace hx107_1 := pw_cell_below HB.out hx107_1
            replace hx107_2 := pw_cell_below HB.out hx107_2
            replace hx107_3 := pw_cell_below HB.out hx107_3
            have HR107_3 := AM hi107_3
            have HC107_3 := AM hl107_3
            clear hi107_3 hl107_3
            replace p107 := eq_true p107
            replace q107 := eq_true q107
            refine start_ (n := 26) (S := fun w' => w'.cell? ⟨gb105, 0, none⟩ = some (.int .i64 ((rd_T72 l0_2 x3_2).f0)) ∧ w'.cell? ⟨gb105, 1, none⟩ = some (.int .i64 ((rd_T72 l0_2 x3_2).f1)) ∧ w'.cell? ⟨gb105, 2, none⟩ = some (.string ((rd_T72 l0_2 x3_2).f2)) ∧ w'.cell? ⟨gb105, 3, none⟩ = some (.slice A104_3 ((rd_T72 l0_2 x3_2).f3).length c104_3) ∧ w'.cell? ⟨gb101, 0, none⟩ = some (.int .i64 a0_0) ∧ w'.cell? ⟨gb101, 1, none⟩ = some (.int .i64 a0_1) ∧ w'.cell? ⟨gb101, 2, none⟩ = some (.slice (some ad104) l0_2.length c0_2) ∧ w'.cell? (ad104.add (((ji23)).toNat * 4)) = some (.int .i64 ((rd_T72 l0_2 (ji23)).f0)) ∧ w'.cell? ⟨(ad104.add (((ji23)).toNat * 4)).block, (ad104.add (((ji23)).toNat * 4)).off + 1, none⟩ = some (.int .i64 ((rd_T72 l0_2 (ji23)).f1)) ∧ w'.cell? ⟨(ad104.add (((ji23)).toNat * 4)).block, (ad104.add (((ji23)).toNat * 4)).off + 2, none⟩ = some (.string ((rd_T72 l0_2 (ji23)).f2)) ∧ w'.cell? ⟨(ad104.add (((ji23)).toNat * 4)).block, (ad104.add (((ji23)).toNat * 4)).off + 3, none⟩ = some (.slice A107_3 ((rd_T72 l0_2 (ji23)).f3).length c107_3)) (ds := []) (upTo 0 26) (by kernel_rfl) rfl rfl ⟨(kC BK105.out 0).trans rfl, (kC BK105.out 1).trans rfl, (kC BK105.out 2).trans rfl, (kC BK105.out 3).trans rfl, (kC BK101.out 0).trans rfl, (kC BK101.out 1).trans rfl, (kC BK101.out 2).trans rfl, (pw_cell_below HB.out hw107_0), (pw_cell_below HB.out hw107_1), (pw_cell_below HB.out hw107_2), (pw_cell_below HB.out hw107_3)⟩ (fun hHeld => ?_); refine with_tabW spec_ChangeRight.tab7 spec_ChangeRight.bits7 (fun HT_ HW_ => ?_)
            generalize w31.drew = w32 at BK101 BK105 HB HR107_3 hx107_0 hx107_1 hx107_2 hx107_3 hHeld ⊢
            refine pT2 0 27 (upTo 1 26) ?_ hHeld
            refine one_ (i := 1) (N := some 28) (upTo 2 26) rfl rfl (one_of HT_.out (by kernel_rfl)) (by decide) (fun K hK => ?_)
            refine goes_ Try.func56 (by kernel_rfl) rfl #[.agg #[.int .i64 ((rd_T72 l0_2 x3_2).f0), .int .i64 ((rd_T72 l0_2 x3_2).f1), .string ((rd_T72 l0_2 x3_2).f2), .slice A104_3 ((rd_T72 l0_2 x3_2).f3).length c104_3]] (by rfl) rfl rfl (by (try simp only [mA, mB, mC]); first | done | rfl | (simp only [mD, mE]; rfl)) ?_
            with_reducible refine (spec_ProofRight.calls k2 ((rd_T72 l0_2 x3_2).f0) ((rd_T72 l0_2 x3_2).f1) ((rd_T72 l0_2 x3_2).f2) _ _ ((rd_T72 l0_2 x3_2).f3) true _ ?side1 ?side2 A12.out).mono ?_
            (case side1 => repeat (first | exact (cB HR104_3.out HB.out) | (with_reducible first | apply cA | apply cN | apply cD)))
            (case side2 => exact HC104_3.out)
            rintro e w33 ⟨rfl, hb⟩
            refine ⟨_, rfl, ?_⟩
            have _ := AM (nB BK101.out hb)
            have _ := AM (nB BK105.out hb)
            have _ := AM (below_step (bX HB.out) hb)
            clear BK101 BK105 HB
            rename_i BK101 BK105 HB
            (try clear hb)
            (try clear hk)
            refine hK.out _ _ ⟨(kC BK105.out 0).trans rfl, (kC BK105.out 1).trans rfl, (kC BK105.out 2).trans rfl, (kC BK105.out 3).trans rfl, (kC BK101.out 0).trans rfl, (kC BK101.out 1).trans rfl, (kC BK101.out 2).trans rfl, (pw_cell_below HB.out hw107_0), (pw_cell_below HB.out hw107_1), (pw_cell_below HB.out hw107_2), (pw_cell_below HB.out hw107_3)⟩ (fun hHeld => ?_)
            clear hK K
            refine norm_ (a' := ?_) ?_ ?_
            rotate_left
            ·
             show Act.put _ (some 28) _ = _
             simp only [Act.put, sA, sB, sC, i64_w, i32_w]
             rfl
            refine pF 2 3 26 29 ?_
            refine pF 3 4 26 30 ?_
            refine pF 4 5 26 31 ?_
            refine pF2 6 33 spec_ChangeRight.b0 ?_
            refine pT2 5 32 (upTo 7 26) ?_ hHeld
            refine pT2 7 34 (upTo 8 26) ?_ hHeld
            refine pF 8 9 26 35 ?_
            refine pF 9 10 26 36 ?_
            refine pF 10 11 26 37 ?_
            refine pF 11 12 26 38 ?_
            refine pF 12 13 26 39 ?_
            refine pF 13 14 26 40 ?_
            refine pF 14 15 26 41 ?_
            refine pF2 16 43 spec_ChangeRight.b1 ?_
            refine pF2 17 44 spec_ChangeRight.b2 ?_
            refine pF2 21 48 spec_ChangeRight.b3 ?_
            refine pT2 15 42 spec_ChangeRight.b4 ?_ hHeld
            refine pF2 18 45 spec_ChangeRight.b5 ?_
            refine pF2 19 46 spec_ChangeRight.b6 ?_
            refine pT2 20 47 (upTo 22 26) ?_ hHeld
            refine pT2 22 49 (upTo 23 26) ?_ hHeld
            refine pF 23 24 26 50 ?_
            refine pF 24 25 26 51 ?_
            refine pF 25 26 26 52 ?_
            refine done_ (done_of HT_.out (by kernel_rfl)) ?_
            try go_wp2
            go_ret
            exact ⟨by first | rfl | (simp [errW_none, errW_some] <;> rfl) | (simp only [← hji23]; first | rfl | (simp [errW_none, errW_some] <;> rfl)) | (simp [*, errW_none, errW_some] <;> rfl), bX HB.out⟩
           rw [if_neg c26] at H
           have c26b0 : decide (((rd_T72 l0_2 x3_2).f1) ≤ ((rd_T72 l0_2 (ji23)).f1)) = false := decide_eq_false c26
           clear c26
           have H' := AM H
           clear H
           have hcz34 := q3 BK101.out
           have hfz34 := fZ BK101.out
           have p104 : 0 ≤ (x3_2 : Int) := of_decide_eq_true (by assumption)
           have q104 : x3_2 < (l0_2.length : Int) := of_decide_eq_true (by assumption)
           obtain ⟨ad104, A104_3, c104_3, e104, hx104_0, hx104_1, hx104_2, hx104_3, hl104_3, hi104_3⟩ := at_T72 HR0_2.out x3_2 p104 q104
           cases e104
           replace hx104_0 := pw_cell_below HB.out hx104_0
           replace hx104_1 := pw_cell_below HB.out hx104_1
           replace hx104_2 := pw_cell_below HB.out hx104_2
           replace hx104_3 := pw_cell_below HB.out hx104_3
           have HR104_3 := AM hi104_3
           have HC104_3 := AM hl104_3
           clear hi104_3 hl104_3
           replace p104 := eq_true p104
           replace q104 := eq_true q104
           try go_wp2_with (first | ((with_reducible refine gate_dst (N := 4) rfl ?_); refine box_event (by rfl) (N := 4) (by rfl) (cs := #[.int .i64 0, .int .i64 0, .string (⟨#[]⟩ : ByteArray), .slice none 0 0]) (t := 72) (by first | (go_simp; done) | (go_simp; rfl)) ?_; intro gb105 hg w35 hbox hb; have _ := AM (nB BK101.out hb); have _ := AM (below_step (bX HB.out) hb); have _ := AM (hbox); have n3_ := AM ((by rw [hg]; exact (bZ (bX HB.out)) : w.heap.size ≤ gb105)); have _ := AM (lX hg BK101.out); have _ := AM (lX hg BK101.out).symm; clear BK101 HB; rename_i BK101 HB BK105 NB101_105 NB105_101; have GW105 := n3_; have GE105 := n3_; clear n3_; clear hb hbox hg; have hnb36 := NB105_101.out; have hnc36 := NB101_105.out; have hcz37 := q4 BK105.out; have hfz37 := fZ BK105.out))
           have n0_ : Aside0 (((((w35.setCell ⟨gb105, 0, none⟩ (.int .i64 ((rd_T72 l0_2 x3_2).f0))).setCell ⟨gb105, 1, none⟩ (.int .i64 ((rd_T72 l0_2 x3_2).f1))).setCell ⟨gb105, 2, none⟩ (.string ((rd_T72 l0_2 x3_2).f2))).setCell ⟨gb105, 3, none⟩ (.slice A104_3 ((rd_T72 l0_2 x3_2).f3).length c104_3)).heap[gb101]? = some (.cells #[.int .i64 a0_0, .int .i64 a0_1, .slice (some ad104) l0_2.length c0_2] 26 (0, 0))) := ⟨by (iterate 4 refine kF NB101_105.out ?_); (with_reducible repeat (first | apply kN | apply kD | apply kA)); exact BK101.out⟩
           have n1_ : Aside0 (((((w35.setCell ⟨gb105, 0, none⟩ (.int .i64 ((rd_T72 l0_2 x3_2).f0))).setCell ⟨gb105, 1, none⟩ (.int .i64 ((rd_T72 l0_2 x3_2).f1))).setCell ⟨gb105, 2, none⟩ (.string ((rd_T72 l0_2 x3_2).f2))).setCell ⟨gb105, 3, none⟩ (.slice A104_3 ((rd_T72 l0_2 x3_2).f3).length c104_3)).heap[gb105]? = some (.cells #[.int .i64 ((rd_T72 l0_2 x3_2).f0), .int .i64 ((rd_T72 l0_2 x3_2).f1), .string ((rd_T72 l0_2 x3_2).f2), .slice A104_3 ((rd_T72 l0_2 x3_2).f3).length c104_3] 72 (0, 0))) := ⟨by refine kP (cs := #[.int .i64 ((rd_T72 l0_2 x3_2).f0), .int .i64 ((rd_T72 l0_2 x3_2).f1), .string ((rd_T72 l0_2 x3_2).f2), .slice none 0 0]) 3 ?_; refine kP (cs := #[.int .i64 ((rd_T72 l0_2 x3_2).f0), .int .i64 ((rd_T72 l0_2 x3_2).f1), .string (⟨#[]⟩ : ByteArray), .slice none 0 0]) 2 ?_; refine kP (cs := #[.int .i64 ((rd_T72 l0_2 x3_2).f0), .int .i64 0, .string (⟨#[]⟩ : ByteArray), .slice none 0 0]) 1 ?_; refine kP (cs := #[.int .i64 0, .int .i64 0, .string (⟨#[]⟩ : ByteArray), .slice none 0 0]) 0 ?_; (with_reducible repeat (first | apply kN | apply kD | apply kA)); exact BK105.out⟩
           have n2_ : Aside0 (Below w.heap.size w ((((w35.setCell ⟨gb105, 0, none⟩ (.int .i64 ((rd_T72 l0_2 x3_2).f0))).setCell ⟨gb105, 1, none⟩ (.int .i64 ((rd_T72 l0_2 x3_2).f1))).setCell ⟨gb105, 2, none⟩ (.string ((rd_T72 l0_2 x3_2).f2))).setCell ⟨gb105, 3, none⟩ (.slice A104_3 ((rd_T72 l0_2 x3_2).f3).length c104_3))) := ⟨bX HB.out⟩
           (try clear BK101)
           (try clear BK105)
           (try clear HB)
           generalize ((((w35.setCell ⟨gb105, 0, none⟩ (.int .i64 ((rd_T72 l0_2 x3_2).f0))).setCell ⟨gb105, 1, none⟩ (.int .i64 ((rd_T72 l0_2 x3_2).f1))).setCell ⟨gb105, 2, none⟩ (.string ((rd_T72 l0_2 x3_2).f2))).setCell ⟨gb105, 3, none⟩ (.slice A104_3 ((rd_T72 l0_2 x3_2).f3).length c104_3)) = w38 at n0_ n1_ n2_ ⊢
           have BK101 := n0_
           have BK105 := n1_
           have HB := n2_
           clear n0_ n1_ n2_
           have _ := AM (kD BK101.out)
           have _ := AM (kD BK105.out)
           have _ := AM (bD HB.out)
           clear BK101 BK105 HB
           rename_i BK101 BK105 HB
           have p107 : 0 ≤ ((ji23) : Int) := of_decide_eq_true (by assumption)
           have q107 : (ji23) < (l0_2.length : Int) := of_decide_eq_true (by assumption)
           obtain ⟨ad107, A107_3, c107_3, e107, hx107_0, hx107_1, hx107_2, hx107_3, hl107_3, hi107_3⟩ := at_T72 HR0_2.out (ji23) p107 q107
           have hw107_3 := hx107_3
           have hw107_2 := hx107_2
           have hw107_1 := hx107_1
           have hw107_0 := hx107_0
           obtain rfl : ad104 = ad107 := (by injection e107)
           replace hx107_0 := pw_cell_below HB.out hx107_0
           replace hx107_1 := pw_cell_below HB.out hx107_1
           replace hx107_2 := pw_cell_below HB.out hx107_2
           replace hx107_3 := pw_cell_below HB.out hx107_3
           have HR107_3 := AM hi107_3
           have HC107_3 := AM hl107_3
           clear hi107_3 hl107_3
           replace p107 := eq_true p107
           replace q107 := eq_true q107
           refine start_ (n := 26) (S := fun w' => w'.cell? ⟨gb105, 0, none⟩ = some (.int .i64 ((rd_T72 l0_2 x3_2).f0)) ∧ w'.cell? ⟨gb105, 1, none⟩ = some (.int .i64 ((rd_T72 l0_2 x3_2).f1)) ∧ w'.cell? ⟨gb105, 2, none⟩ = some (.string ((rd_T72 l0_2 x3_2).f2)) ∧ w'.cell? ⟨gb105, 3, none⟩ = some (.slice A104_3 ((rd_T72 l0_2 x3_2).f3).length c104_3) ∧ w'.cell? ⟨gb101, 0, none⟩ = some (.int .i64 a0_0) ∧ w'.cell? ⟨gb101, 1, none⟩ = some (.int .i64 a0_1) ∧ w'.cell? ⟨gb101, 2, none⟩ = some (.slice (some ad104) l0_2.length c0_2) ∧ w'.cell? (ad104.add (((ji23)).toNat * 4)) = some (.int .i64 ((rd_T72 l0_2 (ji23)).f0)) ∧ w'.cell? ⟨(ad104.add (((ji23)).toNat * 4)).block, (ad104.add (((ji23)).toNat * 4)).off + 1, none⟩ = some (.int .i64 ((rd_T72 l0_2 (ji23)).f1)) ∧ w'.cell? ⟨(ad104.add (((ji23)).toNat * 4)).block, (ad104.add (((ji23)).toNat * 4)).off + 2, none⟩ = some (.string ((rd_T72 l0_2 (ji23)).f2)) ∧ w'.cell? ⟨(ad104.add (((ji23)).toNat * 4)).block, (ad104.add (((ji23)).toNat * 4)).off + 3, none⟩ = some (.slice A107_3 ((rd_T72 l0_2 (ji23)).f3).length c107_3)) (ds := []) (upTo 0 26) (by kernel_rfl) rfl rfl ⟨(kC BK105.out 0).trans rfl, (kC BK105.out 1).trans rfl, (kC BK105.out 2).trans rfl, (kC BK105.out 3).trans rfl, (kC BK101.out 0).trans rfl, (kC BK101.out 1).trans rfl, (kC BK101.out 2).trans rfl, (pw_cell_below HB.out hw107_0), (pw_cell_below HB.out hw107_1), (pw_cell_below HB.out hw107_2), (pw_cell_below HB.out hw107_3)⟩ (fun hHeld => ?_); refine with_tabW spec_ChangeRight.tab7 spec_ChangeRight.bits7 (fun HT_ HW_ => ?_)
           generalize w38.drew = w39 at BK101 BK105 HB HR107_3 hx107_0 hx107_1 hx107_2 hx107_3 hHeld ⊢
           refine pT2 0 27 (upTo 1 26) ?_ hHeld
           refine one_ (i := 1) (N := some 28) (upTo 2 26) rfl rfl (one_of HT_.out (by kernel_rfl)) (by decide) (fun K hK => ?_)
           refine goes_ Try.func56 (by kernel_rfl) rfl #[.agg #[.int .i64 ((rd_T72 l0_2 x3_2).f0), .int .i64 ((rd_T72 l0_2 x3_2).f1), .string ((rd_T72 l0_2 x3_2).f2), .slice A104_3 ((rd_T72 l0_2 x3_2).f3).length c104_3]] (by rfl) rfl rfl (by (try simp only [mA, mB, mC]); first | done | rfl | (simp only [mD, mE]; rfl)) ?_
           with_reducible refine (spec_ProofRight.calls k2 ((rd_T72 l0_2 x3_2).f0) ((rd_T72 l0_2 x3_2).f1) ((rd_T72 l0_2 x3_2).f2) _ _ ((rd_T72 l0_2 x3_2).f3) true _ ?side1 ?side2 A12.out).mono ?_
           (case side1 => repeat (first | exact (cB HR104_3.out HB.out) | (with_reducible first | apply cA | apply cN | apply cD)))
           (case side2 => exact HC104_3.out)
           rintro e w40 ⟨rfl, hb⟩
           refine ⟨_, rfl, ?_⟩
           have _ := AM (nB BK101.out hb)
           have _ := AM (nB BK105.out hb)
           have _ := AM (below_step (bX HB.out) hb)
           clear BK101 BK105 HB
           rename_i BK101 BK105 HB
           (try clear hb)
           (try clear hk)
           refine hK.out _ _ ⟨(kC BK105.out 0).trans rfl, (kC BK105.out 1).trans rfl, (kC BK105.out 2).trans rfl, (kC BK105.out 3).trans rfl, (kC BK101.out 0).trans rfl, (kC BK101.out 1).trans rfl, (kC BK101.out 2).trans rfl, (pw_cell_below HB.out hw107_0), (pw_cell_below HB.out hw107_1), (pw_cell_below HB.out hw107_2), (pw_cell_below HB.out hw107_3)⟩ (fun hHeld => ?_)
           clear hK K
           refine norm_ (a' := ?_) ?_ ?_
           rotate_left
           ·
            show Act.put _ (some 28) _ = _
            simp only [Act.put, sA, sB, sC, i64_w, i32_w]
            rfl
           refine pF 2 3 26 29 ?_
           refine pF 3 4 26 30 ?_
           refine pF 4 5 26 31 ?_
           refine pF2 6 33 spec_ChangeRight.b0 ?_
           refine pT2 5 32 (upTo 7 26) ?_ hHeld
           refine pT2 7 34 (upTo 8 26) ?_ hHeld
           refine pF 8 9 26 35 ?_
           refine pF 9 10 26 36 ?_
           refine pF 10 11 26 37 ?_
           refine pF 11 12 26 38 ?_
           refine pF 12 13 26 39 ?_
           refine pF 13 14 26 40 ?_
           refine pF 14 15 26 41 ?_
           refine pF2 16 43 spec_ChangeRight.b1 ?_
           refine pF2 17 44 spec_ChangeRight.b2 ?_
           refine pF2 21 48 spec_ChangeRight.b3 ?_
           refine pT2 15 42 spec_ChangeRight.b4 ?_ hHeld
           refine pF2 18 45 spec_ChangeRight.b5 ?_
           refine pF2 19 46 spec_ChangeRight.b6 ?_
           refine pT2 20 47 (upTo 22 26) ?_ hHeld
           refine pT2 22 49 (upTo 23 26) ?_ hHeld
           refine pF 23 24 26 50 ?_
           refine pF 24 25 26 51 ?_
           refine pF 25 26 26 52 ?_
           refine done_ (done_of HT_.out (by kernel_rfl)) ?_
           try go_wp2
           go_roundg k2
           case measure => have := HJ1.out; have := HK2.out; omega
           case rel => exact ⟨(wrap64 (x3_2 + 1)), (by first | rfl | (simp; done) | (simp [*]; done)), H', ⟨by have := HJ1.out; have := HK2.out; omega⟩, ⟨kX BK101.out⟩, ⟨bX HB.out⟩⟩
          rw [if_neg c25] at H
          exact absurd H (by simp)
         rw [if_neg c24] at H
         exact absurd H (by simp)
        rw [if_neg c22] at H
        have c22b0 : decide (0 < x3_2) = false := decide_eq_false c22
        clear c22
        have H' := AM H
        clear H
        have hcz41 := q3 BK101.out
        have hfz41 := fZ BK101.out
        have p104 : 0 ≤ (x3_2 : Int) := of_decide_eq_true (by assumption)
        have q104 : x3_2 < (l0_2.length : Int) := of_decide_eq_true (by assumption)
        obtain ⟨ad104, A104_3, c104_3, e104, hx104_0, hx104_1, hx104_2, hx104_3, hl104_3, hi104_3⟩ := at_T72 HR0_2.out x3_2 p104 q104
        cases e104
        replace hx104_0 := pw_cell_below HB.out hx104_0
        replace hx104_1 := pw_cell_below HB.out hx104_1
        replace hx104_2 := pw_cell_below HB.out hx104_2
        replace hx104_3 := pw_cell_below HB.out hx104_3
        have HR104_3 := AM hi104_3
        have HC104_3 := AM hl104_3
        clear hi104_3 hl104_3
        replace p104 := eq_true p104
        replace q104 := eq_true q104
        try go_wp2_with (first | ((with_reducible refine gate_dst (N := 4) rfl ?_); refine box_event (by rfl) (N := 4) (by rfl) (cs := #[.int .i64 0, .int .i64 0, .string (⟨#[]⟩ : ByteArray), .slice none 0 0]) (t := 72) (by first | (go_simp; done) | (go_simp; rfl)) ?_; intro gb105 hg w42 hbox hb; have _ := AM (nB BK101.out hb); have _ := AM (below_step (bX HB.out) hb); have _ := AM (hbox); have n3_ := AM ((by rw [hg]; exact (bZ (bX HB.out)) : w.heap.size ≤ gb105)); have _ := AM (lX hg BK101.out); have _ := AM (lX hg BK101.out).symm; clear BK101 HB; rename_i BK101 HB BK105 NB101_105 NB105_101; have GW105 := n3_; have GE105 := n3_; clear n3_; clear hb hbox hg; have hnb43 := NB105_101.out; have hnc43 := NB101_105.out; have hcz44 := q4 BK105.out; have hfz44 := fZ BK105.out))
        have n0_ : Aside0 (((((w42.setCell ⟨gb105, 0, none⟩ (.int .i64 ((rd_T72 l0_2 x3_2).f0))).setCell ⟨gb105, 1, none⟩ (.int .i64 ((rd_T72 l0_2 x3_2).f1))).setCell ⟨gb105, 2, none⟩ (.string ((rd_T72 l0_2 x3_2).f2))).setCell ⟨gb105, 3, none⟩ (.slice A104_3 ((rd_T72 l0_2 x3_2).f3).length c104_3)).heap[gb101]? = some (.cells #[.int .i64 a0_0, .int .i64 a0_1, .slice (some ad104) l0_2.length c0_2] 26 (0, 0))) := ⟨by (iterate 4 refine kF NB101_105.out ?_); (with_reducible repeat (first | apply kN | apply kD | apply kA)); exact BK101.out⟩
        have n1_ : Aside0 (((((w42.setCell ⟨gb105, 0, none⟩ (.int .i64 ((rd_T72 l0_2 x3_2).f0))).setCell ⟨gb105, 1, none⟩ (.int .i64 ((rd_T72 l0_2 x3_2).f1))).setCell ⟨gb105, 2, none⟩ (.string ((rd_T72 l0_2 x3_2).f2))).setCell ⟨gb105, 3, none⟩ (.slice A104_3 ((rd_T72 l0_2 x3_2).f3).length c104_3)).heap[gb105]? = some (.cells #[.int .i64 ((rd_T72 l0_2 x3_2).f0), .int .i64 ((rd_T72 l0_2 x3_2).f1), .string ((rd_T72 l0_2 x3_2).f2), .slice A104_3 ((rd_T72 l0_2 x3_2).f3).length c104_3] 72 (0, 0))) := ⟨by refine kP (cs := #[.int .i64 ((rd_T72 l0_2 x3_2).f0), .int .i64 ((rd_T72 l0_2 x3_2).f1), .string ((rd_T72 l0_2 x3_2).f2), .slice none 0 0]) 3 ?_; refine kP (cs := #[.int .i64 ((rd_T72 l0_2 x3_2).f0), .int .i64 ((rd_T72 l0_2 x3_2).f1), .string (⟨#[]⟩ : ByteArray), .slice none 0 0]) 2 ?_; refine kP (cs := #[.int .i64 ((rd_T72 l0_2 x3_2).f0), .int .i64 0, .string (⟨#[]⟩ : ByteArray), .slice none 0 0]) 1 ?_; refine kP (cs := #[.int .i64 0, .int .i64 0, .string (⟨#[]⟩ : ByteArray), .slice none 0 0]) 0 ?_; (with_reducible repeat (first | apply kN | apply kD | apply kA)); exact BK105.out⟩
        have n2_ : Aside0 (Below w.heap.size w ((((w42.setCell ⟨gb105, 0, none⟩ (.int .i64 ((rd_T72 l0_2 x3_2).f0))).setCell ⟨gb105, 1, none⟩ (.int .i64 ((rd_T72 l0_2 x3_2).f1))).setCell ⟨gb105, 2, none⟩ (.string ((rd_T72 l0_2 x3_2).f2))).setCell ⟨gb105, 3, none⟩ (.slice A104_3 ((rd_T72 l0_2 x3_2).f3).length c104_3))) := ⟨bX HB.out⟩
        (try clear BK101)
        (try clear BK105)
        (try clear HB)
        generalize ((((w42.setCell ⟨gb105, 0, none⟩ (.int .i64 ((rd_T72 l0_2 x3_2).f0))).setCell ⟨gb105, 1, none⟩ (.int .i64 ((rd_T72 l0_2 x3_2).f1))).setCell ⟨gb105, 2, none⟩ (.string ((rd_T72 l0_2 x3_2).f2))).setCell ⟨gb105, 3, none⟩ (.slice A104_3 ((rd_T72 l0_2 x3_2).f3).length c104_3)) = w45 at n0_ n1_ n2_ ⊢
        have BK101 := n0_
        have BK105 := n1_
        have HB := n2_
        clear n0_ n1_ n2_
        have _ := AM (kD BK101.out)
        have _ := AM (kD BK105.out)
        have _ := AM (bD HB.out)
        clear BK101 BK105 HB
        rename_i BK101 BK105 HB
        refine start_ (n := 26) (S := fun w' => w'.cell? ⟨gb105, 0, none⟩ = some (.int .i64 ((rd_T72 l0_2 x3_2).f0)) ∧ w'.cell? ⟨gb105, 1, none⟩ = some (.int .i64 ((rd_T72 l0_2 x3_2).f1)) ∧ w'.cell? ⟨gb105, 2, none⟩ = some (.string ((rd_T72 l0_2 x3_2).f2)) ∧ w'.cell? ⟨gb105, 3, none⟩ = some (.slice A104_3 ((rd_T72 l0_2 x3_2).f3).length c104_3) ∧ w'.cell? ⟨gb101, 0, none⟩ = some (.int .i64 a0_0) ∧ w'.cell? ⟨gb101, 1, none⟩ = some (.int .i64 a0_1) ∧ w'.cell? ⟨gb101, 2, none⟩ = some (.slice (some ad104) l0_2.length c0_2)) (ds := []) (upTo 0 26) (by kernel_rfl) rfl rfl ⟨(kC BK105.out 0).trans rfl, (kC BK105.out 1).trans rfl, (kC BK105.out 2).trans rfl, (kC BK105.out 3).trans rfl, (kC BK101.out 0).trans rfl, (kC BK101.out 1).trans rfl, (kC BK101.out 2).trans rfl⟩ (fun hHeld => ?_); refine with_tabW spec_ChangeRight.tab7 spec_ChangeRight.bits7 (fun HT_ HW_ => ?_)
        generalize w45.drew = w46 at BK101 BK105 HB hHeld ⊢
        refine pT2 0 27 (upTo 1 26) ?_ hHeld
        refine one_ (i := 1) (N := some 28) (upTo 2 26) rfl rfl (one_of HT_.out (by kernel_rfl)) (by decide) (fun K hK => ?_)
        refine goes_ Try.func56 (by kernel_rfl) rfl #[.agg #[.int .i64 ((rd_T72 l0_2 x3_2).f0), .int .i64 ((rd_T72 l0_2 x3_2).f1), .string ((rd_T72 l0_2 x3_2).f2), .slice A104_3 ((rd_T72 l0_2 x3_2).f3).length c104_3]] (by rfl) rfl rfl (by (try simp only [mA, mB, mC]); first | done | rfl | (simp only [mD, mE]; rfl)) ?_
        with_reducible refine (spec_ProofRight.calls k2 ((rd_T72 l0_2 x3_2).f0) ((rd_T72 l0_2 x3_2).f1) ((rd_T72 l0_2 x3_2).f2) _ _ ((rd_T72 l0_2 x3_2).f3) true _ ?side1 ?side2 A12.out).mono ?_
        (case side1 => repeat (first | exact (cB HR104_3.out HB.out) | (with_reducible first | apply cA | apply cN | apply cD)))
        (case side2 => exact HC104_3.out)
        rintro e w47 ⟨rfl, hb⟩
        refine ⟨_, rfl, ?_⟩
        have _ := AM (nB BK101.out hb)
        have _ := AM (nB BK105.out hb)
        have _ := AM (below_step (bX HB.out) hb)
        clear BK101 BK105 HB
        rename_i BK101 BK105 HB
        (try clear hb)
        (try clear hk)
        refine hK.out _ _ ⟨(kC BK105.out 0).trans rfl, (kC BK105.out 1).trans rfl, (kC BK105.out 2).trans rfl, (kC BK105.out 3).trans rfl, (kC BK101.out 0).trans rfl, (kC BK101.out 1).trans rfl, (kC BK101.out 2).trans rfl⟩ (fun hHeld => ?_)
        clear hK K
        refine norm_ (a' := ?_) ?_ ?_
        rotate_left
        ·
         show Act.put _ (some 28) _ = _
         simp only [Act.put, sA, sB, sC, i64_w, i32_w]
         rfl
        refine pF 2 3 26 29 ?_
        refine pF 3 4 26 30 ?_
        refine pF 4 5 26 31 ?_
        refine pF2 6 33 spec_ChangeRight.b0 ?_
        refine pT2 5 32 (upTo 7 26) ?_ hHeld
        refine pT2 7 34 (upTo 8 26) ?_ hHeld
        refine pF 8 9 26 35 ?_
        refine pF 9 10 26 36 ?_
        refine pF 10 11 26 37 ?_
        refine pF 11 12 26 38 ?_
        refine pF 12 13 26 39 ?_
        refine pF 13 14 26 40 ?_
        refine pU 14 15 26 41 ?_
        refine pU 15 16 26 42 ?_
        refine pU 16 17 26 43 ?_
        refine pU 17 18 26 44 ?_
        refine pU 18 19 26 45 ?_
        refine pU 19 20 26 46 ?_
        refine pU 20 21 26 47 ?_
        refine pU 21 22 26 48 ?_
        refine pU 22 23 26 49 ?_
        refine pU 23 24 26 50 ?_
        refine pF 24 25 26 51 ?_
        refine pF 25 26 26 52 ?_
        refine done_ (done_of HT_.out (by kernel_rfl)) ?_
        try go_wp2
        go_roundg k2
        case measure => have := HJ1.out; have := HK2.out; omega
        case rel => exact ⟨(wrap64 (x3_2 + 1)), (by first | rfl | (simp; done) | (simp [*]; done)), H', ⟨by have := HJ1.out; have := HK2.out; omega⟩, ⟨kX BK101.out⟩, ⟨bX HB.out⟩⟩
       replace c13 := Bool.eq_false_iff.mpr c13
       subst c13
       have H1 : (some false) = some r := by rw [if_neg (show ¬ (false = true) by decide)] at H; exact H
       clear H
       have H := H1
       clear H1
       obtain rfl := Option.some.inj H
       have hcz48 := q3 BK101.out
       have hfz48 := fZ BK101.out
       have p104 : 0 ≤ (x3_2 : Int) := of_decide_eq_true (by assumption)
       have q104 : x3_2 < (l0_2.length : Int) := of_decide_eq_true (by assumption)
       obtain ⟨ad104, A104_3, c104_3, e104, hx104_0, hx104_1, hx104_2, hx104_3, hl104_3, hi104_3⟩ := at_T72 HR0_2.out x3_2 p104 q104
       cases e104
       replace hx104_0 := pw_cell_below HB.out hx104_0
       replace hx104_1 := pw_cell_below HB.out hx104_1
       replace hx104_2 := pw_cell_below HB.out hx104_2
       replace hx104_3 := pw_cell_below HB.out hx104_3
       have HR104_3 := AM hi104_3
       have HC104_3 := AM hl104_3
       clear hi104_3 hl104_3
       replace p104 := eq_true p104
       replace q104 := eq_true q104
       try go_wp2_with (first | ((with_reducible refine gate_dst (N := 4) rfl ?_); refine box_event (by rfl) (N := 4) (by rfl) (cs := #[.int .i64 0, .int .i64 0, .string (⟨#[]⟩ : ByteArray), .slice none 0 0]) (t := 72) (by first | (go_simp; done) | (go_simp; rfl)) ?_; intro gb105 hg w49 hbox hb; have _ := AM (nB BK101.out hb); have _ := AM (below_step (bX HB.out) hb); have _ := AM (hbox); have n3_ := AM ((by rw [hg]; exact (bZ (bX HB.out)) : w.heap.size ≤ gb105)); have _ := AM (lX hg BK101.out); have _ := AM (lX hg BK101.out).symm; clear BK101 HB; rename_i BK101 HB BK105 NB101_105 NB105_101; have GW105 := n3_; have GE105 := n3_; clear n3_; clear hb hbox hg; have hnb50 := NB105_101.out; have hnc50 := NB101_105.out; have hcz51 := q4 BK105.out; have hfz51 := fZ BK105.out))
       have n0_ : Aside0 (((((w49.setCell ⟨gb105, 0, none⟩ (.int .i64 ((rd_T72 l0_2 x3_2).f0))).setCell ⟨gb105, 1, none⟩ (.int .i64 ((rd_T72 l0_2 x3_2).f1))).setCell ⟨gb105, 2, none⟩ (.string ((rd_T72 l0_2 x3_2).f2))).setCell ⟨gb105, 3, none⟩ (.slice A104_3 ((rd_T72 l0_2 x3_2).f3).length c104_3)).heap[gb101]? = some (.cells #[.int .i64 a0_0, .int .i64 a0_1, .slice (some ad104) l0_2.length c0_2] 26 (0, 0))) := ⟨by (iterate 4 refine kF NB101_105.out ?_); (with_reducible repeat (first | apply kN | apply kD | apply kA)); exact BK101.out⟩
       have n1_ : Aside0 (((((w49.setCell ⟨gb105, 0, none⟩ (.int .i64 ((rd_T72 l0_2 x3_2).f0))).setCell ⟨gb105, 1, none⟩ (.int .i64 ((rd_T72 l0_2 x3_2).f1))).setCell ⟨gb105, 2, none⟩ (.string ((rd_T72 l0_2 x3_2).f2))).setCell ⟨gb105, 3, none⟩ (.slice A104_3 ((rd_T72 l0_2 x3_2).f3).length c104_3)).heap[gb105]? = some (.cells #[.int .i64 ((rd_T72 l0_2 x3_2).f0), .int .i64 ((rd_T72 l0_2 x3_2).f1), .string ((rd_T72 l0_2 x3_2).f2), .slice A104_3 ((rd_T72 l0_2 x3_2).f3).length c104_3] 72 (0, 0))) := ⟨by refine kP (cs := #[.int .i64 ((rd_T72 l0_2 x3_2).f0), .int .i64 ((rd_T72 l0_2 x3_2).f1), .string ((rd_T72 l0_2 x3_2).f2), .slice none 0 0]) 3 ?_; refine kP (cs := #[.int .i64 ((rd_T72 l0_2 x3_2).f0), .int .i64 ((rd_T72 l0_2 x3_2).f1), .string (⟨#[]⟩ : ByteArray), .slice none 0 0]) 2 ?_; refine kP (cs := #[.int .i64 ((rd_T72 l0_2 x3_2).f0), .int .i64 0, .string (⟨#[]⟩ : ByteArray), .slice none 0 0]) 1 ?_; refine kP (cs := #[.int .i64 0, .int .i64 0, .string (⟨#[]⟩ : ByteArray), .slice none 0 0]) 0 ?_; (with_reducible repeat (first | apply kN | apply kD | apply kA)); exact BK105.out⟩
       have n2_ : Aside0 (Below w.heap.size w ((((w49.setCell ⟨gb105, 0, none⟩ (.int .i64 ((rd_T72 l0_2 x3_2).f0))).setCell ⟨gb105, 1, none⟩ (.int .i64 ((rd_T72 l0_2 x3_2).f1))).setCell ⟨gb105, 2, none⟩ (.string ((rd_T72 l0_2 x3_2).f2))).setCell ⟨gb105, 3, none⟩ (.slice A104_3 ((rd_T72 l0_2 x3_2).f3).length c104_3))) := ⟨bX HB.out⟩
       (try clear BK101)
       (try clear BK105)
       (try clear HB)
       generalize ((((w49.setCell ⟨gb105, 0, none⟩ (.int .i64 ((rd_T72 l0_2 x3_2).f0))).setCell ⟨gb105, 1, none⟩ (.int .i64 ((rd_T72 l0_2 x3_2).f1))).setCell ⟨gb105, 2, none⟩ (.string ((rd_T72 l0_2 x3_2).f2))).setCell ⟨gb105, 3, none⟩ (.slice A104_3 ((rd_T72 l0_2 x3_2).f3).length c104_3)) = w52 at n0_ n1_ n2_ ⊢
       have BK101 := n0_
       have BK105 := n1_
       have HB := n2_
       clear n0_ n1_ n2_
       have _ := AM (kD BK101.out)
       have _ := AM (kD BK105.out)
       have _ := AM (bD HB.out)
       clear BK101 BK105 HB
       rename_i BK101 BK105 HB
       refine start_ (n := 26) (S := fun w' => w'.cell? ⟨gb105, 0, none⟩ = some (.int .i64 ((rd_T72 l0_2 x3_2).f0)) ∧ w'.cell? ⟨gb105, 1, none⟩ = some (.int .i64 ((rd_T72 l0_2 x3_2).f1)) ∧ w'.cell? ⟨gb105, 2, none⟩ = some (.string ((rd_T72 l0_2 x3_2).f2)) ∧ w'.cell? ⟨gb105, 3, none⟩ = some (.slice A104_3 ((rd_T72 l0_2 x3_2).f3).length c104_3)) (ds := []) (upTo 0 26) (by kernel_rfl) rfl rfl (q4 BK105.out) (fun hHeld => ?_); refine with_tabW spec_ChangeRight.tab7 spec_ChangeRight.bits7 (fun HT_ HW_ => ?_)
       generalize w52.drew = w53 at BK101 BK105 HB hHeld ⊢
       refine pT2 0 27 (upTo 1 26) ?_ hHeld
       refine one_ (i := 1) (N := some 28) (upTo 2 26) rfl rfl (one_of HT_.out (by kernel_rfl)) (by decide) (fun K hK => ?_)
       refine goes_ Try.func56 (by kernel_rfl) rfl #[.agg #[.int .i64 ((rd_T72 l0_2 x3_2).f0), .int .i64 ((rd_T72 l0_2 x3_2).f1), .string ((rd_T72 l0_2 x3_2).f2), .slice A104_3 ((rd_T72 l0_2 x3_2).f3).length c104_3]] (by rfl) rfl rfl (by (try simp only [mA, mB, mC]); first | done | rfl | (simp only [mD, mE]; rfl)) ?_
       with_reducible refine (spec_ProofRight.calls k2 ((rd_T72 l0_2 x3_2).f0) ((rd_T72 l0_2 x3_2).f1) ((rd_T72 l0_2 x3_2).f2) _ _ ((rd_T72 l0_2 x3_2).f3) false _ ?side1 ?side2 A12.out).mono ?_
       (case side1 => repeat (first | exact (cB HR104_3.out HB.out) | (with_reducible first | apply cA | apply cN | apply cD)))
       (case side2 => exact HC104_3.out)
       rintro e w54 ⟨rfl, hb⟩
       refine ⟨_, rfl, ?_⟩
       have _ := AM (nB BK101.out hb)
       have _ := AM (nB BK105.out hb)
       have _ := AM (below_step (bX HB.out) hb)
       clear BK101 BK105 HB
       rename_i BK101 BK105 HB
       (try clear hb)
       (try clear hk)
       refine hK.out _ _ (q4 BK105.out) (fun hHeld => ?_)
       clear hK K
       refine norm_ (a' := ?_) ?_ ?_
       rotate_left
       ·
        show Act.put _ (some 28) _ = _
        simp only [Act.put, sA, sB, sC, i64_w, i32_w]
        rfl
       refine pF 2 3 26 29 ?_
       refine pF 3 4 26 30 ?_
       refine pU 4 5 26 31 ?_
       refine pU 5 6 26 32 ?_
       refine pU 6 7 26 33 ?_
       refine pU 7 8 26 34 ?_
       refine pU 8 9 26 35 ?_
       refine pF 9 10 26 36 ?_
       refine pF 10 11 26 37 ?_
       refine pU 11 12 26 38 ?_
       refine pU 12 13 26 39 ?_
       refine pU 13 14 26 40 ?_
       refine pU 14 15 26 41 ?_
       refine pU 15 16 26 42 ?_
       refine pU 16 17 26 43 ?_
       refine pU 17 18 26 44 ?_
       refine pU 18 19 26 45 ?_
       refine pU 19 20 26 46 ?_
       refine pU 20 21 26 47 ?_
       refine pU 21 22 26 48 ?_
       refine pU 22 23 26 49 ?_
       refine pU 23 24 26 50 ?_
       refine pU 24 25 26 51 ?_
       refine pF 25 26 26 52 ?_
       refine done_ (done_of HT_.out (by kernel_rfl)) ?_
       try go_wp2
       go_ret
       exact ⟨by first | rfl | (simp [*, errW_none, errW_some] <;> rfl), bX HB.out⟩
      rw [if_neg c11] at H
      exact absurd H (by simp)
     rw [if_neg c10] at H
     have c10b0 : decide (x3_2 < (l0_2.length : Int)) = false := decide_eq_false c10
     clear c10
     obtain rfl := Option.some.inj H
     have hcz55 := q3 BK101.out
     have hfz55 := fZ BK101.out
     go_wp2
     go_ret
     exact ⟨by first | rfl | (simp [*, errW_none, errW_some] <;> rfl), bX HB.out⟩

/-! ### spec_l01Max: function 57 -/

def spec_l01Max.f (a0 : Int) (a1 : Int) : Option (Int) := if a0 > a1 then (some a0) else (some a1)
set_option maxHeartbeats 60000000 in
set_option maxRecDepth 100000 in
theorem spec_l01Max.calls (a0 : Int) (a1 : Int) (r : Int) (w : World) (h : spec_l01Max.f a0 a1 = some r) :
    Calls Try.prog 57 #[.int .i64 a0, .int .i64 a1] w fun e w' => e = .returned (.int .i64 r) ∧ Drawn0 w w' := by
 have H : (if a0 > a1 then (some a0) else (some a1)) = some r := h
 clear h
 by_cases c3 : a0 > a1
 ·
  rw [if_pos c3] at H
  have c3b0 : decide (a1 < a0) = true := decide_eq_true c3
  clear c3
  obtain rfl := Option.some.inj H
  go_enter Try.func57, Try.ntmps57
  go_wp2
  go_ret
  exact ⟨by first | rfl | (simp; done) | (simp [*]; done), by repeat (first | exact Drawn0.refl _ | apply Drawn0.step)⟩
 rw [if_neg c3] at H
 have c3b0 : decide (a1 < a0) = false := decide_eq_false c3
 clear c3
 obtain rfl := Option.some.inj H
 go_enter Try.func57, Try.ntmps57
 go_wp2
 go_ret
 exact ⟨by first | rfl | (simp; done) | (simp [*]; done), by repeat (first | exact Drawn0.refl _ | apply Drawn0.step)⟩

end Go.Proofs.Ytmaliehmbodioaa.Q
