/- Printed by a program of this session (wip/mp.py over the kit's print.py): functions of the translation as plain Lean functions, and that the machine's calls do what these say. -/
import Derived.Test.YtmaliehmbodioaaQx0
import Derived.Test.YtmaliehmbodioaaQx1
import Derived.Test.YtmaliehmbodioaaQx2
namespace Go.Proofs.Ytmaliehmbodioaa.Q
open Go.RowKit Go.Proofs.Ytmaliehmbodioaa.HB Go.Proofs.YtmaliehmbodioaaW.PrintWords Go.Proofs.YtmaliehmbodioaaW.PrintLast Go.Proofs.YtmaliehmbodioaaW.PrintMore
attribute [local go_sem] max2_int min2_int max_two min_two max_three min_three max_four min_four   -- for this text's walks alone
set_option linter.unusedVariables false
set_option linter.unusedSimpArgs false

/-! ### spec_l11Voters: function 76 -/

mutual
def spec_l11Voters.l0 : Nat → List (S52) → Int → Int → Int → ByteArray → List Int → Int → Option (List Int)
  | 0, _, _, _, _, _, _, _ => none
  | k + 1, x0, x1, x2, x3, x4, x11, x12 => if x12 < 4 then (spec_l11Voters.l1 k x0 x1 x2 x3 x4 x11 x12 0) else (some x11)
def spec_l11Voters.l1 : Nat → List (S52) → Int → Int → Int → ByteArray → List Int → Int → Int → Option (List Int)
  | 0, _, _, _, _, _, _, _, _ => none
  | k + 1, x0, x1, x2, x3, x4, x11, x12, x13 => if x13 < (x0.length : Int) then (if 0 ≤ x13 then (if ((rd_T52 x0 x13).f4) = x12 then (if ((rd_T52 x0 x13).f0) = x1 then (if ((rd_T52 x0 x13).f1) = x2 then (if ((rd_T52 x0 x13).f2) = x3 then (if ((rd_T52 x0 x13).f3).toList = x4.toList then (if x11.length < 17592186044416 then (spec_l11Voters.l1 k x0 x1 x2 x3 x4 (x11 ++ [x12]) x12 (wrap64 (x13 + 1))) else (none)) else (spec_l11Voters.l1 k x0 x1 x2 x3 x4 x11 x12 (wrap64 (x13 + 1)))) else (spec_l11Voters.l1 k x0 x1 x2 x3 x4 x11 x12 (wrap64 (x13 + 1)))) else (spec_l11Voters.l1 k x0 x1 x2 x3 x4 x11 x12 (wrap64 (x13 + 1)))) else (spec_l11Voters.l1 k x0 x1 x2 x3 x4 x11 x12 (wrap64 (x13 + 1)))) else (spec_l11Voters.l1 k x0 x1 x2 x3 x4 x11 x12 (wrap64 (x13 + 1)))) else (none)) else (spec_l11Voters.l0 k x0 x1 x2 x3 x4 x11 (wrap64 (x12 + 1)))
end
def spec_l11Voters.f (k : Nat) (l0 : List (S52)) (a1 : Int) (a2 : Int) (a3 : Int) (a4 : ByteArray) : Option (List Int) := spec_l11Voters.l0 k l0 a1 a2 a3 a4 (([] : List Int)) 0
theorem spec_l11Voters.mono_l : ∀ k, (∀ y0 y1 y2 y3 y4 y5 y6, LeO (spec_l11Voters.l0 k y0 y1 y2 y3 y4 y5 y6) (spec_l11Voters.l0 (k + 1) y0 y1 y2 y3 y4 y5 y6)) ∧ (∀ y0 y1 y2 y3 y4 y5 y6 y7, LeO (spec_l11Voters.l1 k y0 y1 y2 y3 y4 y5 y6 y7) (spec_l11Voters.l1 (k + 1) y0 y1 y2 y3 y4 y5 y6 y7))
  | 0 => ⟨fun _ _ _ _ _ _ _ r h => by simp [spec_l11Voters.l0] at h, fun _ _ _ _ _ _ _ _ r h => by simp [spec_l11Voters.l1] at h⟩
  | k + 1 => by
    obtain ⟨ih0, ih1⟩ := spec_l11Voters.mono_l k
    refine ⟨?_, ?_⟩
    · intro y0 y1 y2 y3 y4 y5 y6
      unfold spec_l11Voters.l0
      repeat' first
      | (with_reducible exact ih0 _ _ _ _ _ _ _)
      | (with_reducible exact ih1 _ _ _ _ _ _ _ _)
      | (with_reducible exact LeO.refl _)
      | (with_reducible exact LeO.none _)
      | (with_reducible refine LeO.ite ?_ ?_)
      | (with_reducible refine LeO.bind ?_ (fun _ => ?_))
      | exact ih0 _ _ _ _ _ _ _
      | exact ih1 _ _ _ _ _ _ _ _
      | exact LeO.none _
      | refine LeO.ite ?_ ?_
      | refine LeO.bind ?_ (fun _ => ?_)
    · intro y0 y1 y2 y3 y4 y5 y6 y7
      unfold spec_l11Voters.l1
      repeat' first
      | (with_reducible exact ih0 _ _ _ _ _ _ _)
      | (with_reducible exact ih1 _ _ _ _ _ _ _ _)
      | (with_reducible exact LeO.refl _)
      | (with_reducible exact LeO.none _)
      | (with_reducible refine LeO.ite ?_ ?_)
      | (with_reducible refine LeO.bind ?_ (fun _ => ?_))
      | exact ih0 _ _ _ _ _ _ _
      | exact ih1 _ _ _ _ _ _ _ _
      | exact LeO.none _
      | refine LeO.ite ?_ ?_
      | refine LeO.bind ?_ (fun _ => ?_)
theorem spec_l11Voters.mono : ∀ a0 a1 a2 a3 a4 k, LeO (spec_l11Voters.f k a0 a1 a2 a3 a4) (spec_l11Voters.f (k + 1) a0 a1 a2 a3 a4) := by
  intro a0 a1 a2 a3 a4 k
  obtain ⟨ih0, ih1⟩ := spec_l11Voters.mono_l k
  unfold spec_l11Voters.f
  repeat' first
      | (with_reducible exact ih0 _ _ _ _ _ _ _)
      | (with_reducible exact ih1 _ _ _ _ _ _ _ _)
      | (with_reducible exact LeO.refl _)
      | (with_reducible exact LeO.none _)
      | (with_reducible refine LeO.ite ?_ ?_)
      | (with_reducible refine LeO.bind ?_ (fun _ => ?_))
      | exact ih0 _ _ _ _ _ _ _
      | exact ih1 _ _ _ _ _ _ _ _
      | exact LeO.none _
      | refine LeO.ite ?_ ?_
      | refine LeO.bind ?_ (fun _ => ?_)
set_option maxHeartbeats 60000000 in
set_option maxRecDepth 100000 in
theorem spec_l11Voters.calls (k : Nat) (A0 : Option Addr) (c0 : Nat) (l0 : List (S52)) (a1 : Int) (a2 : Int) (a3 : Int) (a4 : ByteArray) (r : List Int) (w : World) (hr0 : Kd.C k52 w A0 l0.length l0) (hc0 : l0.length ≤ c0) (h : spec_l11Voters.f k l0 a1 a2 a3 a4 = some r) :
    Calls Try.prog 76 #[.slice A0 l0.length c0, .int .i64 a1, .int .i64 a2, .int .i64 a3, .string a4] w fun e w' => ∃ v0_ : Value, e = .returned (v0_) ∧ Kd.R (Kd.int .i64) 2 w' w.heap.size (fun _ => True) v0_ r ∧ Below w.heap.size w w' := by
 have hu52 := Try.underlying52
 have HR0 := AM hr0
 have HC0 := AM hc0
 clear hr0 hc0
 have HB := AM (Below.refl w.heap.size w)
 have H : (spec_l11Voters.l0 k l0 a1 a2 a3 a4 (([] : List Int)) 0) = some r := h
 clear h
 obtain ⟨y101, hy101⟩ : ∃ y_ : List Int, y_ = (([] : List Int)) := ⟨_, rfl⟩
 replace H : (spec_l11Voters.l0 k l0 a1 a2 a3 a4 y101 0) = some r := by first | (rw [hy101]; with_reducible exact H) | (have H2_ := (Option.bind_some _ _).symm.trans H; rw [hy101]; with_reducible exact H2_) | (have H2_ := (Option.bind_some _ _).symm.trans H; with_reducible exact H2_) | with_reducible exact H | (rw [hy101]; exact H) | exact H
 have Ny101 := AM hy101
 clear hy101
 have H' := AM H
 clear H
 go_enter Try.func76, Try.ntmps76
 go_wp2_with (first | ((with_reducible refine gate_dst (N := 15) rfl ?_); refine Kd.R_lit (Kd.int .i64) _ 2 ?hg (N := 15) ?hd (xs := ([] : List Int)) (inner := []) (ok := fun _ => True) (okp := fun _ => True) ?hr ?hp (fun _ hk => hk) trivial (Below.refl _ _) (Nat.le_refl _) (by simp) ?_; (case hd => rfl); (case hg => rfl); (case hr => first | (go_simp; done) | (go_simp; rfl)); (case hp => exact (Reps.none _ _)); intro v102 w6 ho7 hb hg_ hnew_; clear hg_ hnew_; (first | rw [← Ny101.out] at ho7 | (simp only [Int.reduceToNat] at ho7; rw [← Ny101.out] at ho7)); have _ := AM (Kd.R_lower ho7 (bZ (bX HB.out))); have _ := AM (below_step (bX HB.out) hb); clear HB; rename_i HO103 HB; clear hb ho7))
 go_loopg [11, 12] k (fun kq v11 v12 w' => ∃ (x11_1 : List Int) (x12_1 : Int), v12 = .int .i64 x12_1 ∧ Aside0 (spec_l11Voters.l0 kq l0 a1 a2 a3 a4 x11_1 x12_1 = some r) ∧ Aside0 (kq ≤ k) ∧ Aside0 (Kd.R (Kd.int .i64) 2 w' w.heap.size (fun _ => True) v11 x11_1) ∧ Aside0 (Below w.heap.size w w'))
 case atStart => exact ⟨(y101), (0), (by first | rfl | (simp; done) | (simp [*]; done)), H', ⟨Nat.le_refl _⟩, ⟨rX HO103.out⟩, ⟨bX HB.out⟩⟩
 case round =>
  clear H'
  (try clear p2); (try clear c7)
  obtain ⟨x11_1, x12_1, rfl, HA, HK1, HO_11, HB⟩ := hrel
  cases gk with
  | zero => exact absurd HA.out (by simp [spec_l11Voters.l0])
  | succ k1 =>
   have H := HA.out
   clear HA
   simp only [spec_l11Voters.l0] at H
   by_cases c8 : x12_1 < 4
   ·
    rw [if_pos c8] at H
    have c8b0 : decide (x12_1 < 4) = true := decide_eq_true c8
    clear c8
    have H' := AM H
    clear H
    go_wp2
    go_loopg [11, 13] k1 (fun kq v11 v13 w' => ∃ (x11_2 : List Int) (x13_2 : Int), v13 = .int .i64 x13_2 ∧ Aside0 (spec_l11Voters.l1 kq l0 a1 a2 a3 a4 x11_2 x12_1 x13_2 = some r) ∧ Aside0 (kq ≤ k1) ∧ Aside0 (Kd.R (Kd.int .i64) 2 w' w.heap.size (fun _ => True) v11 x11_2) ∧ Aside0 (Below w.heap.size w w'))
    case atStart => exact ⟨(x11_1), (0), (by first | rfl | (simp; done) | (simp [*]; done)), H', ⟨Nat.le_refl _⟩, ⟨rX HO_11.out⟩, ⟨bX HB.out⟩⟩
    case round =>
     clear H'
     (try clear p2); (try clear c7); (try clear c8); (try clear c8b0)
     obtain ⟨x11_2, x13_2, rfl, HA, HK2, HO_11, HB⟩ := hrel
     cases gk with
     | zero => exact absurd HA.out (by simp [spec_l11Voters.l1])
     | succ k2 =>
      have H := HA.out
      clear HA
      simp only [spec_l11Voters.l1] at H
      by_cases c9 : x13_2 < (l0.length : Int)
      ·
       rw [if_pos c9] at H
       have c9b0 : decide (x13_2 < (l0.length : Int)) = true := decide_eq_true c9
       clear c9
       by_cases c10 : 0 ≤ x13_2
       ·
        rw [if_pos c10] at H
        have c10b0 : decide (0 ≤ x13_2) = true := decide_eq_true c10
        clear c10
        by_cases c11 : ((rd_T52 l0 x13_2).f4) = x12_1
        ·
         rw [if_pos c11] at H
         have c11b0 : (((rd_T52 l0 x13_2).f4) == x12_1) = true := beq_iff_eq.mpr c11
         have c11b1 : (((rd_T52 l0 x13_2).f4) != x12_1) = false := bne_eq_false_iff_eq.mpr c11
         clear c11
         by_cases c12 : ((rd_T52 l0 x13_2).f0) = a1
         ·
          rw [if_pos c12] at H
          have c12b0 : (((rd_T52 l0 x13_2).f0) == a1) = true := beq_iff_eq.mpr c12
          have c12b1 : (((rd_T52 l0 x13_2).f0) != a1) = false := bne_eq_false_iff_eq.mpr c12
          clear c12
          by_cases c13 : ((rd_T52 l0 x13_2).f1) = a2
          ·
           rw [if_pos c13] at H
           have c13b0 : (((rd_T52 l0 x13_2).f1) == a2) = true := beq_iff_eq.mpr c13
           have c13b1 : (((rd_T52 l0 x13_2).f1) != a2) = false := bne_eq_false_iff_eq.mpr c13
           clear c13
           by_cases c14 : ((rd_T52 l0 x13_2).f2) = a3
           ·
            rw [if_pos c14] at H
            have c14b0 : (((rd_T52 l0 x13_2).f2) == a3) = true := beq_iff_eq.mpr c14
            have c14b1 : (((rd_T52 l0 x13_2).f2) != a3) = false := bne_eq_false_iff_eq.mpr c14
            clear c14
            by_cases c15 : ((rd_T52 l0 x13_2).f3).toList = a4.toList
            ·
             rw [if_pos c15] at H
             have c15b0 : (((rd_T52 l0 x13_2).f3).toList == a4.toList) = true := beq_iff_eq.mpr c15
             have c15b1 : (((rd_T52 l0 x13_2).f3).toList != a4.toList) = false := bne_eq_false_iff_eq.mpr c15
             clear c15
             by_cases c16 : x11_2.length < 17592186044416
             ·
              rw [if_pos c16] at H
              have LMc16 := AM c16
              clear c16
              obtain ⟨y106, hy106⟩ : ∃ y_ : List Int, y_ = (x11_2 ++ [x12_1]) := ⟨_, rfl⟩
              replace H : (spec_l11Voters.l1 k2 l0 a1 a2 a3 a4 y106 x12_1 (wrap64 (x13_2 + 1))) = some r := by first | (rw [hy106]; with_reducible exact H) | (have H2_ := (Option.bind_some _ _).symm.trans H; rw [hy106]; with_reducible exact H2_) | (have H2_ := (Option.bind_some _ _).symm.trans H; with_reducible exact H2_) | with_reducible exact H | (rw [hy106]; exact H) | exact H
              have Ny106 := AM hy106
              clear hy106
              have H' := AM H
              clear H
              have p104 : 0 ≤ (x13_2 : Int) := of_decide_eq_true (by assumption)
              have q104 : x13_2 < (l0.length : Int) := of_decide_eq_true (by assumption)
              obtain ⟨ad104, e104, hx104_0, hx104_1, hx104_2, hx104_3, hx104_4⟩ := at_T52 HR0.out x13_2 p104 q104
              cases e104
              replace hx104_0 := pw_cell_below HB.out hx104_0
              replace hx104_1 := pw_cell_below HB.out hx104_1
              replace hx104_2 := pw_cell_below HB.out hx104_2
              replace hx104_3 := pw_cell_below HB.out hx104_3
              replace hx104_4 := pw_cell_below HB.out hx104_4
              replace p104 := eq_true p104
              replace q104 := eq_true q104
              go_wp2_with (first | ((with_reducible refine gate_dst (N := 14) rfl ?_); refine box_event (by rfl) (N := 14) (by rfl) (cs := #[.int .i64 0, .int .i64 0, .int .i64 0, .string (⟨#[]⟩ : ByteArray), .int .i64 0]) (t := 52) (by first | (go_simp; done) | (go_simp; rfl)) ?_; intro gb105 hg w17 hbox hb; have _ := AM (Kd.R_below (rX HO_11.out) hb); have _ := AM (below_step (bX HB.out) hb); have _ := AM (hbox); have n3_ := AM ((by rw [hg]; exact (bZ (bX HB.out)) : w.heap.size ≤ gb105)); clear HO_11 HB; rename_i HO_11 HB BK105; have GW105 := n3_; have GE105 := n3_; clear n3_; clear hb hbox hg; have hcz18 := q5 BK105.out; have hfz18 := fZ BK105.out) | ((with_reducible refine gate_builtin (b := .append) (xs := #[.tmp 58, .tmp 60]) rfl ?_); at_builtin; refine Kd.R_append (Kd.int .i64) (w0 := w) w.heap.size rfl (.tmp 58) (.tmp 60) 70 2 (.int .i64 0) 8 rfl Try.underlying70 info2 rfl (by decide) (by omega) u11 x11_2 x12_1 [.int .i64 x12_1] (fun _ => True) (fun _ => False) rfl (by first | (go_simp; done) | (go_simp; rfl)) ?aP (fun _ hk => hk.elim) ?aF ?aO ?aB ?aS ?aL ?_; (case aP => exact rfl); (case aB => exact (bX HB.out)); (case aF => exact (fun _ _ => trivial)); (case aO => exact (by (with_reducible repeat (first | apply rA | apply rN | apply rD)); exact Kd.R_mono (Kd.R_far (p := ⟨gb105, 4, none⟩) (Kd.R_far (p := ⟨gb105, 3, none⟩) (Kd.R_far (p := ⟨gb105, 2, none⟩) (Kd.R_far (p := ⟨gb105, 1, none⟩) (Kd.R_far (p := ⟨gb105, 0, none⟩) (Kd.R_types HO_11.out BK105.out (by decide)) (fun _ hk => hk.2) (.int .i64 ((rd_T52 l0 x13_2).f0))) (fun _ hk => hk.2) (.int .i64 ((rd_T52 l0 x13_2).f1))) (fun _ hk => hk.2) (.int .i64 ((rd_T52 l0 x13_2).f2))) (fun _ hk => hk.2) (.string ((rd_T52 l0 x13_2).f3))) (fun _ hk => hk.2) (.int .i64 ((rd_T52 l0 x13_2).f4))) (fun _ hk => trivial))); (case aS => exact (bZ (bX HB.out))); (case aL => have := LMc16.out; omega); intro v107 w19 ho hb hg hat; rw [← Ny106.out] at ho; have _ := AM (blk_grown (g := gb105) (o := .cells #[.int .i64 ((rd_T52 l0 x13_2).f0), .int .i64 ((rd_T52 l0 x13_2).f1), .int .i64 ((rd_T52 l0 x13_2).f2), .string ((rd_T52 l0 x13_2).f3), .int .i64 ((rd_T52 l0 x13_2).f4)] 52 (0, 0)) (by refine kP (cs := #[.int .i64 ((rd_T52 l0 x13_2).f0), .int .i64 ((rd_T52 l0 x13_2).f1), .int .i64 ((rd_T52 l0 x13_2).f2), .string ((rd_T52 l0 x13_2).f3), .int .i64 0]) 4 ?_; refine kP (cs := #[.int .i64 ((rd_T52 l0 x13_2).f0), .int .i64 ((rd_T52 l0 x13_2).f1), .int .i64 ((rd_T52 l0 x13_2).f2), .string (⟨#[]⟩ : ByteArray), .int .i64 0]) 3 ?_; refine kP (cs := #[.int .i64 ((rd_T52 l0 x13_2).f0), .int .i64 ((rd_T52 l0 x13_2).f1), .int .i64 0, .string (⟨#[]⟩ : ByteArray), .int .i64 0]) 2 ?_; refine kP (cs := #[.int .i64 ((rd_T52 l0 x13_2).f0), .int .i64 0, .int .i64 0, .string (⟨#[]⟩ : ByteArray), .int .i64 0]) 1 ?_; refine kP (cs := #[.int .i64 0, .int .i64 0, .int .i64 0, .string (⟨#[]⟩ : ByteArray), .int .i64 0]) 0 ?_; (with_reducible repeat (first | apply kN | apply kD | apply kA)); exact BK105.out) hg (Kd.R_ne HO_11.out BK105.out (by decide))); have _ := AM (hb); have _ := AM (ho); clear BK105 HB HO_11; rename_i BK105 HB HO108; clear ho hb hg hat))
              go_roundg k2
              case measure => have := HK1.out; have := HK2.out; omega
              case rel => exact ⟨(y106), (wrap64 (x13_2 + 1)), (by first | rfl | (simp; done) | (simp [*]; done)), H', ⟨by have := HK1.out; have := HK2.out; omega⟩, ⟨rX HO108.out⟩, ⟨bX HB.out⟩⟩
             rw [if_neg c16] at H
             exact absurd H (by simp)
            rw [if_neg c15] at H
            have c15b0 : (((rd_T52 l0 x13_2).f3).toList == a4.toList) = false := beq_eq_false_iff_ne.mpr c15
            have c15b1 : (((rd_T52 l0 x13_2).f3).toList != a4.toList) = true := bne_iff_ne.mpr c15
            have H' := AM H
            clear H
            have p104 : 0 ≤ (x13_2 : Int) := of_decide_eq_true (by assumption)
            have q104 : x13_2 < (l0.length : Int) := of_decide_eq_true (by assumption)
            obtain ⟨ad104, e104, hx104_0, hx104_1, hx104_2, hx104_3, hx104_4⟩ := at_T52 HR0.out x13_2 p104 q104
            cases e104
            replace hx104_0 := pw_cell_below HB.out hx104_0
            replace hx104_1 := pw_cell_below HB.out hx104_1
            replace hx104_2 := pw_cell_below HB.out hx104_2
            replace hx104_3 := pw_cell_below HB.out hx104_3
            replace hx104_4 := pw_cell_below HB.out hx104_4
            replace p104 := eq_true p104
            replace q104 := eq_true q104
            go_wp2_with (first | ((with_reducible refine gate_dst (N := 14) rfl ?_); refine box_event (by rfl) (N := 14) (by rfl) (cs := #[.int .i64 0, .int .i64 0, .int .i64 0, .string (⟨#[]⟩ : ByteArray), .int .i64 0]) (t := 52) (by first | (go_simp; done) | (go_simp; rfl)) ?_; intro gb105 hg w20 hbox hb; have _ := AM (Kd.R_below (rX HO_11.out) hb); have _ := AM (below_step (bX HB.out) hb); have _ := AM (hbox); have n3_ := AM ((by rw [hg]; exact (bZ (bX HB.out)) : w.heap.size ≤ gb105)); clear HO_11 HB; rename_i HO_11 HB BK105; have GW105 := n3_; have GE105 := n3_; clear n3_; clear hb hbox hg; have hcz21 := q5 BK105.out; have hfz21 := fZ BK105.out))
            go_roundg k2
            case measure => have := HK1.out; have := HK2.out; omega
            case rel => exact ⟨(x11_2), (wrap64 (x13_2 + 1)), (by first | rfl | (simp; done) | (simp [*]; done)), H', ⟨by have := HK1.out; have := HK2.out; omega⟩, ⟨by (with_reducible repeat (first | apply rA | apply rN | apply rD)); exact Kd.R_mono (Kd.R_far (p := ⟨gb105, 4, none⟩) (Kd.R_far (p := ⟨gb105, 3, none⟩) (Kd.R_far (p := ⟨gb105, 2, none⟩) (Kd.R_far (p := ⟨gb105, 1, none⟩) (Kd.R_far (p := ⟨gb105, 0, none⟩) (Kd.R_types HO_11.out BK105.out (by decide)) (fun _ hk => hk.2) (.int .i64 ((rd_T52 l0 x13_2).f0))) (fun _ hk => hk.2) (.int .i64 ((rd_T52 l0 x13_2).f1))) (fun _ hk => hk.2) (.int .i64 ((rd_T52 l0 x13_2).f2))) (fun _ hk => hk.2) (.string ((rd_T52 l0 x13_2).f3))) (fun _ hk => hk.2) (.int .i64 ((rd_T52 l0 x13_2).f4))) (fun _ hk => trivial)⟩, ⟨bX HB.out⟩⟩
           rw [if_neg c14] at H
           have c14b0 : (((rd_T52 l0 x13_2).f2) == a3) = false := beq_eq_false_iff_ne.mpr c14
           have c14b1 : (((rd_T52 l0 x13_2).f2) != a3) = true := bne_iff_ne.mpr c14
           have H' := AM H
           clear H
           have p104 : 0 ≤ (x13_2 : Int) := of_decide_eq_true (by assumption)
           have q104 : x13_2 < (l0.length : Int) := of_decide_eq_true (by assumption)
           obtain ⟨ad104, e104, hx104_0, hx104_1, hx104_2, hx104_3, hx104_4⟩ := at_T52 HR0.out x13_2 p104 q104
           cases e104
           replace hx104_0 := pw_cell_below HB.out hx104_0
           replace hx104_1 := pw_cell_below HB.out hx104_1
           replace hx104_2 := pw_cell_below HB.out hx104_2
           replace hx104_3 := pw_cell_below HB.out hx104_3
           replace hx104_4 := pw_cell_below HB.out hx104_4
           replace p104 := eq_true p104
           replace q104 := eq_true q104
           go_wp2_with (first | ((with_reducible refine gate_dst (N := 14) rfl ?_); refine box_event (by rfl) (N := 14) (by rfl) (cs := #[.int .i64 0, .int .i64 0, .int .i64 0, .string (⟨#[]⟩ : ByteArray), .int .i64 0]) (t := 52) (by first | (go_simp; done) | (go_simp; rfl)) ?_; intro gb105 hg w22 hbox hb; have _ := AM (Kd.R_below (rX HO_11.out) hb); have _ := AM (below_step (bX HB.out) hb); have _ := AM (hbox); have n3_ := AM ((by rw [hg]; exact (bZ (bX HB.out)) : w.heap.size ≤ gb105)); clear HO_11 HB; rename_i HO_11 HB BK105; have GW105 := n3_; have GE105 := n3_; clear n3_; clear hb hbox hg; have hcz23 := q5 BK105.out; have hfz23 := fZ BK105.out))
           go_roundg k2
           case measure => have := HK1.out; have := HK2.out; omega
           case rel => exact ⟨(x11_2), (wrap64 (x13_2 + 1)), (by first | rfl | (simp; done) | (simp [*]; done)), H', ⟨by have := HK1.out; have := HK2.out; omega⟩, ⟨by (with_reducible repeat (first | apply rA | apply rN | apply rD)); exact Kd.R_mono (Kd.R_far (p := ⟨gb105, 4, none⟩) (Kd.R_far (p := ⟨gb105, 3, none⟩) (Kd.R_far (p := ⟨gb105, 2, none⟩) (Kd.R_far (p := ⟨gb105, 1, none⟩) (Kd.R_far (p := ⟨gb105, 0, none⟩) (Kd.R_types HO_11.out BK105.out (by decide)) (fun _ hk => hk.2) (.int .i64 ((rd_T52 l0 x13_2).f0))) (fun _ hk => hk.2) (.int .i64 ((rd_T52 l0 x13_2).f1))) (fun _ hk => hk.2) (.int .i64 ((rd_T52 l0 x13_2).f2))) (fun _ hk => hk.2) (.string ((rd_T52 l0 x13_2).f3))) (fun _ hk => hk.2) (.int .i64 ((rd_T52 l0 x13_2).f4))) (fun _ hk => trivial)⟩, ⟨bX HB.out⟩⟩
          rw [if_neg c13] at H
          have c13b0 : (((rd_T52 l0 x13_2).f1) == a2) = false := beq_eq_false_iff_ne.mpr c13
          have c13b1 : (((rd_T52 l0 x13_2).f1) != a2) = true := bne_iff_ne.mpr c13
          have H' := AM H
          clear H
          have p104 : 0 ≤ (x13_2 : Int) := of_decide_eq_true (by assumption)
          have q104 : x13_2 < (l0.length : Int) := of_decide_eq_true (by assumption)
          obtain ⟨ad104, e104, hx104_0, hx104_1, hx104_2, hx104_3, hx104_4⟩ := at_T52 HR0.out x13_2 p104 q104
          cases e104
          replace hx104_0 := pw_cell_below HB.out hx104_0
          replace hx104_1 := pw_cell_below HB.out hx104_1
          replace hx104_2 := pw_cell_below HB.out hx104_2
          replace hx104_3 := pw_cell_below HB.out hx104_3
          replace hx104_4 := pw_cell_below HB.out hx104_4
          replace p104 := eq_true p104
          replace q104 := eq_true q104
          go_wp2_with (first | ((with_reducible refine gate_dst (N := 14) rfl ?_); refine box_event (by rfl) (N := 14) (by rfl) (cs := #[.int .i64 0, .int .i64 0, .int .i64 0, .string (⟨#[]⟩ : ByteArray), .int .i64 0]) (t := 52) (by first | (go_simp; done) | (go_simp; rfl)) ?_; intro gb105 hg w24 hbox hb; have _ := AM (Kd.R_below (rX HO_11.out) hb); have _ := AM (below_step (bX HB.out) hb); have _ := AM (hbox); have n3_ := AM ((by rw [hg]; exact (bZ (bX HB.out)) : w.heap.size ≤ gb105)); clear HO_11 HB; rename_i HO_11 HB BK105; have GW105 := n3_; have GE105 := n3_; clear n3_; clear hb hbox hg; have hcz25 := q5 BK105.out; have hfz25 := fZ BK105.out))
          go_roundg k2
          case measure => have := HK1.out; have := HK2.out; omega
          case rel => exact ⟨(x11_2), (wrap64 (x13_2 + 1)), (by first | rfl | (simp; done) | (simp [*]; done)), H', ⟨by have := HK1.out; have := HK2.out; omega⟩, ⟨by (with_reducible repeat (first | apply rA | apply rN | apply rD)); exact Kd.R_mono (Kd.R_far (p := ⟨gb105, 4, none⟩) (Kd.R_far (p := ⟨gb105, 3, none⟩) (Kd.R_far (p := ⟨gb105, 2, none⟩) (Kd.R_far (p := ⟨gb105, 1, none⟩) (Kd.R_far (p := ⟨gb105, 0, none⟩) (Kd.R_types HO_11.out BK105.out (by decide)) (fun _ hk => hk.2) (.int .i64 ((rd_T52 l0 x13_2).f0))) (fun _ hk => hk.2) (.int .i64 ((rd_T52 l0 x13_2).f1))) (fun _ hk => hk.2) (.int .i64 ((rd_T52 l0 x13_2).f2))) (fun _ hk => hk.2) (.string ((rd_T52 l0 x13_2).f3))) (fun _ hk => hk.2) (.int .i64 ((rd_T52 l0 x13_2).f4))) (fun _ hk => trivial)⟩, ⟨bX HB.out⟩⟩
         rw [if_neg c12] at H
         have c12b0 : (((rd_T52 l0 x13_2).f0) == a1) = false := beq_eq_false_iff_ne.mpr c12
         have c12b1 : (((rd_T52 l0 x13_2).f0) != a1) = true := bne_iff_ne.mpr c12
         have H' := AM H
         clear H
         have p104 : 0 ≤ (x13_2 : Int) := of_decide_eq_true (by assumption)
         have q104 : x13_2 < (l0.length : Int) := of_decide_eq_true (by assumption)
         obtain ⟨ad104, e104, hx104_0, hx104_1, hx104_2, hx104_3, hx104_4⟩ := at_T52 HR0.out x13_2 p104 q104
         cases e104
         replace hx104_0 := pw_cell_below HB.out hx104_0
         replace hx104_1 := pw_cell_below HB.out hx104_1
         replace hx104_2 := pw_cell_below HB.out hx104_2
         replace hx104_3 := pw_cell_below HB.out hx104_3
         replace hx104_4 := pw_cell_below HB.out hx104_4
         replace p104 := eq_true p104
         replace q104 := eq_true q104
         go_wp2_with (first | ((with_reducible refine gate_dst (N := 14) rfl ?_); refine box_event (by rfl) (N := 14) (by rfl) (cs := #[.int .i64 0, .int .i64 0, .int .i64 0, .string (⟨#[]⟩ : ByteArray), .int .i64 0]) (t := 52) (by first | (go_simp; done) | (go_simp; rfl)) ?_; intro gb105 hg w26 hbox hb; have _ := AM (Kd.R_below (rX HO_11.out) hb); have _ := AM (below_step (bX HB.out) hb); have _ := AM (hbox); have n3_ := AM ((by rw [hg]; exact (bZ (bX HB.out)) : w.heap.size ≤ gb105)); clear HO_11 HB; rename_i HO_11 HB BK105; have GW105 := n3_; have GE105 := n3_; clear n3_; clear hb hbox hg; have hcz27 := q5 BK105.out; have hfz27 := fZ BK105.out))
         go_roundg k2
         case measure => have := HK1.out; have := HK2.out; omega
         case rel => exact ⟨(x11_2), (wrap64 (x13_2 + 1)), (by first | rfl | (simp; done) | (simp [*]; done)), H', ⟨by have := HK1.out; have := HK2.out; omega⟩, ⟨by (with_reducible repeat (first | apply rA | apply rN | apply rD)); exact Kd.R_mono (Kd.R_far (p := ⟨gb105, 4, none⟩) (Kd.R_far (p := ⟨gb105, 3, none⟩) (Kd.R_far (p := ⟨gb105, 2, none⟩) (Kd.R_far (p := ⟨gb105, 1, none⟩) (Kd.R_far (p := ⟨gb105, 0, none⟩) (Kd.R_types HO_11.out BK105.out (by decide)) (fun _ hk => hk.2) (.int .i64 ((rd_T52 l0 x13_2).f0))) (fun _ hk => hk.2) (.int .i64 ((rd_T52 l0 x13_2).f1))) (fun _ hk => hk.2) (.int .i64 ((rd_T52 l0 x13_2).f2))) (fun _ hk => hk.2) (.string ((rd_T52 l0 x13_2).f3))) (fun _ hk => hk.2) (.int .i64 ((rd_T52 l0 x13_2).f4))) (fun _ hk => trivial)⟩, ⟨bX HB.out⟩⟩
        rw [if_neg c11] at H
        have c11b0 : (((rd_T52 l0 x13_2).f4) == x12_1) = false := beq_eq_false_iff_ne.mpr c11
        have c11b1 : (((rd_T52 l0 x13_2).f4) != x12_1) = true := bne_iff_ne.mpr c11
        have H' := AM H
        clear H
        have p104 : 0 ≤ (x13_2 : Int) := of_decide_eq_true (by assumption)
        have q104 : x13_2 < (l0.length : Int) := of_decide_eq_true (by assumption)
        obtain ⟨ad104, e104, hx104_0, hx104_1, hx104_2, hx104_3, hx104_4⟩ := at_T52 HR0.out x13_2 p104 q104
        cases e104
        replace hx104_0 := pw_cell_below HB.out hx104_0
        replace hx104_1 := pw_cell_below HB.out hx104_1
        replace hx104_2 := pw_cell_below HB.out hx104_2
        replace hx104_3 := pw_cell_below HB.out hx104_3
        replace hx104_4 := pw_cell_below HB.out hx104_4
        replace p104 := eq_true p104
        replace q104 := eq_true q104
        go_wp2_with (first | ((with_reducible refine gate_dst (N := 14) rfl ?_); refine box_event (by rfl) (N := 14) (by rfl) (cs := #[.int .i64 0, .int .i64 0, .int .i64 0, .string (⟨#[]⟩ : ByteArray), .int .i64 0]) (t := 52) (by first | (go_simp; done) | (go_simp; rfl)) ?_; intro gb105 hg w28 hbox hb; have _ := AM (Kd.R_below (rX HO_11.out) hb); have _ := AM (below_step (bX HB.out) hb); have _ := AM (hbox); have n3_ := AM ((by rw [hg]; exact (bZ (bX HB.out)) : w.heap.size ≤ gb105)); clear HO_11 HB; rename_i HO_11 HB BK105; have GW105 := n3_; have GE105 := n3_; clear n3_; clear hb hbox hg; have hcz29 := q5 BK105.out; have hfz29 := fZ BK105.out))
        go_roundg k2
        case measure => have := HK1.out; have := HK2.out; omega
        case rel => exact ⟨(x11_2), (wrap64 (x13_2 + 1)), (by first | rfl | (simp; done) | (simp [*]; done)), H', ⟨by have := HK1.out; have := HK2.out; omega⟩, ⟨by (with_reducible repeat (first | apply rA | apply rN | apply rD)); exact Kd.R_mono (Kd.R_far (p := ⟨gb105, 4, none⟩) (Kd.R_far (p := ⟨gb105, 3, none⟩) (Kd.R_far (p := ⟨gb105, 2, none⟩) (Kd.R_far (p := ⟨gb105, 1, none⟩) (Kd.R_far (p := ⟨gb105, 0, none⟩) (Kd.R_types HO_11.out BK105.out (by decide)) (fun _ hk => hk.2) (.int .i64 ((rd_T52 l0 x13_2).f0))) (fun _ hk => hk.2) (.int .i64 ((rd_T52 l0 x13_2).f1))) (fun _ hk => hk.2) (.int .i64 ((rd_T52 l0 x13_2).f2))) (fun _ hk => hk.2) (.string ((rd_T52 l0 x13_2).f3))) (fun _ hk => hk.2) (.int .i64 ((rd_T52 l0 x13_2).f4))) (fun _ hk => trivial)⟩, ⟨bX HB.out⟩⟩
       rw [if_neg c10] at H
       exact absurd H (by simp)
      rw [if_neg c9] at H
      have c9b0 : decide (x13_2 < (l0.length : Int)) = false := decide_eq_false c9
      clear c9
      have H' := AM H
      clear H
      go_wp2
      go_roundg k2
      case measure => have := HK1.out; have := HK2.out; omega
      case rel => exact ⟨(x11_2), (wrap64 (x12_1 + 1)), (by first | rfl | (simp; done) | (simp [*]; done)), H', ⟨by have := HK1.out; have := HK2.out; omega⟩, ⟨rX HO_11.out⟩, ⟨bX HB.out⟩⟩
   rw [if_neg c8] at H
   have c8b0 : decide (x12_1 < 4) = false := decide_eq_false c8
   clear c8
   obtain rfl := Option.some.inj H
   go_wp2
   go_ret
   exact ⟨_, by first | rfl | (simp [*, errW_none, errW_some] <;> rfl), rX HO_11.out, bX HB.out⟩

/-! ### spec_l11Proof: function 64 -/

def spec_l11Proof.l0 : Nat → List (S52) → Int → Int → List ByteArray → Int → Option (Int × Int × ByteArray × List Int × Bool)
  | 0, _, _, _, _, _ => none
  | k + 1, x0, x1, x2, x8, x9 => if x9 < (x8.length : Int) then (if 0 ≤ x9 then ((spec_l11Voters.f k x0 2 x1 x2 (rdOf ByteArray.empty x8 x9)).bind fun t106 => (if (t106.length : Int) ≥ 3 then (some (x1, x2, rdOf ByteArray.empty x8 x9, t106, true)) else (spec_l11Proof.l0 k x0 x1 x2 x8 (wrap64 (x9 + 1))))) else (none)) else (some (0, 0, (⟨#[]⟩ : ByteArray), ([] : List Int), false))
def spec_l11Proof.f (k : Nat) (l0 : List (S52)) (a1 : Int) (a2 : Int) : Option (Int × Int × ByteArray × List Int × Bool) := (spec_l11Ops.f k l0 2 a1 a2).bind fun t102 => (spec_l11Proof.l0 k l0 a1 a2 t102 0)
theorem spec_l11Proof.mono_l : ∀ k, (∀ y0 y1 y2 y3 y4, LeO (spec_l11Proof.l0 k y0 y1 y2 y3 y4) (spec_l11Proof.l0 (k + 1) y0 y1 y2 y3 y4))
  | 0 => fun _ _ _ _ _ r h => by simp [spec_l11Proof.l0] at h
  | k + 1 => by
    have ih0 := spec_l11Proof.mono_l k
    · intro y0 y1 y2 y3 y4
      unfold spec_l11Proof.l0
      repeat' first
      | (with_reducible exact ih0 _ _ _ _ _)
      | (with_reducible exact spec_l11Ops.mono _ _ _ _ _)
      | (with_reducible exact spec_l11Voters.mono _ _ _ _ _ _)
      | (with_reducible exact LeO.refl _)
      | (with_reducible exact LeO.none _)
      | (with_reducible refine LeO.ite ?_ ?_)
      | (with_reducible refine LeO.bind ?_ (fun _ => ?_))
      | exact ih0 _ _ _ _ _
      | exact spec_l11Ops.mono _ _ _ _ _
      | exact spec_l11Voters.mono _ _ _ _ _ _
      | exact LeO.none _
      | refine LeO.ite ?_ ?_
      | refine LeO.bind ?_ (fun _ => ?_)
theorem spec_l11Proof.mono : ∀ a0 a1 a2 k, LeO (spec_l11Proof.f k a0 a1 a2) (spec_l11Proof.f (k + 1) a0 a1 a2) := by
  intro a0 a1 a2 k
  have ih0 := spec_l11Proof.mono_l k
  unfold spec_l11Proof.f
  repeat' first
      | (with_reducible exact ih0 _ _ _ _ _)
      | (with_reducible exact spec_l11Ops.mono _ _ _ _ _)
      | (with_reducible exact spec_l11Voters.mono _ _ _ _ _ _)
      | (with_reducible exact LeO.refl _)
      | (with_reducible exact LeO.none _)
      | (with_reducible refine LeO.ite ?_ ?_)
      | (with_reducible refine LeO.bind ?_ (fun _ => ?_))
      | exact ih0 _ _ _ _ _
      | exact spec_l11Ops.mono _ _ _ _ _
      | exact spec_l11Voters.mono _ _ _ _ _ _
      | exact LeO.none _
      | refine LeO.ite ?_ ?_
      | refine LeO.bind ?_ (fun _ => ?_)
set_option maxHeartbeats 60000000 in
set_option maxRecDepth 100000 in
theorem spec_l11Proof.calls (k : Nat) (A0 : Option Addr) (c0 : Nat) (l0 : List (S52)) (a1 : Int) (a2 : Int) (r1 : Int) (r2 : Int) (r3 : ByteArray) (r4 : List Int) (r5 : Bool) (w : World) (hr0 : Kd.C k52 w A0 l0.length l0) (hc0 : l0.length ≤ c0) (h : spec_l11Proof.f k l0 a1 a2 = some (r1, r2, r3, r4, r5)) :
    Calls Try.prog 64 #[.slice A0 l0.length c0, .int .i64 a1, .int .i64 a2] w fun e w' => ∃ v3_ : Value, e = .returned (.tuple #[.agg #[.int .i64 r1, .int .i64 r2, .string r3, v3_], .bool r5]) ∧ Kd.R (Kd.int .i64) 2 w' w.heap.size (fun _ => True) v3_ r4 ∧ Below w.heap.size w w' := by
 have hu72 := Try.underlying72
 have HR0 := AM hr0
 have HC0 := AM hc0
 clear hr0 hc0
 have HB := AM (Below.refl w.heap.size w)
 have H : ((spec_l11Ops.f k l0 2 a1 a2).bind fun t102 => (spec_l11Proof.l0 k l0 a1 a2 t102 0)) = some (r1, r2, r3, r4, r5) := h
 clear h
 replace H := Option.bind_eq_some_iff.mp H
 obtain ⟨t102, A40, H⟩ := H
 replace H : (spec_l11Proof.l0 k l0 a1 a2 t102 0) = some (r1, r2, r3, r4, r5) := H
 have A4 := AM A40
 clear A40
 have H' := AM H
 clear H
 go_enter Try.func64, Try.ntmps64
 go_wp2_with (first | ((with_reducible refine gate_dst (N := 6) rfl ?_); refine box_event (by rfl) (N := 6) (by rfl) (cs := #[.int .i64 0, .int .i64 0, .string (⟨#[]⟩ : ByteArray), .slice none 0 0]) (t := 72) (by first | (go_simp; done) | (go_simp; rfl)) ?_; intro gb101 hg w5 hbox hb; have _ := AM (below_step (bX HB.out) hb); have _ := AM (hbox); have n2_ := AM ((by rw [hg]; exact (bZ (bX HB.out)) : w.heap.size ≤ gb101)); clear HB; rename_i HB BK101; have GW101 := n2_; have GE101 := n2_; clear n2_; clear hb hbox hg) | ((with_reducible refine gate_callee (f := 75) rfl ?_); refine goesL_ (some 14) rfl rfl Try.func75 (by kernel_rfl) rfl #[.slice A0 l0.length c0, .int .i64 2, .int .i64 a1, .int .i64 a2] rfl (by (try simp only [mA, mB, mC]); first | done | rfl | (simp only [mD, mE]; rfl)) ?_; (with_reducible refine (spec_l11Ops.calls k _ _ l0 2 a1 a2 t102 _ ?side1 ?side2 A4.out).mono ?_); (case side1 => repeat (first | exact (cB HR0.out HB.out) | (with_reducible first | apply cA | apply cN | apply cD))); (case side2 => exact HC0.out); rintro e w6 ⟨v103, rfl, ho0, hb⟩; refine ⟨_, rfl, ?_⟩; have _ := AM (Kd.R_lower ho0 (bZ (bX HB.out))); have _ := AM (nB BK101.out hb); have _ := AM (below_step (bX HB.out) hb); clear BK101 HB; rename_i HO104 BK101 HB; (try clear hb); (try clear hk); (try clear ho0)))
 go_loopg [9] k (fun kq v9 w' => ∃ (x9_1 : Int) (x102000_1 : Int) (x102001_1 : Int) (x102002_1 : ByteArray), v9 = .int .i64 x9_1 ∧ Aside0 (spec_l11Proof.l0 kq l0 a1 a2 t102 x9_1 = some (r1, r2, r3, r4, r5)) ∧ Aside0 (kq ≤ k) ∧ Aside0 (Kd.R Kd.string 9 w' w.heap.size (fun _ => True) v103 t102) ∧ Aside0 (w'.heap[gb101]? = some (.cells #[.int .i64 x102000_1, .int .i64 x102001_1, .string x102002_1, (.slice none 0 0)] 72 (0, 0))) ∧ Aside0 (Below w.heap.size w w'))
 case atStart => exact ⟨(0), (0), (0), ((⟨#[]⟩ : ByteArray)), (by first | rfl | (simp; done) | (simp [*]; done)), H', ⟨Nat.le_refl _⟩, ⟨rX HO104.out⟩, ⟨kX BK101.out⟩, ⟨bX HB.out⟩⟩
 case round =>
  clear H'
  (try clear p2); (try clear c6)
  obtain ⟨x9_1, x102000_1, x102001_1, x102002_1, rfl, HA, HK1, HO_8, BK101, HB⟩ := hrel
  cases gk with
  | zero => exact absurd HA.out (by simp [spec_l11Proof.l0])
  | succ k1 =>
   have H := HA.out
   clear HA
   simp only [spec_l11Proof.l0] at H
   by_cases c7 : x9_1 < (t102.length : Int)
   ·
    rw [if_pos c7] at H
    have c7b0 : decide (x9_1 < (t102.length : Int)) = true := decide_eq_true c7
    clear c7
    by_cases c8 : 0 ≤ x9_1
    ·
     rw [if_pos c8] at H
     have c8b0 : decide (0 ≤ x9_1) = true := decide_eq_true c8
     clear c8
     replace H := Option.bind_eq_some_iff.mp H
     obtain ⟨t106, A90, H⟩ := H
     replace H : (if (t106.length : Int) ≥ 3 then (some (a1, a2, rdOf ByteArray.empty t102 x9_1, t106, true)) else (spec_l11Proof.l0 k1 l0 a1 a2 t102 (wrap64 (x9_1 + 1)))) = some (r1, r2, r3, r4, r5) := H
     have A9 := AM A90
     clear A90
     by_cases c10 : (t106.length : Int) ≥ 3
     ·
      rw [if_pos c10] at H
      have c10b0 : decide (3 ≤ (t106.length : Int)) = true := decide_eq_true c10
      have c10b1 : decide (3 ≤ t106.length) = true := decide_eq_true (by omega)
      clear c10
      simp only [Option.some.injEq, Prod.mk.injEq] at H
      obtain ⟨rfl, rfl, rfl, rfl, rfl⟩ := H
      obtain ⟨Ao11, co11, eo11⟩ := Kd.R_slice HO_8.out
      subst eo11
      have p105 : 0 ≤ (x9_1 : Int) := of_decide_eq_true (by assumption)
      have q105 : x9_1 < (t102.length : Int) := of_decide_eq_true (by assumption)
      obtain ⟨ad105, e105, hx105_0⟩ := Kd.at_string (Kd.R_reads' HO_8.out).2.2 x9_1 p105 q105
      cases e105
      replace p105 := eq_true p105
      replace q105 := eq_true q105
      go_wp2_with (first | ((with_reducible refine gate_callee (f := 76) rfl ?_); refine goesL_ (some 28) rfl rfl Try.func76 (by kernel_rfl) rfl #[.slice A0 l0.length c0, .int .i64 2, .int .i64 a1, .int .i64 a2, .string (rdOf ByteArray.empty t102 x9_1)] rfl (by (try simp only [mA, mB, mC]); first | done | rfl | (simp only [mD, mE]; rfl)) ?_; (with_reducible refine (spec_l11Voters.calls k1 _ _ l0 2 a1 a2 (rdOf ByteArray.empty t102 x9_1) t106 _ ?side1 ?side2 A9.out).mono ?_); (case side1 => repeat (first | exact (cB HR0.out HB.out) | (with_reducible first | apply cA | apply cN | apply cD))); (case side2 => exact HC0.out); rintro e w12 ⟨v107, rfl, ho0, hb⟩; refine ⟨_, rfl, ?_⟩; have _ := AM (Kd.R_below (rX HO_8.out) hb); have _ := AM (Kd.R_lower ho0 (bZ (bX HB.out))); have _ := AM (nB BK101.out hb); have _ := AM (below_step (bX HB.out) hb); clear HO_8 BK101 HB; rename_i HO_8 HO108 BK101 HB; (try clear hb); (try clear hk); (try clear ho0); obtain ⟨Ao13, co13, eo13⟩ := Kd.R_slice HO108.out; subst eo13; have p109 : 0 ≤ (x9_1 : Int) := of_decide_eq_true (by assumption); have q109 : x9_1 < (t102.length : Int) := of_decide_eq_true (by assumption); obtain ⟨ad109, e109, hx109_0⟩ := Kd.at_string (Kd.R_reads' HO_8.out).2.2 x9_1 p109 q109; obtain rfl : ad105 = ad109 := (by injection e109); replace p109 := eq_true p109; replace q109 := eq_true q109; have hcz14 := q4 BK101.out; have hfz14 := fZ BK101.out))
      refine bodyPost_ret (results_ct rfl _ _ gb101 72 #[.int .i64 a1, .int .i64 a2, .string (rdOf ByteArray.empty t102 x9_1), .slice Ao13 t106.length co13] (0, 0) _ rfl (by refine kP (cs := #[.int .i64 a1, .int .i64 a2, .string (rdOf ByteArray.empty t102 x9_1), .slice none 0 0]) 3 ?_; refine kP (cs := #[.int .i64 a1, .int .i64 a2, .string x102002_1, .slice none 0 0]) 2 ?_; refine kP (cs := #[.int .i64 a1, .int .i64 x102001_1, .string x102002_1, .slice none 0 0]) 1 ?_; refine kP (cs := #[.int .i64 x102000_1, .int .i64 x102001_1, .string x102002_1, .slice none 0 0]) 0 ?_; (with_reducible repeat (first | apply kN | apply kD | apply kA)); exact BK101.out) Try.underlying72 rfl (by kernel_rfl)) rfl ?_
      exact ⟨_, by first | rfl | (simp [*, errW_none, errW_some] <;> rfl), by (with_reducible repeat (first | apply rA | apply rN | apply rD)); exact Rf4 HO108.out BK101.out (by decide) (fun _ hk => trivial), bX HB.out⟩
     rw [if_neg c10] at H
     have c10b0 : decide (3 ≤ (t106.length : Int)) = false := decide_eq_false c10
     have c10b1 : decide (3 ≤ t106.length) = false := decide_eq_false (by omega)
     clear c10
     have H' := AM H
     clear H
     obtain ⟨Ao15, co15, eo15⟩ := Kd.R_slice HO_8.out
     subst eo15
     have p105 : 0 ≤ (x9_1 : Int) := of_decide_eq_true (by assumption)
     have q105 : x9_1 < (t102.length : Int) := of_decide_eq_true (by assumption)
     obtain ⟨ad105, e105, hx105_0⟩ := Kd.at_string (Kd.R_reads' HO_8.out).2.2 x9_1 p105 q105
     cases e105
     replace p105 := eq_true p105
     replace q105 := eq_true q105
     go_wp2_with (first | ((with_reducible refine gate_callee (f := 76) rfl ?_); refine goesL_ (some 28) rfl rfl Try.func76 (by kernel_rfl) rfl #[.slice A0 l0.length c0, .int .i64 2, .int .i64 a1, .int .i64 a2, .string (rdOf ByteArray.empty t102 x9_1)] rfl (by (try simp only [mA, mB, mC]); first | done | rfl | (simp only [mD, mE]; rfl)) ?_; (with_reducible refine (spec_l11Voters.calls k1 _ _ l0 2 a1 a2 (rdOf ByteArray.empty t102 x9_1) t106 _ ?side1 ?side2 A9.out).mono ?_); (case side1 => repeat (first | exact (cB HR0.out HB.out) | (with_reducible first | apply cA | apply cN | apply cD))); (case side2 => exact HC0.out); rintro e w16 ⟨v107, rfl, ho0, hb⟩; refine ⟨_, rfl, ?_⟩; have _ := AM (Kd.R_below (rX HO_8.out) hb); have _ := AM (Kd.R_lower ho0 (bZ (bX HB.out))); have _ := AM (nB BK101.out hb); have _ := AM (below_step (bX HB.out) hb); clear HO_8 BK101 HB; rename_i HO_8 HO108 BK101 HB; (try clear hb); (try clear hk); (try clear ho0); obtain ⟨Ao17, co17, eo17⟩ := Kd.R_slice HO108.out; subst eo17))
     go_roundg k1
     case measure => have := HK1.out; omega
     case rel => exact ⟨(wrap64 (x9_1 + 1)), (x102000_1), (x102001_1), (x102002_1), (by first | rfl | (simp; done) | (simp [*]; done)), H', ⟨by have := HK1.out; omega⟩, ⟨rX HO_8.out⟩, ⟨kX BK101.out⟩, ⟨bX HB.out⟩⟩
    rw [if_neg c8] at H
    exact absurd H (by simp)
   rw [if_neg c7] at H
   have c7b0 : decide (x9_1 < (t102.length : Int)) = false := decide_eq_false c7
   clear c7
   simp only [Option.some.injEq, Prod.mk.injEq] at H
   obtain ⟨rfl, rfl, rfl, rfl, rfl⟩ := H
   obtain ⟨Ao18, co18, eo18⟩ := Kd.R_slice HO_8.out
   subst eo18
   have hcz19 := q4 BK101.out
   have hfz19 := fZ BK101.out
   go_wp2
   refine bodyPost_ret (results_ct rfl _ _ gb101 72 #[.int .i64 0, .int .i64 0, .string (⟨#[]⟩ : ByteArray), .slice none 0 0] (0, 0) _ rfl (by refine kP (cs := #[.int .i64 0, .int .i64 0, .string (⟨#[]⟩ : ByteArray), .slice none 0 0]) 3 ?_; refine kP (cs := #[.int .i64 0, .int .i64 0, .string x102002_1, .slice none 0 0]) 2 ?_; refine kP (cs := #[.int .i64 0, .int .i64 x102001_1, .string x102002_1, .slice none 0 0]) 1 ?_; refine kP (cs := #[.int .i64 x102000_1, .int .i64 x102001_1, .string x102002_1, .slice none 0 0]) 0 ?_; (with_reducible repeat (first | apply kN | apply kD | apply kA)); exact BK101.out) Try.underlying72 rfl (by kernel_rfl)) rfl ?_
   exact ⟨_, by first | rfl | (simp [*, errW_none, errW_some] <;> rfl), by first | exact Kd.R_nil _ _ _ _ _ | exact Kd.N_nil _ _ _ _ _ | exact Kd.V_nil _ _ _ _ _ | exact Kd.Q_nil _ _ _ _ _ | exact Kd.S_nil _ _ _ _ _, bX HB.out⟩

/-! ### spec_l11Best: function 47 -/

def spec_l11Best.l0 : Nat → List (S52) → Int → Int → Option (Int × Int × ByteArray × List Int × Bool)
  | 0, _, _, _ => none
  | k + 1, x0, x1, x8 => if x8 ≥ 0 then ((spec_l11Proof.f k x0 x8 x1).bind fun bt102 => (if bt102.2.2.2.2 = true then (some (bt102.1, bt102.2.1, bt102.2.2.1, bt102.2.2.2.1, true)) else (spec_l11Best.l0 k x0 x1 (wrap64 (x8 - 1))))) else (some (0, 0, (⟨#[]⟩ : ByteArray), ([] : List Int), false))
def spec_l11Best.f (k : Nat) (l0 : List (S52)) (a1 : Int) (a2 : Int) : Option (Int × Int × ByteArray × List Int × Bool) := spec_l11Best.l0 k l0 a1 (wrap64 (a2 - 1))
theorem spec_l11Best.mono_l : ∀ k, (∀ y0 y1 y2, LeO (spec_l11Best.l0 k y0 y1 y2) (spec_l11Best.l0 (k + 1) y0 y1 y2))
  | 0 => fun _ _ _ r h => by simp [spec_l11Best.l0] at h
  | k + 1 => by
    have ih0 := spec_l11Best.mono_l k
    · intro y0 y1 y2
      unfold spec_l11Best.l0
      repeat' first
      | (with_reducible exact ih0 _ _ _)
      | (with_reducible exact spec_l11Proof.mono _ _ _ _)
      | (with_reducible exact LeO.refl _)
      | (with_reducible exact LeO.none _)
      | (with_reducible refine LeO.ite ?_ ?_)
      | (with_reducible refine LeO.bind ?_ (fun _ => ?_))
      | exact ih0 _ _ _
      | exact spec_l11Proof.mono _ _ _ _
      | exact LeO.none _
      | refine LeO.ite ?_ ?_
      | refine LeO.bind ?_ (fun _ => ?_)
theorem spec_l11Best.mono : ∀ a0 a1 a2 k, LeO (spec_l11Best.f k a0 a1 a2) (spec_l11Best.f (k + 1) a0 a1 a2) := by
  intro a0 a1 a2 k
  have ih0 := spec_l11Best.mono_l k
  unfold spec_l11Best.f
  repeat' first
      | (with_reducible exact ih0 _ _ _)
      | (with_reducible exact spec_l11Proof.mono _ _ _ _)
      | (with_reducible exact LeO.refl _)
      | (with_reducible exact LeO.none _)
      | (with_reducible refine LeO.ite ?_ ?_)
      | (with_reducible refine LeO.bind ?_ (fun _ => ?_))
      | exact ih0 _ _ _
      | exact spec_l11Proof.mono _ _ _ _
      | exact LeO.none _
      | refine LeO.ite ?_ ?_
      | refine LeO.bind ?_ (fun _ => ?_)
set_option maxHeartbeats 60000000 in
set_option maxRecDepth 100000 in
theorem spec_l11Best.calls (k : Nat) (A0 : Option Addr) (c0 : Nat) (l0 : List (S52)) (a1 : Int) (a2 : Int) (r1 : Int) (r2 : Int) (r3 : ByteArray) (r4 : List Int) (r5 : Bool) (w : World) (hr0 : Kd.C k52 w A0 l0.length l0) (hc0 : l0.length ≤ c0) (h : spec_l11Best.f k l0 a1 a2 = some (r1, r2, r3, r4, r5)) :
    Calls Try.prog 47 #[.slice A0 l0.length c0, .int .i64 a1, .int .i64 a2] w fun e w' => ∃ v3_ : Value, e = .returned (.tuple #[.agg #[.int .i64 r1, .int .i64 r2, .string r3, v3_], .bool r5]) ∧ Kd.R (Kd.int .i64) 2 w' w.heap.size (fun _ => True) v3_ r4 ∧ Below w.heap.size w w' := by
 have hu72 := Try.underlying72
 have HR0 := AM hr0
 have HC0 := AM hc0
 clear hr0 hc0
 have HB := AM (Below.refl w.heap.size w)
 have H : (spec_l11Best.l0 k l0 a1 (wrap64 (a2 - 1))) = some (r1, r2, r3, r4, r5) := h
 clear h
 have H' := AM H
 clear H
 go_enter Try.func47, Try.ntmps47
 go_wp2_with (first | ((with_reducible refine gate_dst (N := 6) rfl ?_); refine box_event (by rfl) (N := 6) (by rfl) (cs := #[.int .i64 0, .int .i64 0, .string (⟨#[]⟩ : ByteArray), .slice none 0 0]) (t := 72) (by first | (go_simp; done) | (go_simp; rfl)) ?_; intro gb101 hg w4 hbox hb; have _ := AM (below_step (bX HB.out) hb); have _ := AM (hbox); have n2_ := AM ((by rw [hg]; exact (bZ (bX HB.out)) : w.heap.size ≤ gb101)); clear HB; rename_i HB BK101; have GW101 := n2_; have GE101 := n2_; clear n2_; clear hb hbox hg))
 go_loopg [8] k (fun kq v8 w' => ∃ (x8_1 : Int) (x102000_1 : Int) (x102001_1 : Int) (x102002_1 : ByteArray), v8 = .int .i64 x8_1 ∧ Aside0 (spec_l11Best.l0 kq l0 a1 x8_1 = some (r1, r2, r3, r4, r5)) ∧ Aside0 (kq ≤ k) ∧ Aside0 (w'.heap[gb101]? = some (.cells #[.int .i64 x102000_1, .int .i64 x102001_1, .string x102002_1, (.slice none 0 0)] 72 (0, 0))) ∧ Aside0 (Below w.heap.size w w'))
 case atStart => exact ⟨(wrap64 (a2 - 1)), (0), (0), ((⟨#[]⟩ : ByteArray)), (by first | rfl | (simp; done) | (simp [*]; done)), H', ⟨Nat.le_refl _⟩, ⟨kX BK101.out⟩, ⟨bX HB.out⟩⟩
 case round =>
  clear H'
  (try clear p2); (try clear c4)
  obtain ⟨x8_1, x102000_1, x102001_1, x102002_1, rfl, HA, HK1, BK101, HB⟩ := hrel
  cases gk with
  | zero => exact absurd HA.out (by simp [spec_l11Best.l0])
  | succ k1 =>
   have H := HA.out
   clear HA
   simp only [spec_l11Best.l0] at H
   by_cases c5 : x8_1 ≥ 0
   ·
    rw [if_pos c5] at H
    have c5b0 : decide (0 ≤ x8_1) = true := decide_eq_true c5
    clear c5
    replace H := Option.bind_eq_some_iff.mp H
    obtain ⟨⟨t102, t103, t104, t105, t108⟩, A60, H⟩ := H
    try dsimp only at H
    have A6 := AM A60
    clear A60
    by_cases c7 : t108 = true
    ·
     subst c7
     have H1 : (some (t102, t103, t104, t105, true)) = some (r1, r2, r3, r4, r5) := by rw [if_pos rfl] at H; exact H
     clear H
     have H := H1
     clear H1
     simp only [Option.some.injEq, Prod.mk.injEq] at H
     obtain ⟨rfl, rfl, rfl, rfl, rfl⟩ := H
     go_wp2_with (first | ((with_reducible refine gate_callee (f := 64) rfl ?_); refine goesL_ (some 21) rfl rfl Try.func64 (by kernel_rfl) rfl #[.slice A0 l0.length c0, .int .i64 x8_1, .int .i64 a1] rfl (by (try simp only [mA, mB, mC]); first | done | rfl | (simp only [mD, mE]; rfl)) ?_; (with_reducible refine (spec_l11Proof.calls k1 _ _ l0 x8_1 a1 t102 t103 t104 t105 true _ ?side1 ?side2 A6.out).mono ?_); (case side1 => repeat (first | exact (cB HR0.out HB.out) | (with_reducible first | apply cA | apply cN | apply cD))); (case side2 => exact HC0.out); rintro e w8 ⟨v106, rfl, ho0, hb⟩; refine ⟨_, rfl, ?_⟩; have _ := AM (Kd.R_lower ho0 (bZ (bX HB.out))); have _ := AM (nB BK101.out hb); have _ := AM (below_step (bX HB.out) hb); clear BK101 HB; rename_i HO107 BK101 HB; (try clear hb); (try clear hk); (try clear ho0)) | ((with_reducible refine gate_dst (N := 9) rfl ?_); refine box_event (by rfl) (N := 9) (by rfl) (cs := #[.int .i64 0, .int .i64 0, .string (⟨#[]⟩ : ByteArray), .slice none 0 0]) (t := 72) (by first | (go_simp; done) | (go_simp; rfl)) ?_; intro gb109 hg w9 hbox hb; have _ := AM (Kd.R_below (rX HO107.out) hb); have _ := AM (nB BK101.out hb); have _ := AM (below_step (bX HB.out) hb); have _ := AM (hbox); have n4_ := AM ((by rw [hg]; exact (bZ (bX HB.out)) : w.heap.size ≤ gb109)); have _ := AM (lX hg BK101.out); have _ := AM (lX hg BK101.out).symm; clear HO107 BK101 HB; rename_i HO107 BK101 HB BK109 NB101_109 NB109_101; have GW109 := n4_; have GE109 := n4_; clear n4_; clear hb hbox hg; have hnb10 := NB109_101.out; have hnc10 := NB101_109.out; have hcz11 := q4 BK109.out; have hfz11 := fZ BK109.out; obtain ⟨Ao12, co12, eo12⟩ := Kd.R_slice HO107.out; subst eo12; have hcz13 := q4 BK101.out; have hfz13 := fZ BK101.out))
     refine bodyPost_ret (results_ct rfl _ _ gb101 72 #[.int .i64 t102, .int .i64 t103, .string t104, .slice Ao12 t105.length co12] (0, 0) _ rfl (by refine kP (cs := #[.int .i64 t102, .int .i64 t103, .string t104, .slice none 0 0]) 3 ?_; refine kP (cs := #[.int .i64 t102, .int .i64 t103, .string x102002_1, .slice none 0 0]) 2 ?_; refine kP (cs := #[.int .i64 t102, .int .i64 x102001_1, .string x102002_1, .slice none 0 0]) 1 ?_; refine kP (cs := #[.int .i64 x102000_1, .int .i64 x102001_1, .string x102002_1, .slice none 0 0]) 0 ?_; (iterate 4 refine kF NB101_109.out ?_); (with_reducible repeat (first | apply kN | apply kD | apply kA)); exact BK101.out) Try.underlying72 rfl (by kernel_rfl)) rfl ?_
     exact ⟨_, by first | rfl | (simp [*, errW_none, errW_some] <;> rfl), by (with_reducible repeat (first | apply rA | apply rN | apply rD)); exact Kd.R_mono (Kd.R_far (p := ⟨gb101, 3, none⟩) (Kd.R_far (p := ⟨gb101, 2, none⟩) (Kd.R_far (p := ⟨gb101, 1, none⟩) (Kd.R_far (p := ⟨gb101, 0, none⟩) (Kd.R_far (p := ⟨gb109, 3, none⟩) (Kd.R_far (p := ⟨gb109, 2, none⟩) (Kd.R_far (p := ⟨gb109, 1, none⟩) (Kd.R_far (p := ⟨gb109, 0, none⟩) (Kd.R_types (Kd.R_types HO107.out BK109.out (by decide)) BK101.out (by decide)) (fun _ hk => hk.1.2) (.int .i64 t102)) (fun _ hk => hk.1.2) (.int .i64 t103)) (fun _ hk => hk.1.2) (.string t104)) (fun _ hk => hk.1.2) (.slice Ao12 t105.length co12)) (fun _ hk => hk.2) (.int .i64 t102)) (fun _ hk => hk.2) (.int .i64 t103)) (fun _ hk => hk.2) (.string t104)) (fun _ hk => hk.2) (.slice Ao12 t105.length co12)) (fun _ hk => trivial), bX HB.out⟩
    replace c7 := Bool.eq_false_iff.mpr c7
    subst c7
    have H1 : (spec_l11Best.l0 k1 l0 a1 (wrap64 (x8_1 - 1))) = some (r1, r2, r3, r4, r5) := by rw [if_neg (show ¬ (false = true) by decide)] at H; exact H
    clear H
    have H := H1
    clear H1
    have H' := AM H
    clear H
    go_wp2_with (first | ((with_reducible refine gate_callee (f := 64) rfl ?_); refine goesL_ (some 21) rfl rfl Try.func64 (by kernel_rfl) rfl #[.slice A0 l0.length c0, .int .i64 x8_1, .int .i64 a1] rfl (by (try simp only [mA, mB, mC]); first | done | rfl | (simp only [mD, mE]; rfl)) ?_; (with_reducible refine (spec_l11Proof.calls k1 _ _ l0 x8_1 a1 t102 t103 t104 t105 false _ ?side1 ?side2 A6.out).mono ?_); (case side1 => repeat (first | exact (cB HR0.out HB.out) | (with_reducible first | apply cA | apply cN | apply cD))); (case side2 => exact HC0.out); rintro e w14 ⟨v106, rfl, ho0, hb⟩; refine ⟨_, rfl, ?_⟩; have _ := AM (Kd.R_lower ho0 (bZ (bX HB.out))); have _ := AM (nB BK101.out hb); have _ := AM (below_step (bX HB.out) hb); clear BK101 HB; rename_i HO107 BK101 HB; (try clear hb); (try clear hk); (try clear ho0)) | ((with_reducible refine gate_dst (N := 9) rfl ?_); refine box_event (by rfl) (N := 9) (by rfl) (cs := #[.int .i64 0, .int .i64 0, .string (⟨#[]⟩ : ByteArray), .slice none 0 0]) (t := 72) (by first | (go_simp; done) | (go_simp; rfl)) ?_; intro gb109 hg w15 hbox hb; have _ := AM (Kd.R_below (rX HO107.out) hb); have _ := AM (nB BK101.out hb); have _ := AM (below_step (bX HB.out) hb); have _ := AM (hbox); have n4_ := AM ((by rw [hg]; exact (bZ (bX HB.out)) : w.heap.size ≤ gb109)); have _ := AM (lX hg BK101.out); have _ := AM (lX hg BK101.out).symm; clear HO107 BK101 HB; rename_i HO107 BK101 HB BK109 NB101_109 NB109_101; have GW109 := n4_; have GE109 := n4_; clear n4_; clear hb hbox hg; have hnb16 := NB109_101.out; have hnc16 := NB101_109.out; have hcz17 := q4 BK109.out; have hfz17 := fZ BK109.out; obtain ⟨Ao18, co18, eo18⟩ := Kd.R_slice HO107.out; subst eo18))
    go_roundg k1
    case measure => have := HK1.out; omega
    case rel => exact ⟨(wrap64 (x8_1 - 1)), (x102000_1), (x102001_1), (x102002_1), (by first | rfl | (simp; done) | (simp [*]; done)), H', ⟨by have := HK1.out; omega⟩, ⟨by (iterate 4 refine kF NB101_109.out ?_); (with_reducible repeat (first | apply kN | apply kD | apply kA)); exact BK101.out⟩, ⟨bX HB.out⟩⟩
   rw [if_neg c5] at H
   have c5b0 : decide (0 ≤ x8_1) = false := decide_eq_false c5
   clear c5
   simp only [Option.some.injEq, Prod.mk.injEq] at H
   obtain ⟨rfl, rfl, rfl, rfl, rfl⟩ := H
   have hcz19 := q4 BK101.out
   have hfz19 := fZ BK101.out
   go_wp2
   refine bodyPost_ret (results_ct rfl _ _ gb101 72 #[.int .i64 0, .int .i64 0, .string (⟨#[]⟩ : ByteArray), .slice none 0 0] (0, 0) _ rfl (by refine kP (cs := #[.int .i64 0, .int .i64 0, .string (⟨#[]⟩ : ByteArray), .slice none 0 0]) 3 ?_; refine kP (cs := #[.int .i64 0, .int .i64 0, .string x102002_1, .slice none 0 0]) 2 ?_; refine kP (cs := #[.int .i64 0, .int .i64 x102001_1, .string x102002_1, .slice none 0 0]) 1 ?_; refine kP (cs := #[.int .i64 x102000_1, .int .i64 x102001_1, .string x102002_1, .slice none 0 0]) 0 ?_; (with_reducible repeat (first | apply kN | apply kD | apply kA)); exact BK101.out) Try.underlying72 rfl (by kernel_rfl)) rfl ?_
   exact ⟨_, by first | rfl | (simp [*, errW_none, errW_some] <;> rfl), by first | exact Kd.R_nil _ _ _ _ _ | exact Kd.N_nil _ _ _ _ _ | exact Kd.V_nil _ _ _ _ _ | exact Kd.Q_nil _ _ _ _ _ | exact Kd.S_nil _ _ _ _ _, bX HB.out⟩

/-! ### spec_l12Change: function 27 -/

def spec_l12Change.l0 : Nat → List (S52) → Int → Int → Int → Int → List (S72) → Option (Int × Int × (List (S72)))
  | 0, _, _, _, _, _, _ => none
  | k + 1, x0, x2, x8, x103000, x103001, x103002 => if x8 ≤ 6 then ((spec_l11Best.f k x0 x8 x2).bind fun bt103 => (if bt103.2.2.2.2 = true then (if x103002.length < 2513169434916 then (spec_l12Change.l0 k x0 x2 (wrap64 (x8 + 1)) x103000 x103001 (x103002 ++ [(⟨bt103.1, bt103.2.1, bt103.2.2.1, bt103.2.2.2.1⟩ : S72)])) else (none)) else (spec_l12Change.l0 k x0 x2 (wrap64 (x8 + 1)) x103000 x103001 x103002))) else (some (x103000, x103001, x103002))
def spec_l12Change.f (k : Nat) (l0 : List (S52)) (a1 : Int) (a2 : Int) : Option (Int × Int × (List (S72))) := spec_l12Change.l0 k l0 a2 1 a1 a2 ([] : List (S72))
theorem spec_l12Change.mono_l : ∀ k, (∀ y0 y1 y2 y3 y4 y5, LeO (spec_l12Change.l0 k y0 y1 y2 y3 y4 y5) (spec_l12Change.l0 (k + 1) y0 y1 y2 y3 y4 y5))
  | 0 => fun _ _ _ _ _ _ r h => by simp [spec_l12Change.l0] at h
  | k + 1 => by
    have ih0 := spec_l12Change.mono_l k
    · intro y0 y1 y2 y3 y4 y5
      unfold spec_l12Change.l0
      repeat' first
      | (with_reducible exact ih0 _ _ _ _ _ _)
      | (with_reducible exact spec_l11Best.mono _ _ _ _)
      | (with_reducible exact LeO.refl _)
      | (with_reducible exact LeO.none _)
      | (with_reducible refine LeO.ite ?_ ?_)
      | (with_reducible refine LeO.bind ?_ (fun _ => ?_))
      | exact ih0 _ _ _ _ _ _
      | exact spec_l11Best.mono _ _ _ _
      | exact LeO.none _
      | refine LeO.ite ?_ ?_
      | refine LeO.bind ?_ (fun _ => ?_)
theorem spec_l12Change.mono : ∀ a0 a1 a2 k, LeO (spec_l12Change.f k a0 a1 a2) (spec_l12Change.f (k + 1) a0 a1 a2) := by
  intro a0 a1 a2 k
  have ih0 := spec_l12Change.mono_l k
  unfold spec_l12Change.f
  repeat' first
      | (with_reducible exact ih0 _ _ _ _ _ _)
      | (with_reducible exact spec_l11Best.mono _ _ _ _)
      | (with_reducible exact LeO.refl _)
      | (with_reducible exact LeO.none _)
      | (with_reducible refine LeO.ite ?_ ?_)
      | (with_reducible refine LeO.bind ?_ (fun _ => ?_))
      | exact ih0 _ _ _ _ _ _
      | exact spec_l11Best.mono _ _ _ _
      | exact LeO.none _
      | refine LeO.ite ?_ ?_
      | refine LeO.bind ?_ (fun _ => ?_)
set_option maxHeartbeats 60000000 in
set_option maxRecDepth 100000 in
theorem spec_l12Change.calls (k : Nat) (A0 : Option Addr) (c0 : Nat) (l0 : List (S52)) (a1 : Int) (a2 : Int) (r1 : Int) (r2 : Int) (r3 : List (S72)) (w : World) (hr0 : Kd.C k52 w A0 l0.length l0) (hc0 : l0.length ≤ c0) (h : spec_l12Change.f k l0 a1 a2 = some (r1, r2, r3)) :
    Calls Try.prog 27 #[.slice A0 l0.length c0, .int .i64 a1, .int .i64 a2] w fun e w' => ∃ v2_ : Value, e = .returned (.agg #[.int .i64 r1, .int .i64 r2, v2_]) ∧ Kd.S k72 72 w' w.heap.size (fun _ => True) v2_ r3 ∧ Below w.heap.size w w' := by
 have hu26 := Try.underlying26
 have hu72 := Try.underlying72
 have HR0 := AM hr0
 have HC0 := AM hc0
 clear hr0 hc0
 have HB := AM (Below.refl w.heap.size w)
 have H : (spec_l12Change.l0 k l0 a2 1 a1 a2 ([] : List (S72))) = some (r1, r2, r3) := h
 clear h
 have H' := AM H
 clear H
 go_enter Try.func27, Try.ntmps27
 go_wp2_with (first | ((with_reducible refine gate_dst (N := 6) rfl ?_); refine box_event (by rfl) (N := 6) (by rfl) (cs := #[.int .i64 0, .int .i64 0, .slice none 0 0]) (t := 26) (by first | (go_simp; done) | (go_simp; rfl)) ?_; intro gb101 hg w4 hbox hb; have _ := AM (below_step (bX HB.out) hb); have _ := AM (hbox); have n2_ := AM ((by rw [hg]; exact (bZ (bX HB.out)) : w.heap.size ≤ gb101)); clear HB; rename_i HB BK101; have GW101 := n2_; have GE101 := n2_; clear n2_; clear hb hbox hg) | ((with_reducible refine gate_dst (N := 7) rfl ?_); refine box_event (by rfl) (N := 7) (by rfl) (cs := #[.int .i64 0, .int .i64 0, .slice none 0 0]) (t := 26) (by first | (go_simp; done) | (go_simp; rfl)) ?_; intro gb102 hg w5 hbox hb; have _ := AM (nB BK101.out hb); have _ := AM (below_step (bX HB.out) hb); have _ := AM (hbox); have n3_ := AM ((by rw [hg]; exact (bZ (bX HB.out)) : w.heap.size ≤ gb102)); have _ := AM (lX hg BK101.out); have _ := AM (lX hg BK101.out).symm; clear BK101 HB; rename_i BK101 HB BK102 NB101_102 NB102_101; have GW102 := n3_; have GE102 := n3_; clear n3_; clear hb hbox hg; have hnb6 := NB102_101.out; have hnc6 := NB101_102.out; have hcz7 := q3 BK102.out; have hfz7 := fZ BK102.out))
 go_loopg [8] k (fun kq v8 w' => ∃ (x8_1 : Int) (x103002_1 : List (S72)) (u103002 : Value), v8 = .int .i64 x8_1 ∧ Aside0 (spec_l12Change.l0 kq l0 a2 x8_1 a1 a2 x103002_1 = some (r1, r2, r3)) ∧ Aside0 (kq ≤ k) ∧ Aside0 (Kd.S k72 72 w' w.heap.size (fun _ => True) u103002 x103002_1) ∧ Aside0 (w'.heap[gb101]? = some (.cells #[.int .i64 0, .int .i64 0, (.slice none 0 0)] 26 (0, 0))) ∧ Aside0 (w'.heap[gb102]? = some (.cells #[.int .i64 a1, .int .i64 a2, u103002] 26 (0, 0))) ∧ Aside0 (Below w.heap.size w w'))
 case atStart => exact ⟨(1), (([] : List (S72))), (.slice none 0 0), (by first | rfl | (simp; done) | (simp [*]; done)), H', ⟨Nat.le_refl _⟩, ⟨by first | exact Kd.S_nil _ _ _ _ _ | exact Kd.N_nil _ _ _ _ _ | exact Kd.V_nil _ _ _ _ _ | exact Kd.Q_nil _ _ _ _ _ | exact Kd.R_nil _ _ _ _ _⟩, ⟨by (iterate 3 refine kF NB101_102.out ?_); (with_reducible repeat (first | apply kN | apply kD | apply kA)); exact BK101.out⟩, ⟨by refine kP (cs := #[.int .i64 a1, .int .i64 a2, .slice none 0 0]) 2 ?_; refine kP (cs := #[.int .i64 a1, .int .i64 0, .slice none 0 0]) 1 ?_; refine kP (cs := #[.int .i64 0, .int .i64 0, .slice none 0 0]) 0 ?_; (with_reducible repeat (first | apply kN | apply kD | apply kA)); exact BK102.out⟩, ⟨bX HB.out⟩⟩
 case round =>
  clear H'
  (try clear c2); (try clear p2); (try clear c6); (try clear hcz7); (try clear hfz7)
  obtain ⟨x8_1, x103002_1, u103002, rfl, HA, HK1, HO_103002, BK101, BK102, HB⟩ := hrel
  cases gk with
  | zero => exact absurd HA.out (by simp [spec_l12Change.l0])
  | succ k1 =>
   have H := HA.out
   clear HA
   simp only [spec_l12Change.l0] at H
   by_cases c8 : x8_1 ≤ 6
   ·
    rw [if_pos c8] at H
    have c8b0 : decide (x8_1 ≤ 6) = true := decide_eq_true c8
    clear c8
    replace H := Option.bind_eq_some_iff.mp H
    obtain ⟨⟨t103, t104, t105, t106, t109⟩, A90, H⟩ := H
    try dsimp only at H
    have A9 := AM A90
    clear A90
    by_cases c10 : t109 = true
    ·
     subst c10
     have H1 : (if x103002_1.length < 2513169434916 then (spec_l12Change.l0 k1 l0 a2 (wrap64 (x8_1 + 1)) a1 a2 (x103002_1 ++ [(⟨t103, t104, t105, t106⟩ : S72)])) else (none)) = some (r1, r2, r3) := by rw [if_pos rfl] at H; exact H
     clear H
     have H := H1
     clear H1
     by_cases c11 : x103002_1.length < 2513169434916
     ·
      rw [if_pos c11] at H
      have LMc11 := AM c11
      clear c11
      obtain ⟨y111, hy111⟩ : ∃ y_ : List (S72), y_ = (x103002_1 ++ [(⟨t103, t104, t105, t106⟩ : S72)]) := ⟨_, rfl⟩
      replace H : (spec_l12Change.l0 k1 l0 a2 (wrap64 (x8_1 + 1)) a1 a2 y111) = some (r1, r2, r3) := by first | (rw [hy111]; with_reducible exact H) | (have H2_ := (Option.bind_some _ _).symm.trans H; rw [hy111]; with_reducible exact H2_) | (have H2_ := (Option.bind_some _ _).symm.trans H; with_reducible exact H2_) | with_reducible exact H | (rw [hy111]; exact H) | exact H
      have Ny111 := AM hy111
      clear hy111
      have H' := AM H
      clear H
      go_wp2_with (first | ((with_reducible refine gate_callee (f := 47) rfl ?_); refine goesL_ (some 22) rfl rfl Try.func47 (by kernel_rfl) rfl #[.slice A0 l0.length c0, .int .i64 x8_1, .int .i64 a2] rfl (by (try simp only [mA, mB, mC]); first | done | rfl | (simp only [mD, mE]; rfl)) ?_; (with_reducible refine (spec_l11Best.calls k1 _ _ l0 x8_1 a2 t103 t104 t105 t106 true _ ?side1 ?side2 A9.out).mono ?_); (case side1 => repeat (first | exact (cB HR0.out HB.out) | (with_reducible first | apply cA | apply cN | apply cD))); (case side2 => exact HC0.out); rintro e w12 ⟨v107, rfl, ho0, hb⟩; refine ⟨_, rfl, ?_⟩; have _ := AM (Kd.S_elder' (by (with_reducible repeat (first | apply Kd.S_alloc | apply Kd.S_drewN | apply Kd.S_drew)); exact HO_103002.out) (Kd.R_base ho0) hb); have _ := AM (Kd.R_lower ho0 (bZ (bX HB.out))); have _ := AM (nB BK101.out hb); have _ := AM (nB BK102.out hb); have _ := AM (below_step (bX HB.out) hb); clear HO_103002 BK101 BK102 HB; rename_i HO_103002 HO108 BK101 BK102 HB; (try clear hb); (try clear hk); (try clear ho0)) | ((with_reducible refine gate_dst (N := 9) rfl ?_); refine box_event (by rfl) (N := 9) (by rfl) (cs := #[.int .i64 0, .int .i64 0, .string (⟨#[]⟩ : ByteArray), .slice none 0 0]) (t := 72) (by first | (go_simp; done) | (go_simp; rfl)) ?_; intro gb110 hg w13 hbox hb; have _ := AM (Kd.S_below (Kd.S_elderB (by (with_reducible repeat (first | apply Kd.S_alloc | apply Kd.S_drewN | apply Kd.S_drew)); exact HO_103002.out) gb110 (Nat.le_of_eq hg.symm)) hb); have _ := AM (Kd.R_below (rX HO108.out) hb); have _ := AM (nB BK101.out hb); have _ := AM (nB BK102.out hb); have _ := AM (below_step (bX HB.out) hb); have _ := AM (hbox); have n6_ := AM ((by rw [hg]; exact (bZ (bX HB.out)) : w.heap.size ≤ gb110)); have _ := AM (lX hg BK101.out); have _ := AM (lX hg BK101.out).symm; have _ := AM (lX hg BK102.out); have _ := AM (lX hg BK102.out).symm; clear HO_103002 HO108 BK101 BK102 HB; rename_i HO_103002 HO108 BK101 BK102 HB BK110 NB101_110 NB110_101 NB102_110 NB110_102; have GW110 := n6_; have GE110 := n6_; clear n6_; clear hb hbox hg; have hnb14 := NB110_101.out; have hnc14 := NB101_110.out; have hnb15 := NB110_102.out; have hnc15 := NB102_110.out; have hcz16 := q4 BK110.out; have hfz16 := fZ BK110.out; obtain ⟨Ao17, co17, eo17⟩ := Kd.R_slice HO108.out; subst eo17) | ((with_reducible refine gate_store (t := 72) (p := 9) rfl ?_); refine store_event (t := 72) (p := 9) (v := ?vo_w18) (w1 := ((((w13.setCell ⟨gb110, 0, none⟩ (.int .i64 t103)).setCell ⟨gb110, 1, none⟩ (.int .i64 t104)).setCell ⟨gb110, 2, none⟩ (.string t105)).setCell ⟨gb110, 3, none⟩ (.slice Ao17 t106.length co17))) ?hg ?ho ?hn ?hr ?_; (case ho => rfl); (case hg => rfl); (case hn => rfl); (case hr => first | (go_simp; done) | (go_simp; rfl)); intro w18 hw; have _ : Aside0 (Kd.S k72 72 w18 w.heap.size (fun k_ => some k_ ≠ (.slice Ao17 t106.length co17 : Value).ownBlock ∧ k_ ≠ gb110) u103002 x103002_1) := ⟨(by rw [hw]; exact (by (with_reducible repeat (first | apply Kd.S_alloc | apply Kd.S_drewN | apply Kd.S_drew)); exact Kd.S_mono (Kd.S_far (p := ⟨gb110, 3, none⟩) (Kd.S_far (p := ⟨gb110, 2, none⟩) (Kd.S_far (p := ⟨gb110, 1, none⟩) (Kd.S_far (p := ⟨gb110, 0, none⟩) (Kd.S_mono HO_103002.out (fun k_ hk => (⟨hk, hk.2⟩ : _ ∧ k_ ≠ gb110))) (fun _ hk => hk.2) (.int .i64 t103)) (fun _ hk => hk.2) (.int .i64 t104)) (fun _ hk => hk.2) (.string t105)) (fun _ hk => hk.2) (.slice Ao17 t106.length co17)) (fun _ hk => ⟨hk.1.1.2, hk.1.2⟩)))⟩; have _ : Aside0 (Kd.R (Kd.int .i64) 2 w18 w.heap.size (fun _ => True) (.slice Ao17 t106.length co17) t106) := ⟨(by rw [hw]; exact (by (with_reducible repeat (first | apply rA | apply rN | apply rD)); exact Rf4 HO108.out BK110.out (by decide) (fun _ hk => trivial)))⟩; have _ : Aside0 (w18.heap[gb101]? = some (.cells #[.int .i64 0, .int .i64 0, .slice none 0 0] 26 (0, 0))) := ⟨(by rw [hw]; exact (by (iterate 4 refine kF NB101_110.out ?_); (with_reducible repeat (first | apply kN | apply kD | apply kA)); exact BK101.out))⟩; have _ : Aside0 (w18.heap[gb102]? = some (.cells #[.int .i64 a1, .int .i64 a2, u103002] 26 (0, 0))) := ⟨(by rw [hw]; exact (by (iterate 4 refine kF NB102_110.out ?_); (with_reducible repeat (first | apply kN | apply kD | apply kA)); exact BK102.out))⟩; have _ : Aside0 (w18.heap[gb110]? = some (.cells #[.int .i64 t103, .int .i64 t104, .string t105, .slice Ao17 t106.length co17] 72 (0, 0))) := ⟨(by rw [hw]; exact (by refine kP (cs := #[.int .i64 t103, .int .i64 t104, .string t105, .slice none 0 0]) 3 ?_; refine kP (cs := #[.int .i64 t103, .int .i64 t104, .string (⟨#[]⟩ : ByteArray), .slice none 0 0]) 2 ?_; refine kP (cs := #[.int .i64 t103, .int .i64 0, .string (⟨#[]⟩ : ByteArray), .slice none 0 0]) 1 ?_; refine kP (cs := #[.int .i64 0, .int .i64 0, .string (⟨#[]⟩ : ByteArray), .slice none 0 0]) 0 ?_; (with_reducible repeat (first | apply kN | apply kD | apply kA)); exact BK110.out))⟩; have _ : Aside0 (Below w.heap.size w w18) := ⟨(by rw [hw]; exact (bX HB.out))⟩; clear hw HO_103002 HO108 BK101 BK102 BK110 HB; rename_i HO_103002 HO108 BK101 BK102 BK110 HB; have hnb19 := NB102_101.out; have hnc19 := NB101_102.out; have hcz20 := q3 BK102.out; have hfz20 := fZ BK102.out; have hcz21 := q4 BK110.out; have hfz21 := fZ BK110.out) | ((with_reducible refine gate_builtin (b := .append) (xs := #[.tmp 27, .tmp 29]) rfl ?_); at_builtin; refine Kd.S_append k72 (w0 := w) w.heap.size rfl (.tmp 27) (.tmp 29) 24 72 (.agg #[(.int .i64 0), (.int .i64 0), (.string ⟨#[]⟩), (.slice none 0 0)]) 56 rfl Try.underlying24 info72 rfl (by decide) (by omega) u103002 x103002_1 (⟨t103, t104, t105, t106⟩ : S72) [.int .i64 t103, .int .i64 t104, .string t105, .slice Ao17 t106.length co17] (fun k_ => k_ ≠ gb110) (fun k_ => some k_ = (.slice Ao17 t106.length co17 : Value).ownBlock) rfl rfl ?aP (fun k_ hk_ => ((Kd.R_mono (ok' := fun k_ => ((fun k_ => k_ ≠ gb110)) k_ ∧ some k_ ≠ (u103002 : Value).ownBlock) (Kd.R_types (Kd.R_apart' (HO108.out) (Kd.S_typed HO_103002.out) (by decide)) BK110.out (by decide)) (fun k_ hk => ⟨hk.2, hk.1.2⟩))).1 k_ hk_.symm) ?aF ?aO ?aB ?aS ?aL ?_; (case aP => exact k72_mkM _ _ _ (⟨t103, t104, t105, t106⟩ : S72) (Kd.R_mono (Kd.R_tight rfl (Kd.R_mono (ok' := fun k_ => ((fun k_ => k_ ≠ gb110)) k_ ∧ some k_ ≠ (u103002 : Value).ownBlock) (Kd.R_types (Kd.R_apart' (HO108.out) (Kd.S_typed HO_103002.out) (by decide)) BK110.out (by decide)) (fun k_ hk => ⟨hk.2, hk.1.2⟩))) (fun _ h_ => h_))); (case aB => exact (bX HB.out)); (case aF => exact (fun k_ hk => Kd.freshB (g := gb110) (o := .cells #[.int .i64 t103, .int .i64 t104, .string t105, .slice Ao17 t106.length co17] 72 (0, 0)) (kX BK110.out) k_ hk)); (case aO => exact (by (with_reducible repeat (first | apply Kd.S_alloc | apply Kd.S_drewN | apply Kd.S_drew)); exact Kd.S_mono HO_103002.out (fun k_ hk => ⟨hk.2, fun e_ => hk.1 e_⟩))); (case aS => exact (bZ (bX HB.out))); (case aL => have := LMc11.out; omega); intro v112 w22 ho hb hg hat; rw [← Ny111.out] at ho; have _ := AM (blk_grown (g := gb101) (o := .cells #[.int .i64 0, .int .i64 0, .slice none 0 0] 26 (0, 0)) (kX BK101.out) hg (Kd.S_ne HO_103002.out BK101.out (by decide))); have _ := AM (blk_grown (g := gb102) (o := .cells #[.int .i64 a1, .int .i64 a2, u103002] 26 (0, 0)) (kX BK102.out) hg (Kd.S_ne HO_103002.out BK102.out (by decide))); have _ := AM (blk_grown (g := gb110) (o := .cells #[.int .i64 t103, .int .i64 t104, .string t105, .slice Ao17 t106.length co17] 72 (0, 0)) (kX BK110.out) hg (Kd.S_away HO_103002.out (fun _ hk => hk.2))); have _ := AM (hb); have _ := AM (ho); clear BK101 BK102 BK110 HB HO_103002 HO108; rename_i BK101 BK102 BK110 HB HO113; clear ho hb hg hat; obtain ⟨Ao23, co23, eo23⟩ := Kd.S_slice HO113.out; subst eo23; have hcz24 := q3 BK102.out; have hfz24 := fZ BK102.out))
      go_roundg k1
      case measure => have := HK1.out; omega
      case rel => exact ⟨(wrap64 (x8_1 + 1)), (y111), (.slice Ao23 y111.length co23), (by first | rfl | (simp; done) | (simp [*]; done)), H', ⟨by have := HK1.out; omega⟩, ⟨by (with_reducible repeat (first | apply Kd.S_alloc | apply Kd.S_drewN | apply Kd.S_drew)); exact Kd.S_mono (Kd.S_far (p := ⟨gb102, 2, none⟩) (Kd.S_types HO113.out BK102.out (by decide)) (fun _ hk => hk.2) (.slice Ao23 y111.length co23)) (fun _ hk => trivial)⟩, ⟨by refine kF NB101_102.out ?_; (with_reducible repeat (first | apply kN | apply kD | apply kA)); exact BK101.out⟩, ⟨by refine kP (cs := #[.int .i64 a1, .int .i64 a2, u103002]) 2 ?_; (with_reducible repeat (first | apply kN | apply kD | apply kA)); exact BK102.out⟩, ⟨bX HB.out⟩⟩
     rw [if_neg c11] at H
     exact absurd H (by simp)
    replace c10 := Bool.eq_false_iff.mpr c10
    subst c10
    have H1 : (spec_l12Change.l0 k1 l0 a2 (wrap64 (x8_1 + 1)) a1 a2 x103002_1) = some (r1, r2, r3) := by rw [if_neg (show ¬ (false = true) by decide)] at H; exact H
    clear H
    have H := H1
    clear H1
    have H' := AM H
    clear H
    go_wp2_with (first | ((with_reducible refine gate_callee (f := 47) rfl ?_); refine goesL_ (some 22) rfl rfl Try.func47 (by kernel_rfl) rfl #[.slice A0 l0.length c0, .int .i64 x8_1, .int .i64 a2] rfl (by (try simp only [mA, mB, mC]); first | done | rfl | (simp only [mD, mE]; rfl)) ?_; (with_reducible refine (spec_l11Best.calls k1 _ _ l0 x8_1 a2 t103 t104 t105 t106 false _ ?side1 ?side2 A9.out).mono ?_); (case side1 => repeat (first | exact (cB HR0.out HB.out) | (with_reducible first | apply cA | apply cN | apply cD))); (case side2 => exact HC0.out); rintro e w25 ⟨v107, rfl, ho0, hb⟩; refine ⟨_, rfl, ?_⟩; have _ := AM (Kd.S_elder' (by (with_reducible repeat (first | apply Kd.S_alloc | apply Kd.S_drewN | apply Kd.S_drew)); exact HO_103002.out) (Kd.R_base ho0) hb); have _ := AM (Kd.R_lower ho0 (bZ (bX HB.out))); have _ := AM (nB BK101.out hb); have _ := AM (nB BK102.out hb); have _ := AM (below_step (bX HB.out) hb); clear HO_103002 BK101 BK102 HB; rename_i HO_103002 HO108 BK101 BK102 HB; (try clear hb); (try clear hk); (try clear ho0)) | ((with_reducible refine gate_dst (N := 9) rfl ?_); refine box_event (by rfl) (N := 9) (by rfl) (cs := #[.int .i64 0, .int .i64 0, .string (⟨#[]⟩ : ByteArray), .slice none 0 0]) (t := 72) (by first | (go_simp; done) | (go_simp; rfl)) ?_; intro gb110 hg w26 hbox hb; have _ := AM (Kd.S_below (Kd.S_elderB (by (with_reducible repeat (first | apply Kd.S_alloc | apply Kd.S_drewN | apply Kd.S_drew)); exact HO_103002.out) gb110 (Nat.le_of_eq hg.symm)) hb); have _ := AM (Kd.R_below (rX HO108.out) hb); have _ := AM (nB BK101.out hb); have _ := AM (nB BK102.out hb); have _ := AM (below_step (bX HB.out) hb); have _ := AM (hbox); have n6_ := AM ((by rw [hg]; exact (bZ (bX HB.out)) : w.heap.size ≤ gb110)); have _ := AM (lX hg BK101.out); have _ := AM (lX hg BK101.out).symm; have _ := AM (lX hg BK102.out); have _ := AM (lX hg BK102.out).symm; clear HO_103002 HO108 BK101 BK102 HB; rename_i HO_103002 HO108 BK101 BK102 HB BK110 NB101_110 NB110_101 NB102_110 NB110_102; have GW110 := n6_; have GE110 := n6_; clear n6_; clear hb hbox hg; have hnb27 := NB110_101.out; have hnc27 := NB101_110.out; have hnb28 := NB110_102.out; have hnc28 := NB102_110.out; have hcz29 := q4 BK110.out; have hfz29 := fZ BK110.out; obtain ⟨Ao30, co30, eo30⟩ := Kd.R_slice HO108.out; subst eo30))
    go_roundg k1
    case measure => have := HK1.out; omega
    case rel => exact ⟨(wrap64 (x8_1 + 1)), (x103002_1), (u103002), (by first | rfl | (simp; done) | (simp [*]; done)), H', ⟨by have := HK1.out; omega⟩, ⟨by (with_reducible repeat (first | apply Kd.S_alloc | apply Kd.S_drewN | apply Kd.S_drew)); exact Kd.S_mono (Kd.S_far (p := ⟨gb110, 3, none⟩) (Kd.S_far (p := ⟨gb110, 2, none⟩) (Kd.S_far (p := ⟨gb110, 1, none⟩) (Kd.S_far (p := ⟨gb110, 0, none⟩) (Kd.S_mono HO_103002.out (fun k_ hk => (⟨hk, hk.2⟩ : _ ∧ k_ ≠ gb110))) (fun _ hk => hk.2) (.int .i64 t103)) (fun _ hk => hk.2) (.int .i64 t104)) (fun _ hk => hk.2) (.string t105)) (fun _ hk => hk.2) (.slice Ao30 t106.length co30)) (fun _ hk => trivial)⟩, ⟨by (iterate 4 refine kF NB101_110.out ?_); (with_reducible repeat (first | apply kN | apply kD | apply kA)); exact BK101.out⟩, ⟨by (iterate 4 refine kF NB102_110.out ?_); (with_reducible repeat (first | apply kN | apply kD | apply kA)); exact BK102.out⟩, ⟨bX HB.out⟩⟩
   rw [if_neg c8] at H
   have c8b0 : decide (x8_1 ≤ 6) = false := decide_eq_false c8
   clear c8
   simp only [Option.some.injEq, Prod.mk.injEq] at H
   obtain ⟨rfl, rfl, rfl⟩ := H
   have hnb31 := NB102_101.out
   have hnc31 := NB101_102.out
   have hcz32 := q3 BK102.out
   have hfz32 := fZ BK102.out
   have hcz33 := q3 BK101.out
   have hfz33 := fZ BK101.out
   obtain ⟨Ao34, co34, eo34⟩ := Kd.S_slice HO_103002.out
   subst eo34
   go_wp2
   refine bodyPost_ret (results_cell_row rfl _ _ gb101 26 #[.int .i64 a1, .int .i64 a2, .slice Ao34 x103002_1.length co34] (0, 0) _ rfl (by refine kP (cs := #[.int .i64 a1, .int .i64 a2, .slice none 0 0]) 2 ?_; refine kP (cs := #[.int .i64 a1, .int .i64 0, .slice none 0 0]) 1 ?_; refine kP (cs := #[.int .i64 0, .int .i64 0, .slice none 0 0]) 0 ?_; (with_reducible repeat (first | apply kN | apply kD | apply kA)); exact BK101.out) Try.underlying26 rfl (by kernel_rfl)) rfl ?_
   exact ⟨_, by first | rfl | (simp [*, errW_none, errW_some] <;> rfl), by (with_reducible repeat (first | apply Kd.S_alloc | apply Kd.S_drewN | apply Kd.S_drew)); exact Kd.S_mono (Kd.S_far (p := ⟨gb101, 2, none⟩) (Kd.S_far (p := ⟨gb101, 1, none⟩) (Kd.S_far (p := ⟨gb101, 0, none⟩) (Kd.S_types HO_103002.out BK101.out (by decide)) (fun _ hk => hk.2) (.int .i64 a1)) (fun _ hk => hk.2) (.int .i64 a2)) (fun _ hk => hk.2) (.slice Ao34 x103002_1.length co34)) (fun _ hk => trivial), bX HB.out⟩

/-! ### spec_ChangeOf: function 6 -/

def spec_ChangeOf.f (k : Nat) (l0 : List (S52)) (a1 : Int) (a2 : Int) : Option (Int × Int × (List (S72))) := if (l0.length : Int) > 400 then (some (0, 0, ([] : List (S72)))) else ((spec_VotesRight.f k l0).bind fun t102 => (if t102 = true then ((spec_l09Who.f a1).bind fun t103 => (if t103 = true then ((spec_l03Is.f a2 1 7).bind fun t104 => (if t104 = true then ((spec_l12Change.f k l0 a1 a2).bind fun bt105 => (some (bt105.1, bt105.2.1, bt105.2.2))) else (some (0, 0, ([] : List (S72)))))) else (some (0, 0, ([] : List (S72)))))) else (some (0, 0, ([] : List (S72))))))
theorem spec_ChangeOf.mono : ∀ a0 a1 a2 k, LeO (spec_ChangeOf.f k a0 a1 a2) (spec_ChangeOf.f (k + 1) a0 a1 a2) := by
  intro a0 a1 a2 k
  unfold spec_ChangeOf.f
  repeat' first
      | (with_reducible exact spec_VotesRight.mono _ _)
      | (with_reducible exact spec_l12Change.mono _ _ _ _)
      | (with_reducible exact LeO.refl _)
      | (with_reducible exact LeO.none _)
      | (with_reducible refine LeO.ite ?_ ?_)
      | (with_reducible refine LeO.bind ?_ (fun _ => ?_))
      | exact spec_VotesRight.mono _ _
      | exact spec_l12Change.mono _ _ _ _
      | exact LeO.none _
      | refine LeO.ite ?_ ?_
      | refine LeO.bind ?_ (fun _ => ?_)
set_option maxHeartbeats 60000000 in
set_option maxRecDepth 100000 in
theorem spec_ChangeOf.calls (k : Nat) (A0 : Option Addr) (c0 : Nat) (l0 : List (S52)) (a1 : Int) (a2 : Int) (r1 : Int) (r2 : Int) (r3 : List (S72)) (w : World) (hr0 : Kd.C k52 w A0 l0.length l0) (hc0 : l0.length ≤ c0) (h : spec_ChangeOf.f k l0 a1 a2 = some (r1, r2, r3)) :
    Calls Try.prog 6 #[.slice A0 l0.length c0, .int .i64 a1, .int .i64 a2] w fun e w' => ∃ v2_ : Value, e = .returned (.agg #[.int .i64 r1, .int .i64 r2, v2_]) ∧ Kd.S k72 72 w' w.heap.size (fun _ => True) v2_ r3 ∧ Below w.heap.size w w' := by
 have hu26 := Try.underlying26
 have HR0 := AM hr0
 have HC0 := AM hc0
 clear hr0 hc0
 have HB := AM (Below.refl w.heap.size w)
 have H : (if (l0.length : Int) > 400 then (some (0, 0, ([] : List (S72)))) else ((spec_VotesRight.f k l0).bind fun t102 => (if t102 = true then ((spec_l09Who.f a1).bind fun t103 => (if t103 = true then ((spec_l03Is.f a2 1 7).bind fun t104 => (if t104 = true then ((spec_l12Change.f k l0 a1 a2).bind fun bt105 => (some (bt105.1, bt105.2.1, bt105.2.2))) else (some (0, 0, ([] : List (S72)))))) else (some (0, 0, ([] : List (S72)))))) else (some (0, 0, ([] : List (S72))))))) = some (r1, r2, r3) := h
 clear h
 by_cases c4 : (l0.length : Int) > 400
 ·
  rw [if_pos c4] at H
  have c4b0 : decide (400 < (l0.length : Int)) = true := decide_eq_true c4
  have c4b1 : decide (400 < l0.length) = true := decide_eq_true (by omega)
  clear c4
  simp only [Option.some.injEq, Prod.mk.injEq] at H
  obtain ⟨rfl, rfl, rfl⟩ := H
  go_enter Try.func6, Try.ntmps6
  go_wp2_with (first | ((with_reducible refine gate_dst (N := 6) rfl ?_); refine box_event (by rfl) (N := 6) (by rfl) (cs := #[.int .i64 0, .int .i64 0, .slice none 0 0]) (t := 26) (by first | (go_simp; done) | (go_simp; rfl)) ?_; intro gb101 hg w5 hbox hb; have _ := AM (below_step (bX HB.out) hb); have _ := AM (hbox); have n2_ := AM ((by rw [hg]; exact (bZ (bX HB.out)) : w.heap.size ≤ gb101)); clear HB; rename_i HB BK101; have GW101 := n2_; have GE101 := n2_; clear n2_; clear hb hbox hg; have hcz6 := q3 BK101.out; have hfz6 := fZ BK101.out))
  refine bodyPost_ret (results_cell_row rfl _ _ gb101 26 #[.int .i64 0, .int .i64 0, .slice none 0 0] (0, 0) _ rfl (by refine kP (cs := #[.int .i64 0, .int .i64 0, .slice none 0 0]) 2 ?_; refine kP (cs := #[.int .i64 0, .int .i64 0, .slice none 0 0]) 1 ?_; refine kP (cs := #[.int .i64 0, .int .i64 0, .slice none 0 0]) 0 ?_; (with_reducible repeat (first | apply kN | apply kD | apply kA)); exact BK101.out) Try.underlying26 rfl (by kernel_rfl)) rfl ?_
  exact ⟨_, by first | rfl | (simp [*, errW_none, errW_some] <;> rfl), by first | exact Kd.S_nil _ _ _ _ _ | exact Kd.N_nil _ _ _ _ _ | exact Kd.V_nil _ _ _ _ _ | exact Kd.Q_nil _ _ _ _ _ | exact Kd.R_nil _ _ _ _ _, bX HB.out⟩
 rw [if_neg c4] at H
 have c4b0 : decide (400 < (l0.length : Int)) = false := decide_eq_false c4
 have c4b1 : decide (400 < l0.length) = false := decide_eq_false (by omega)
 clear c4
 replace H := Option.bind_eq_some_iff.mp H
 obtain ⟨t102, A70, H⟩ := H
 replace H : (if t102 = true then ((spec_l09Who.f a1).bind fun t103 => (if t103 = true then ((spec_l03Is.f a2 1 7).bind fun t104 => (if t104 = true then ((spec_l12Change.f k l0 a1 a2).bind fun bt105 => (some (bt105.1, bt105.2.1, bt105.2.2))) else (some (0, 0, ([] : List (S72)))))) else (some (0, 0, ([] : List (S72)))))) else (some (0, 0, ([] : List (S72))))) = some (r1, r2, r3) := H
 have A7 := AM A70
 clear A70
 by_cases c8 : t102 = true
 ·
  subst c8
  have H1 : ((spec_l09Who.f a1).bind fun t103 => (if t103 = true then ((spec_l03Is.f a2 1 7).bind fun t104 => (if t104 = true then ((spec_l12Change.f k l0 a1 a2).bind fun bt105 => (some (bt105.1, bt105.2.1, bt105.2.2))) else (some (0, 0, ([] : List (S72)))))) else (some (0, 0, ([] : List (S72)))))) = some (r1, r2, r3) := by rw [if_pos rfl] at H; exact H
  clear H
  have H := H1
  clear H1
  replace H := Option.bind_eq_some_iff.mp H
  obtain ⟨t103, A90, H⟩ := H
  replace H : (if t103 = true then ((spec_l03Is.f a2 1 7).bind fun t104 => (if t104 = true then ((spec_l12Change.f k l0 a1 a2).bind fun bt105 => (some (bt105.1, bt105.2.1, bt105.2.2))) else (some (0, 0, ([] : List (S72)))))) else (some (0, 0, ([] : List (S72))))) = some (r1, r2, r3) := H
  have A9 := AM A90
  clear A90
  by_cases c10 : t103 = true
  ·
   subst c10
   have H1 : ((spec_l03Is.f a2 1 7).bind fun t104 => (if t104 = true then ((spec_l12Change.f k l0 a1 a2).bind fun bt105 => (some (bt105.1, bt105.2.1, bt105.2.2))) else (some (0, 0, ([] : List (S72)))))) = some (r1, r2, r3) := by rw [if_pos rfl] at H; exact H
   clear H
   have H := H1
   clear H1
   replace H := Option.bind_eq_some_iff.mp H
   obtain ⟨t104, A110, H⟩ := H
   replace H : (if t104 = true then ((spec_l12Change.f k l0 a1 a2).bind fun bt105 => (some (bt105.1, bt105.2.1, bt105.2.2))) else (some (0, 0, ([] : List (S72))))) = some (r1, r2, r3) := H
   have A11 := AM A110
   clear A110
   by_cases c12 : t104 = true
   ·
    subst c12
    have H1 : ((spec_l12Change.f k l0 a1 a2).bind fun bt105 => (some (bt105.1, bt105.2.1, bt105.2.2))) = some (r1, r2, r3) := by rw [if_pos rfl] at H; exact H
    clear H
    have H := H1
    clear H1
    replace H := Option.bind_eq_some_iff.mp H
    obtain ⟨⟨t105, t106, t107⟩, A130, H⟩ := H
    try dsimp only at H
    have A13 := AM A130
    clear A130
    simp only [Option.some.injEq, Prod.mk.injEq] at H
    obtain ⟨rfl, rfl, rfl⟩ := H
    go_enter Try.func6, Try.ntmps6
    go_wp2_with (first | ((with_reducible refine gate_dst (N := 6) rfl ?_); refine box_event (by rfl) (N := 6) (by rfl) (cs := #[.int .i64 0, .int .i64 0, .slice none 0 0]) (t := 26) (by first | (go_simp; done) | (go_simp; rfl)) ?_; intro gb101 hg w14 hbox hb; have _ := AM (below_step (bX HB.out) hb); have _ := AM (hbox); have n2_ := AM ((by rw [hg]; exact (bZ (bX HB.out)) : w.heap.size ≤ gb101)); clear HB; rename_i HB BK101; have GW101 := n2_; have GE101 := n2_; clear n2_; clear hb hbox hg) | (go_at_call 24; (with_reducible refine (spec_VotesRight.calls k _ _ l0 true _ ?side1 ?side2 A7.out).mono ?_); (case side1 => repeat (first | exact (cB HR0.out HB.out) | (with_reducible first | apply cA | apply cN | apply cD))); (case side2 => exact HC0.out); rintro e w15 ⟨rfl, hb⟩; have _ := AM (nB BK101.out hb); have _ := AM (below_step (bX HB.out) hb); clear BK101 HB; rename_i BK101 HB; (try clear hb); (try clear hk)) | (go_at_call 25; (with_reducible refine (spec_l09Who.calls a1 true _ A9.out).mono ?_); rintro e w' ⟨rfl, ⟨nd, rfl⟩⟩; (try (rw [drewN_self w15]; generalize hq_ : World.drewN w15 _ = w15; have _ : Aside0 (w15.heap[gb101]? = some (.cells #[.int .i64 0, .int .i64 0, .slice none 0 0] 26 (0, 0))) := ⟨by rw [← hq_]; exact (kX BK101.out)⟩; have _ : Aside0 (Below w.heap.size w w15) := ⟨by rw [← hq_]; exact (bX HB.out)⟩; clear BK101 HB hq_; rename_i BK101 HB; have hczu101 := q3 BK101.out; have hfzu101 := fZ BK101.out))) | (go_at_call 26; (with_reducible refine (spec_l03Is.calls a2 1 7 true _ A11.out).mono ?_); rintro e w' ⟨rfl, ⟨nd, rfl⟩⟩; (try (rw [drewN_self w15]; generalize hq_ : World.drewN w15 _ = w15; have _ : Aside0 (w15.heap[gb101]? = some (.cells #[.int .i64 0, .int .i64 0, .slice none 0 0] 26 (0, 0))) := ⟨by rw [← hq_]; exact (kX BK101.out)⟩; have _ : Aside0 (Below w.heap.size w w15) := ⟨by rw [← hq_]; exact (bX HB.out)⟩; clear BK101 HB hq_; rename_i BK101 HB; have hczu101 := q3 BK101.out; have hfzu101 := fZ BK101.out))) | ((with_reducible refine gate_callee (f := 27) rfl ?_); refine goesL_ (some 29) rfl rfl Try.func27 (by kernel_rfl) rfl #[.slice A0 l0.length c0, .int .i64 a1, .int .i64 a2] rfl (by (try simp only [mA, mB, mC]); first | done | rfl | (simp only [mD, mE]; rfl)) ?_; (with_reducible refine (spec_l12Change.calls k _ _ l0 a1 a2 t105 t106 t107 _ ?side1 ?side2 A13.out).mono ?_); (case side1 => repeat (first | exact (cB HR0.out HB.out) | (with_reducible first | apply cA | apply cN | apply cD))); (case side2 => exact HC0.out); rintro e w16 ⟨v108, rfl, ho0, hb⟩; refine ⟨_, rfl, ?_⟩; have _ := AM (Kd.S_lower ho0 (bZ (bX HB.out))); have _ := AM (nB BK101.out hb); have _ := AM (below_step (bX HB.out) hb); clear BK101 HB; rename_i HO109 BK101 HB; (try clear hb); (try clear hk); (try clear ho0); have hcz17 := q3 BK101.out; have hfz17 := fZ BK101.out; obtain ⟨Ao18, co18, eo18⟩ := Kd.S_slice HO109.out; subst eo18))
    refine bodyPost_ret (results_cell_row rfl _ _ gb101 26 #[.int .i64 t105, .int .i64 t106, .slice Ao18 t107.length co18] (0, 0) _ rfl (by refine kP (cs := #[.int .i64 t105, .int .i64 t106, .slice none 0 0]) 2 ?_; refine kP (cs := #[.int .i64 t105, .int .i64 0, .slice none 0 0]) 1 ?_; refine kP (cs := #[.int .i64 0, .int .i64 0, .slice none 0 0]) 0 ?_; (with_reducible repeat (first | apply kN | apply kD | apply kA)); exact BK101.out) Try.underlying26 rfl (by kernel_rfl)) rfl ?_
    exact ⟨_, by first | rfl | (simp [*, errW_none, errW_some] <;> rfl), by (with_reducible repeat (first | apply Kd.S_alloc | apply Kd.S_drewN | apply Kd.S_drew)); exact Kd.S_mono (Kd.S_far (p := ⟨gb101, 2, none⟩) (Kd.S_far (p := ⟨gb101, 1, none⟩) (Kd.S_far (p := ⟨gb101, 0, none⟩) (Kd.S_types HO109.out BK101.out (by decide)) (fun _ hk => hk.2) (.int .i64 t105)) (fun _ hk => hk.2) (.int .i64 t106)) (fun _ hk => hk.2) (.slice Ao18 t107.length co18)) (fun _ hk => trivial), bX HB.out⟩
   replace c12 := Bool.eq_false_iff.mpr c12
   subst c12
   have H1 : (some (0, 0, ([] : List (S72)))) = some (r1, r2, r3) := by rw [if_neg (show ¬ (false = true) by decide)] at H; exact H
   clear H
   have H := H1
   clear H1
   simp only [Option.some.injEq, Prod.mk.injEq] at H
   obtain ⟨rfl, rfl, rfl⟩ := H
   go_enter Try.func6, Try.ntmps6
   go_wp2_with (first | ((with_reducible refine gate_dst (N := 6) rfl ?_); refine box_event (by rfl) (N := 6) (by rfl) (cs := #[.int .i64 0, .int .i64 0, .slice none 0 0]) (t := 26) (by first | (go_simp; done) | (go_simp; rfl)) ?_; intro gb101 hg w19 hbox hb; have _ := AM (below_step (bX HB.out) hb); have _ := AM (hbox); have n2_ := AM ((by rw [hg]; exact (bZ (bX HB.out)) : w.heap.size ≤ gb101)); clear HB; rename_i HB BK101; have GW101 := n2_; have GE101 := n2_; clear n2_; clear hb hbox hg) | (go_at_call 24; (with_reducible refine (spec_VotesRight.calls k _ _ l0 true _ ?side1 ?side2 A7.out).mono ?_); (case side1 => repeat (first | exact (cB HR0.out HB.out) | (with_reducible first | apply cA | apply cN | apply cD))); (case side2 => exact HC0.out); rintro e w20 ⟨rfl, hb⟩; have _ := AM (nB BK101.out hb); have _ := AM (below_step (bX HB.out) hb); clear BK101 HB; rename_i BK101 HB; (try clear hb); (try clear hk)) | (go_at_call 25; (with_reducible refine (spec_l09Who.calls a1 true _ A9.out).mono ?_); rintro e w' ⟨rfl, ⟨nd, rfl⟩⟩; (try (rw [drewN_self w20]; generalize hq_ : World.drewN w20 _ = w20; have _ : Aside0 (w20.heap[gb101]? = some (.cells #[.int .i64 0, .int .i64 0, .slice none 0 0] 26 (0, 0))) := ⟨by rw [← hq_]; exact (kX BK101.out)⟩; have _ : Aside0 (Below w.heap.size w w20) := ⟨by rw [← hq_]; exact (bX HB.out)⟩; clear BK101 HB hq_; rename_i BK101 HB; have hczu101 := q3 BK101.out; have hfzu101 := fZ BK101.out))) | (go_at_call 26; (with_reducible refine (spec_l03Is.calls a2 1 7 false _ A11.out).mono ?_); rintro e w' ⟨rfl, ⟨nd, rfl⟩⟩; (try (rw [drewN_self w20]; generalize hq_ : World.drewN w20 _ = w20; have _ : Aside0 (w20.heap[gb101]? = some (.cells #[.int .i64 0, .int .i64 0, .slice none 0 0] 26 (0, 0))) := ⟨by rw [← hq_]; exact (kX BK101.out)⟩; have _ : Aside0 (Below w.heap.size w w20) := ⟨by rw [← hq_]; exact (bX HB.out)⟩; clear BK101 HB hq_; rename_i BK101 HB; have hczu101 := q3 BK101.out; have hfzu101 := fZ BK101.out)); have hcz21 := q3 BK101.out; have hfz21 := fZ BK101.out))
   refine bodyPost_ret (results_cell_row rfl _ _ gb101 26 #[.int .i64 0, .int .i64 0, .slice none 0 0] (0, 0) _ rfl (by refine kP (cs := #[.int .i64 0, .int .i64 0, .slice none 0 0]) 2 ?_; refine kP (cs := #[.int .i64 0, .int .i64 0, .slice none 0 0]) 1 ?_; refine kP (cs := #[.int .i64 0, .int .i64 0, .slice none 0 0]) 0 ?_; (with_reducible repeat (first | apply kN | apply kD | apply kA)); exact BK101.out) Try.underlying26 rfl (by kernel_rfl)) rfl ?_
   exact ⟨_, by first | rfl | (simp [*, errW_none, errW_some] <;> rfl), by first | exact Kd.S_nil _ _ _ _ _ | exact Kd.N_nil _ _ _ _ _ | exact Kd.V_nil _ _ _ _ _ | exact Kd.Q_nil _ _ _ _ _ | exact Kd.R_nil _ _ _ _ _, bX HB.out⟩
  replace c10 := Bool.eq_false_iff.mpr c10
  subst c10
  have H1 : (some (0, 0, ([] : List (S72)))) = some (r1, r2, r3) := by rw [if_neg (show ¬ (false = true) by decide)] at H; exact H
  clear H
  have H := H1
  clear H1
  simp only [Option.some.injEq, Prod.mk.injEq] at H
  obtain ⟨rfl, rfl, rfl⟩ := H
  go_enter Try.func6, Try.ntmps6
  go_wp2_with (first | ((with_reducible refine gate_dst (N := 6) rfl ?_); refine box_event (by rfl) (N := 6) (by rfl) (cs := #[.int .i64 0, .int .i64 0, .slice none 0 0]) (t := 26) (by first | (go_simp; done) | (go_simp; rfl)) ?_; intro gb101 hg w22 hbox hb; have _ := AM (below_step (bX HB.out) hb); have _ := AM (hbox); have n2_ := AM ((by rw [hg]; exact (bZ (bX HB.out)) : w.heap.size ≤ gb101)); clear HB; rename_i HB BK101; have GW101 := n2_; have GE101 := n2_; clear n2_; clear hb hbox hg) | (go_at_call 24; (with_reducible refine (spec_VotesRight.calls k _ _ l0 true _ ?side1 ?side2 A7.out).mono ?_); (case side1 => repeat (first | exact (cB HR0.out HB.out) | (with_reducible first | apply cA | apply cN | apply cD))); (case side2 => exact HC0.out); rintro e w23 ⟨rfl, hb⟩; have _ := AM (nB BK101.out hb); have _ := AM (below_step (bX HB.out) hb); clear BK101 HB; rename_i BK101 HB; (try clear hb); (try clear hk)) | (go_at_call 25; (with_reducible refine (spec_l09Who.calls a1 false _ A9.out).mono ?_); rintro e w' ⟨rfl, ⟨nd, rfl⟩⟩; (try (rw [drewN_self w23]; generalize hq_ : World.drewN w23 _ = w23; have _ : Aside0 (w23.heap[gb101]? = some (.cells #[.int .i64 0, .int .i64 0, .slice none 0 0] 26 (0, 0))) := ⟨by rw [← hq_]; exact (kX BK101.out)⟩; have _ : Aside0 (Below w.heap.size w w23) := ⟨by rw [← hq_]; exact (bX HB.out)⟩; clear BK101 HB hq_; rename_i BK101 HB; have hczu101 := q3 BK101.out; have hfzu101 := fZ BK101.out)); have hcz24 := q3 BK101.out; have hfz24 := fZ BK101.out))
  refine bodyPost_ret (results_cell_row rfl _ _ gb101 26 #[.int .i64 0, .int .i64 0, .slice none 0 0] (0, 0) _ rfl (by refine kP (cs := #[.int .i64 0, .int .i64 0, .slice none 0 0]) 2 ?_; refine kP (cs := #[.int .i64 0, .int .i64 0, .slice none 0 0]) 1 ?_; refine kP (cs := #[.int .i64 0, .int .i64 0, .slice none 0 0]) 0 ?_; (with_reducible repeat (first | apply kN | apply kD | apply kA)); exact BK101.out) Try.underlying26 rfl (by kernel_rfl)) rfl ?_
  exact ⟨_, by first | rfl | (simp [*, errW_none, errW_some] <;> rfl), by first | exact Kd.S_nil _ _ _ _ _ | exact Kd.N_nil _ _ _ _ _ | exact Kd.V_nil _ _ _ _ _ | exact Kd.Q_nil _ _ _ _ _ | exact Kd.R_nil _ _ _ _ _, bX HB.out⟩
 replace c8 := Bool.eq_false_iff.mpr c8
 subst c8
 have H1 : (some (0, 0, ([] : List (S72)))) = some (r1, r2, r3) := by rw [if_neg (show ¬ (false = true) by decide)] at H; exact H
 clear H
 have H := H1
 clear H1
 simp only [Option.some.injEq, Prod.mk.injEq] at H
 obtain ⟨rfl, rfl, rfl⟩ := H
 go_enter Try.func6, Try.ntmps6
 go_wp2_with (first | ((with_reducible refine gate_dst (N := 6) rfl ?_); refine box_event (by rfl) (N := 6) (by rfl) (cs := #[.int .i64 0, .int .i64 0, .slice none 0 0]) (t := 26) (by first | (go_simp; done) | (go_simp; rfl)) ?_; intro gb101 hg w25 hbox hb; have _ := AM (below_step (bX HB.out) hb); have _ := AM (hbox); have n2_ := AM ((by rw [hg]; exact (bZ (bX HB.out)) : w.heap.size ≤ gb101)); clear HB; rename_i HB BK101; have GW101 := n2_; have GE101 := n2_; clear n2_; clear hb hbox hg) | (go_at_call 24; (with_reducible refine (spec_VotesRight.calls k _ _ l0 false _ ?side1 ?side2 A7.out).mono ?_); (case side1 => repeat (first | exact (cB HR0.out HB.out) | (with_reducible first | apply cA | apply cN | apply cD))); (case side2 => exact HC0.out); rintro e w26 ⟨rfl, hb⟩; have _ := AM (nB BK101.out hb); have _ := AM (below_step (bX HB.out) hb); clear BK101 HB; rename_i BK101 HB; (try clear hb); (try clear hk); have hcz27 := q3 BK101.out; have hfz27 := fZ BK101.out))
 refine bodyPost_ret (results_cell_row rfl _ _ gb101 26 #[.int .i64 0, .int .i64 0, .slice none 0 0] (0, 0) _ rfl (by refine kP (cs := #[.int .i64 0, .int .i64 0, .slice none 0 0]) 2 ?_; refine kP (cs := #[.int .i64 0, .int .i64 0, .slice none 0 0]) 1 ?_; refine kP (cs := #[.int .i64 0, .int .i64 0, .slice none 0 0]) 0 ?_; (with_reducible repeat (first | apply kN | apply kD | apply kA)); exact BK101.out) Try.underlying26 rfl (by kernel_rfl)) rfl ?_
 exact ⟨_, by first | rfl | (simp [*, errW_none, errW_some] <;> rfl), by first | exact Kd.S_nil _ _ _ _ _ | exact Kd.N_nil _ _ _ _ _ | exact Kd.V_nil _ _ _ _ _ | exact Kd.Q_nil _ _ _ _ _ | exact Kd.R_nil _ _ _ _ _, bX HB.out⟩

/-! ### laws_toVote: function 28 -/

def laws_toVote.f (a0_0 : Int) (a0_1 : Int) (a0_2 : Int) (a0_3 : ByteArray) (a0_4 : Int) : Option (Int × Int × Int × ByteArray × Int) := some (a0_0, a0_1, a0_2, a0_3, a0_4)
set_option maxHeartbeats 60000000 in
set_option maxRecDepth 100000 in
theorem laws_toVote.calls (a0_0 : Int) (a0_1 : Int) (a0_2 : Int) (a0_3 : ByteArray) (a0_4 : Int) (r1 : Int) (r2 : Int) (r3 : Int) (r4 : ByteArray) (r5 : Int) (w : World) (h : laws_toVote.f a0_0 a0_1 a0_2 a0_3 a0_4 = some (r1, r2, r3, r4, r5)) :
    Calls Try.prog 28 #[.agg #[.int .i64 a0_0, .int .i64 a0_1, .int .i64 a0_2, .string a0_3, .int .i64 a0_4]] w fun e w' => e = .returned (.agg #[.int .i64 r1, .int .i64 r2, .int .i64 r3, .string r4, .int .i64 r5]) ∧ Below w.heap.size w w' := by
 have hu48 := Try.underlying48
 have hu52 := Try.underlying52
 have HB := AM (Below.refl w.heap.size w)
 have H : (some (a0_0, a0_1, a0_2, a0_3, a0_4)) = some (r1, r2, r3, r4, r5) := h
 clear h
 simp only [Option.some.injEq, Prod.mk.injEq] at H
 obtain ⟨rfl, rfl, rfl, rfl, rfl⟩ := H
 go_enter Try.func28, Try.ntmps28
 go_wp2_with (first | ((with_reducible refine gate_dst (N := 1) rfl ?_); refine box_event (by rfl) (N := 1) (by rfl) (cs := #[.int .i64 a0_0, .int .i64 a0_1, .int .i64 a0_2, .string a0_3, .int .i64 a0_4]) (t := 48) (by first | (go_simp; done) | (go_simp; rfl)) ?_; intro gb101 hg w2 hbox hb; have _ := AM (below_step (bX HB.out) hb); have _ := AM (hbox); have n2_ := AM ((by rw [hg]; exact (bZ (bX HB.out)) : w.heap.size ≤ gb101)); clear HB; rename_i HB BK101; have GW101 := n2_; have GE101 := n2_; clear n2_; clear hb hbox hg) | ((with_reducible refine gate_dst (N := 2) rfl ?_); refine box_event (by rfl) (N := 2) (by rfl) (cs := #[.int .i64 0, .int .i64 0, .int .i64 0, .string (⟨#[]⟩ : ByteArray), .int .i64 0]) (t := 52) (by first | (go_simp; done) | (go_simp; rfl)) ?_; intro gb102 hg w3 hbox hb; have _ := AM (nB BK101.out hb); have _ := AM (below_step (bX HB.out) hb); have _ := AM (hbox); have n3_ := AM ((by rw [hg]; exact (bZ (bX HB.out)) : w.heap.size ≤ gb102)); have _ := AM (lX hg BK101.out); have _ := AM (lX hg BK101.out).symm; clear BK101 HB; rename_i BK101 HB BK102 NB101_102 NB102_101; have GW102 := n3_; have GE102 := n3_; clear n3_; clear hb hbox hg) | ((with_reducible refine gate_dst (N := 3) rfl ?_); refine box_event (by rfl) (N := 3) (by rfl) (cs := #[.int .i64 0, .int .i64 0, .int .i64 0, .string (⟨#[]⟩ : ByteArray), .int .i64 0]) (t := 52) (by first | (go_simp; done) | (go_simp; rfl)) ?_; intro gb103 hg w4 hbox hb; have _ := AM (nB BK101.out hb); have _ := AM (nB BK102.out hb); have _ := AM (below_step (bX HB.out) hb); have _ := AM (hbox); have n4_ := AM ((by rw [hg]; exact (bZ (bX HB.out)) : w.heap.size ≤ gb103)); have _ := AM (lX hg BK101.out); have _ := AM (lX hg BK101.out).symm; have _ := AM (lX hg BK102.out); have _ := AM (lX hg BK102.out).symm; clear BK101 BK102 HB; rename_i BK101 BK102 HB BK103 NB101_103 NB103_101 NB102_103 NB103_102; have GW103 := n4_; have GE103 := n4_; clear n4_; clear hb hbox hg; have hnb5 := NB101_102.out; have hnc5 := NB102_101.out; have hnb6 := NB101_103.out; have hnc6 := NB103_101.out; have hcz7 := q5 BK101.out; have hfz7 := fZ BK101.out; have hnb8 := NB103_102.out; have hnc8 := NB102_103.out; have hcz9 := q5 BK103.out; have hfz9 := fZ BK103.out; have hcz10 := q5 BK102.out; have hfz10 := fZ BK102.out))
 refine bodyPost_ret (results_cell_row rfl _ _ gb102 52 #[.int .i64 a0_0, .int .i64 a0_1, .int .i64 a0_2, .string a0_3, .int .i64 a0_4] (0, 0) _ rfl (by refine kP (cs := #[.int .i64 a0_0, .int .i64 a0_1, .int .i64 a0_2, .string a0_3, .int .i64 0]) 4 ?_; refine kP (cs := #[.int .i64 a0_0, .int .i64 a0_1, .int .i64 a0_2, .string (⟨#[]⟩ : ByteArray), .int .i64 0]) 3 ?_; refine kP (cs := #[.int .i64 a0_0, .int .i64 a0_1, .int .i64 0, .string (⟨#[]⟩ : ByteArray), .int .i64 0]) 2 ?_; refine kP (cs := #[.int .i64 a0_0, .int .i64 0, .int .i64 0, .string (⟨#[]⟩ : ByteArray), .int .i64 0]) 1 ?_; refine kP (cs := #[.int .i64 0, .int .i64 0, .int .i64 0, .string (⟨#[]⟩ : ByteArray), .int .i64 0]) 0 ?_; (iterate 5 refine kF NB102_103.out ?_); (with_reducible repeat (first | apply kN | apply kD | apply kA)); exact BK102.out) Try.underlying52 rfl (by kernel_rfl)) rfl ?_
 exact ⟨by first | rfl | (simp [*, errW_none, errW_some] <;> rfl), bX HB.out⟩

/-! ### laws_toVoteS: function 7 -/

def laws_toVoteS.l0 : Nat → List (S48) → List (S52) → Int → Option ((List (S52)))
  | 0, _, _, _ => none
  | k + 1, x0, x3, x4 => if x4 < (x0.length : Int) then (if 0 ≤ x4 then ((laws_toVote.f ((rd_T48 x0 x4).f0) ((rd_T48 x0 x4).f1) ((rd_T48 x0 x4).f2) ((rd_T48 x0 x4).f3) ((rd_T48 x0 x4).f4)).bind fun bt105 => (if x4 < (x3.length : Int) then (laws_toVoteS.l0 k x0 (x3.set (x4 : Int).toNat (⟨bt105.1, bt105.2.1, bt105.2.2.1, bt105.2.2.2.1, bt105.2.2.2.2⟩ : S52)) (wrap64 (x4 + 1))) else (none))) else (none)) else (some x3)
def laws_toVoteS.f (k : Nat) (l0 : List (S48)) : Option ((List (S52))) := if 0 ≤ (l0.length : Int) then (if ((l0.length : Int) : Int).toNat ≤ 5864062014805 then (laws_toVoteS.l0 k l0 (List.replicate ((l0.length : Int) : Int).toNat z52) 0) else (none)) else (none)
theorem laws_toVoteS.mono_l : ∀ k, (∀ y0 y1 y2, LeO (laws_toVoteS.l0 k y0 y1 y2) (laws_toVoteS.l0 (k + 1) y0 y1 y2))
  | 0 => fun _ _ _ r h => by simp [laws_toVoteS.l0] at h
  | k + 1 => by
    have ih0 := laws_toVoteS.mono_l k
    · intro y0 y1 y2
      unfold laws_toVoteS.l0
      repeat' first
      | (with_reducible exact ih0 _ _ _)
      | (with_reducible exact LeO.refl _)
      | (with_reducible exact LeO.none _)
      | (with_reducible refine LeO.ite ?_ ?_)
      | (with_reducible refine LeO.bind ?_ (fun _ => ?_))
      | exact ih0 _ _ _
      | exact LeO.none _
      | refine LeO.ite ?_ ?_
      | refine LeO.bind ?_ (fun _ => ?_)
theorem laws_toVoteS.mono : ∀ a0 k, LeO (laws_toVoteS.f k a0) (laws_toVoteS.f (k + 1) a0) := by
  intro a0 k
  have ih0 := laws_toVoteS.mono_l k
  unfold laws_toVoteS.f
  repeat' first
      | (with_reducible exact ih0 _ _ _)
      | (with_reducible exact LeO.refl _)
      | (with_reducible exact LeO.none _)
      | (with_reducible refine LeO.ite ?_ ?_)
      | (with_reducible refine LeO.bind ?_ (fun _ => ?_))
      | exact ih0 _ _ _
      | exact LeO.none _
      | refine LeO.ite ?_ ?_
      | refine LeO.bind ?_ (fun _ => ?_)
set_option maxHeartbeats 60000000 in
set_option maxRecDepth 100000 in
theorem laws_toVoteS.calls (k : Nat) (A0 : Option Addr) (c0 : Nat) (l0 : List (S48)) (r : List (S52)) (w : World) (hr0 : Kd.C k48 w A0 l0.length l0) (hc0 : l0.length ≤ c0) (h : laws_toVoteS.f k l0 = some r) :
    Calls Try.prog 7 #[.slice A0 l0.length c0] w fun e w' => ∃ v0_ : Value, e = .returned (v0_) ∧ Kd.R k52 52 w' w.heap.size (fun _ => True) v0_ r ∧ Below w.heap.size w w' := by
 have hu48 := Try.underlying48
 have hu52 := Try.underlying52
 have HR0 := AM hr0
 have HC0 := AM hc0
 clear hr0 hc0
 have HB := AM (Below.refl w.heap.size w)
 have H : (if 0 ≤ (l0.length : Int) then (if ((l0.length : Int) : Int).toNat ≤ 5864062014805 then (laws_toVoteS.l0 k l0 (List.replicate ((l0.length : Int) : Int).toNat z52) 0) else (none)) else (none)) = some r := h
 clear h
 by_cases c2 : 0 ≤ (l0.length : Int)
 ·
  rw [if_pos c2] at H
  have c2b0 := eq_true c2
  have c2b1 : decide (0 ≤ (l0.length : Int)) = true := decide_eq_true c2
  clear c2
  by_cases c3 : ((l0.length : Int) : Int).toNat ≤ 5864062014805
  ·
   rw [if_pos c3] at H
   have c3b0 := eq_true c3
   have c3b1 : decide (((l0.length : Int) : Int).toNat ≤ 5864062014805) = true := decide_eq_true c3
   clear c3
   obtain ⟨y101, hy101⟩ : ∃ y_ : List (S52), y_ = (List.replicate ((l0.length : Int) : Int).toNat z52) := ⟨_, rfl⟩
   replace H : (laws_toVoteS.l0 k l0 y101 0) = some r := by first | (rw [hy101]; with_reducible exact H) | (have H2_ := (Option.bind_some _ _).symm.trans H; rw [hy101]; with_reducible exact H2_) | (have H2_ := (Option.bind_some _ _).symm.trans H; with_reducible exact H2_) | with_reducible exact H | (rw [hy101]; exact H) | exact H
   have Ny101 := AM hy101
   clear hy101
   have H' := AM H
   clear H
   go_enter Try.func7, Try.ntmps7
   go_wp2_with (first | ((with_reducible refine gate_dst (N := 7) rfl ?_); refine Kd.R_make k52 _ 52 rfl (N := 7) rfl 28 _ _ rfl (l0.length : Int) rfl rfl Try.underlying28 (.agg #[(.int .i64 0), (.int .i64 0), (.int .i64 0), (.string ⟨#[]⟩), (.int .i64 0)]) 48 info52 rfl (by decide) (by omega) z52 (ok := fun _ => True) (okp := fun _ => True) (k52_mkM _ _ _ z52 ) (fun _ hk => hk) trivial (of_decide_eq_true (by assumption)) (Nat.le_trans (Nat.mul_le_mul_right _ (of_decide_eq_true (by assumption) : (l0.length : Int).toNat ≤ 5864062014805)) (by omega)) (Below.refl _ _) (Nat.le_refl _) ?_; intro v102 w4 ho5 hb hg_ hnew_; clear hg_ hnew_; (first | rw [← Ny101.out] at ho5 | (simp only [Int.reduceToNat] at ho5; rw [← Ny101.out] at ho5)); have _ := AM (Kd.R_lower ho5 (bZ (bX HB.out))); have _ := AM (below_step (bX HB.out) hb); clear HB; rename_i HO103 HB; clear hb ho5))
   go_loopg [4] k (fun kq v4 w' => ∃ (x3_1 : List (S52)) (x4_1 : Int), v4 = .int .i64 x4_1 ∧ Aside0 (laws_toVoteS.l0 kq l0 x3_1 x4_1 = some r) ∧ Aside0 (kq ≤ k) ∧ Aside0 (Kd.R k52 52 w' w.heap.size (fun _ => True) v102 x3_1) ∧ Aside0 (Below w.heap.size w w'))
   case atStart => exact ⟨(y101), (0), (by first | rfl | (simp; done) | (simp [*]; done)), H', ⟨Nat.le_refl _⟩, ⟨rX HO103.out⟩, ⟨bX HB.out⟩⟩
   case round =>
    clear H'
    (try clear c2); (try clear c2b0); (try clear c2b1); (try clear p2); (try clear c3); (try clear c3b0); (try clear c3b1)
    obtain ⟨x3_1, x4_1, rfl, HA, HK1, HO_3, HB⟩ := hrel
    cases gk with
    | zero => exact absurd HA.out (by simp [laws_toVoteS.l0])
    | succ k1 =>
     have H := HA.out
     clear HA
     simp only [laws_toVoteS.l0] at H
     by_cases c6 : x4_1 < (l0.length : Int)
     ·
      rw [if_pos c6] at H
      have c6b0 : decide (x4_1 < (l0.length : Int)) = true := decide_eq_true c6
      clear c6
      by_cases c7 : 0 ≤ x4_1
      ·
       rw [if_pos c7] at H
       have c7b0 : decide (0 ≤ x4_1) = true := decide_eq_true c7
       clear c7
       replace H := Option.bind_eq_some_iff.mp H
       obtain ⟨⟨t105, t106, t107, t108, t109⟩, A80, H⟩ := H
       try dsimp only at H
       have A8 := AM A80
       clear A80
       by_cases c9 : x4_1 < (x3_1.length : Int)
       ·
        rw [if_pos c9] at H
        have c9b0 : decide (x4_1 < (x3_1.length : Int)) = true := decide_eq_true c9
        clear c9
        obtain ⟨y110, hy110⟩ : ∃ y_ : List (S52), y_ = (x3_1.set (x4_1 : Int).toNat (⟨t105, t106, t107, t108, t109⟩ : S52)) := ⟨_, rfl⟩
        replace H : (laws_toVoteS.l0 k1 l0 y110 (wrap64 (x4_1 + 1))) = some r := by first | (rw [hy110]; with_reducible exact H) | (have H2_ := (Option.bind_some _ _).symm.trans H; rw [hy110]; with_reducible exact H2_) | (have H2_ := (Option.bind_some _ _).symm.trans H; with_reducible exact H2_) | with_reducible exact H | (rw [hy110]; exact H) | exact H
        have Ny110 := AM hy110
        clear hy110
        have H' := AM H
        clear H
        have p104 : 0 ≤ (x4_1 : Int) := of_decide_eq_true (by assumption)
        have q104 : x4_1 < (l0.length : Int) := of_decide_eq_true (by assumption)
        obtain ⟨ad104, e104, hx104_0, hx104_1, hx104_2, hx104_3, hx104_4⟩ := at_T48 HR0.out x4_1 p104 q104
        cases e104
        replace hx104_0 := pw_cell_below HB.out hx104_0
        replace hx104_1 := pw_cell_below HB.out hx104_1
        replace hx104_2 := pw_cell_below HB.out hx104_2
        replace hx104_3 := pw_cell_below HB.out hx104_3
        replace hx104_4 := pw_cell_below HB.out hx104_4
        replace p104 := eq_true p104
        replace q104 := eq_true q104
        go_wp2_with (first | ((with_reducible refine gate_callee (f := 28) rfl ?_); refine goesL_ (some 20) rfl rfl Try.func28 (by kernel_rfl) rfl #[.agg #[.int .i64 ((rd_T48 l0 x4_1).f0), .int .i64 ((rd_T48 l0 x4_1).f1), .int .i64 ((rd_T48 l0 x4_1).f2), .string ((rd_T48 l0 x4_1).f3), .int .i64 ((rd_T48 l0 x4_1).f4)]] rfl (by (try simp only [mA, mB, mC]); first | done | rfl | (simp only [mD, mE]; rfl)) ?_; (with_reducible refine (laws_toVote.calls ((rd_T48 l0 x4_1).f0) ((rd_T48 l0 x4_1).f1) ((rd_T48 l0 x4_1).f2) ((rd_T48 l0 x4_1).f3) ((rd_T48 l0 x4_1).f4) t105 t106 t107 t108 t109 _ A8.out).mono ?_); rintro e w11 ⟨rfl, hb⟩; refine ⟨_, rfl, ?_⟩; have _ := AM (Kd.R_below (rX HO_3.out) hb); have _ := AM (below_step (bX HB.out) hb); clear HO_3 HB; rename_i HO_3 HB; (try clear hb); (try clear hk); have p10 : 0 ≤ (x4_1 : Int) := of_decide_eq_true (by assumption); have q10 : (x4_1 : Int) < ((x3_1.length : Int) : Int) := of_decide_eq_true (by assumption); obtain ⟨go10, co10, eo10, gb10, gl10, cl10, HG10⟩ := Kd.R_form HO_3.out (by omega); (first | cases eo10 | (injection eo10 with ea_ en_ ec_; (first | subst ea_ | (injection ea_ with ea_; subst ea_)); subst ec_; clear en_)); have GB10 := AM gb10; have GG10 := AM HG10; clear gb10 gl10 HG10; obtain ⟨ce10, hcl10, hM10, hcc10, hfr10⟩ := Kd.R_elem HO_3.out z52 (x4_1 : Int) p10 q10; obtain rfl := k52_openM hM10; have hx10_0 : w11.cell? ⟨go10, (x4_1 : Int).toNat * 5, none⟩ = some (.int .i64 ((rd_T52 x3_1 x4_1).f0)) := hcc10 0 _ rfl; have hx10_1 : w11.cell? ⟨go10, (x4_1 : Int).toNat * 5 + 1, none⟩ = some (.int .i64 ((rd_T52 x3_1 x4_1).f1)) := hcc10 1 _ rfl; have hx10_2 : w11.cell? ⟨go10, (x4_1 : Int).toNat * 5 + 2, none⟩ = some (.int .i64 ((rd_T52 x3_1 x4_1).f2)) := hcc10 2 _ rfl; have hx10_3 : w11.cell? ⟨go10, (x4_1 : Int).toNat * 5 + 3, none⟩ = some (.string ((rd_T52 x3_1 x4_1).f3)) := hcc10 3 _ rfl; have hx10_4 : w11.cell? ⟨go10, (x4_1 : Int).toNat * 5 + 4, none⟩ = some (.int .i64 ((rd_T52 x3_1 x4_1).f4)) := hcc10 4 _ rfl; have hf10_0 : w11.frozen? ⟨go10, (x4_1 : Int).toNat * 5, none⟩ = false := hfr10 0; have hf10_1 : w11.frozen? ⟨go10, (x4_1 : Int).toNat * 5 + 1, none⟩ = false := hfr10 1; have hf10_2 : w11.frozen? ⟨go10, (x4_1 : Int).toNat * 5 + 2, none⟩ = false := hfr10 2; have hf10_3 : w11.frozen? ⟨go10, (x4_1 : Int).toNat * 5 + 3, none⟩ = false := hfr10 3; have hf10_4 : w11.frozen? ⟨go10, (x4_1 : Int).toNat * 5 + 4, none⟩ = false := hfr10 4; clear hcl10 hcc10 hfr10 hM10; replace p10 := eq_true p10; replace q10 := eq_true q10; have HX12 := AM (show Kd.R k52 52 w11 w.heap.size (fun _ => True) (.slice (some ⟨go10, 0, none⟩) x3_1.length co10) x3_1 from (rX HO_3.out)); obtain ⟨ce12, hcl12, hM12, hcc12, hfr12⟩ := Kd.R_elem HX12.out z52 (x4_1 : Int) (of_decide_eq_true (by assumption)) (by have h_ : (x4_1 : Int) < ((x3_1.length : Int) : Int) := of_decide_eq_true (by assumption); first | exact h_ | (have e_ := (Kd.R_reads' HO_3.out).1; omega) | simpa using h_); obtain rfl := k52_openM hM12; have HP12 := Kd.R_seg HX12.out (x4_1 : Int) (of_decide_eq_true (by assumption)) (by have h_ : (x4_1 : Int) < ((x3_1.length : Int) : Int) := of_decide_eq_true (by assumption); first | exact h_ | (have e_ := (Kd.R_reads' HO_3.out).1; omega) | simpa using h_) (seg := [.int .i64 t105, .int .i64 t106, .int .i64 t107, .string t108, .int .i64 t109]) (j := 0) hcl12 hcc12 (show 5 ≤ 5 from by decide) (x' := (⟨t105, t106, t107, t108, t109⟩ : S52)) (k52_mkM _ _ _ (⟨t105, t106, t107, t108, t109⟩ : S52) ) (fun _ hk => hk); have hx12_0 := hcc12 0 _ rfl; (try simp only [show (k52).sz = 5 from rfl, Nat.mul_one, Nat.add_zero] at hx12_0); have hf12_0 := hfr12 0; (try simp only [show (k52).sz = 5 from rfl, Nat.mul_one, Nat.add_zero] at hf12_0); have hx12_1 := hcc12 1 _ rfl; (try simp only [show (k52).sz = 5 from rfl, Nat.mul_one, Nat.add_zero] at hx12_1); have hf12_1 := hfr12 1; (try simp only [show (k52).sz = 5 from rfl, Nat.mul_one, Nat.add_zero] at hf12_1); have hx12_2 := hcc12 2 _ rfl; (try simp only [show (k52).sz = 5 from rfl, Nat.mul_one, Nat.add_zero] at hx12_2); have hf12_2 := hfr12 2; (try simp only [show (k52).sz = 5 from rfl, Nat.mul_one, Nat.add_zero] at hf12_2); have hx12_3 := hcc12 3 _ rfl; (try simp only [show (k52).sz = 5 from rfl, Nat.mul_one, Nat.add_zero] at hx12_3); have hf12_3 := hfr12 3; (try simp only [show (k52).sz = 5 from rfl, Nat.mul_one, Nat.add_zero] at hf12_3); have hx12_4 := hcc12 4 _ rfl; (try simp only [show (k52).sz = 5 from rfl, Nat.mul_one, Nat.add_zero] at hx12_4); have hf12_4 := hfr12 4; (try simp only [show (k52).sz = 5 from rfl, Nat.mul_one, Nat.add_zero] at hf12_4); clear hcl12 hcc12 hfr12 hM12) | ((with_reducible refine gate_store (t := 52) (p := 21) rfl ?_); refine store_event (t := 52) (p := 21) (v := ?vo_w13) (w1 := (((((w11.setCell ⟨go10, (x4_1 : Int).toNat * 5, none⟩ (.int .i64 t105)).setCell ⟨go10, (x4_1 : Int).toNat * 5 + 1, none⟩ (.int .i64 t106)).setCell ⟨go10, (x4_1 : Int).toNat * 5 + 2, none⟩ (.int .i64 t107)).setCell ⟨go10, (x4_1 : Int).toNat * 5 + 3, none⟩ (.string t108)).setCell ⟨go10, (x4_1 : Int).toNat * 5 + 4, none⟩ (.int .i64 t109))) ?hg ?ho ?hn ?hr ?_; (case ho => rfl); (case hg => rfl); (case hn => rfl); (case hr => first | (go_simp; done) | (go_simp; rfl)); intro w13 hw; have hg : w11.grownBy w13 (some go10) := (by rw [hw]; exact HP12.2); have hp_ : Kd.R k52 52 w13 w.heap.size (fun _ => True) (.slice (some ⟨go10, 0, none⟩) x3_1.length co10) y110 := (by rw [hw, Ny110.out]; exact HP12.1); clear HP12; have _ := AM (hp_); have _ := AM ((by rw [hw]; exact bS (bS (bS (bS (bS (HB.out) GB10.out) GB10.out) GB10.out) GB10.out) GB10.out : Below w.heap.size w w13)); clear HO_3 HB; rename_i HO_3 HB; clear hg hw hp_))
        go_roundg k1
        case measure => have := HK1.out; omega
        case rel => exact ⟨(y110), (wrap64 (x4_1 + 1)), (by first | rfl | (simp; done) | (simp [*]; done)), H', ⟨by have := HK1.out; omega⟩, ⟨rX HO_3.out⟩, ⟨bX HB.out⟩⟩
       rw [if_neg c9] at H
       exact absurd H (by simp)
      rw [if_neg c7] at H
      exact absurd H (by simp)
     rw [if_neg c6] at H
     have c6b0 : decide (x4_1 < (l0.length : Int)) = false := decide_eq_false c6
     clear c6
     obtain rfl := Option.some.inj H
     go_wp2
     go_ret
     exact ⟨_, by first | rfl | (simp [*, errW_none, errW_some] <;> rfl), rX HO_3.out, bX HB.out⟩
  rw [if_neg c3] at H
  exact absurd H (by simp)
 rw [if_neg c2] at H
 exact absurd H (by simp)

end Go.Proofs.Ytmaliehmbodioaa.Q
