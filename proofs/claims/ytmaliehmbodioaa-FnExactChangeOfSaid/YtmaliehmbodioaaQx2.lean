/- Printed by a program of this session (wip/mp.py over the kit's print.py): functions of the translation as plain Lean functions, and that the machine's calls do what these say. -/
import Derived.Test.YtmaliehmbodioaaQx0
namespace Go.Proofs.Ytmaliehmbodioaa.Q
open Go.RowKit Go.Proofs.Ytmaliehmbodioaa.HB Go.Proofs.YtmaliehmbodioaaW.PrintWords Go.Proofs.YtmaliehmbodioaaW.PrintLast Go.Proofs.YtmaliehmbodioaaW.PrintMore
attribute [local go_sem] max2_int min2_int max_two min_two max_three min_three max_four min_four   -- for this text's walks alone
set_option linter.unusedVariables false
set_option linter.unusedSimpArgs false

/-! ### spec_l11Ops: function 75 -/

mutual
def spec_l11Ops.l0 : Nat → List (S52) → Int → Int → Int → List ByteArray → Int → Option (List ByteArray)
  | 0, _, _, _, _, _, _ => none
  | k + 1, x0, x1, x2, x3, x9, x10 => if x10 < (x0.length : Int) then (if 0 ≤ x10 then (if ((rd_T52 x0 x10).f0) = x1 then (if ((rd_T52 x0 x10).f1) = x2 then (spec_l11Ops.j1 k x0 x1 x2 x3 x9 x10 (((rd_T52 x0 x10).f2) != x3) ((rd_T52 x0 x10).f0) ((rd_T52 x0 x10).f1) ((rd_T52 x0 x10).f2) ((rd_T52 x0 x10).f3) ((rd_T52 x0 x10).f4)) else (spec_l11Ops.j1 k x0 x1 x2 x3 x9 x10 true ((rd_T52 x0 x10).f0) ((rd_T52 x0 x10).f1) ((rd_T52 x0 x10).f2) ((rd_T52 x0 x10).f3) ((rd_T52 x0 x10).f4))) else (spec_l11Ops.j1 k x0 x1 x2 x3 x9 x10 true ((rd_T52 x0 x10).f0) ((rd_T52 x0 x10).f1) ((rd_T52 x0 x10).f2) ((rd_T52 x0 x10).f3) ((rd_T52 x0 x10).f4))) else (none)) else (some x9)
def spec_l11Ops.j1 : Nat → List (S52) → Int → Int → Int → List ByteArray → Int → Bool → Int → Int → Int → ByteArray → Int → Option (List ByteArray)
  | 0, _, _, _, _, _, _, _, _, _, _, _, _ => none
  | k + 1, x0, x1, x2, x3, x9, x10, x40, x106000, x106001, x106002, x106003, x106004 => if x40 = true then (spec_l11Ops.l0 k x0 x1 x2 x3 x9 (wrap64 (x10 + 1))) else (spec_l11Ops.l1 k x0 x1 x2 x3 x9 x10 0 x106000 x106001 x106002 x106003 x106004)
def spec_l11Ops.l1 : Nat → List (S52) → Int → Int → Int → List ByteArray → Int → Int → Int → Int → Int → ByteArray → Int → Option (List ByteArray)
  | 0, _, _, _, _, _, _, _, _, _, _, _, _ => none
  | k + 1, x0, x1, x2, x3, x9, x10, x12, x106000, x106001, x106002, x106003, x106004 => if x12 < (x9.length : Int) then (if 0 ≤ x12 then (if (Op.bytesLess ((rdOf ByteArray.empty x9 x12).toList) x106003.toList) = true then (spec_l11Ops.l1 k x0 x1 x2 x3 x9 x10 (wrap64 (x12 + 1)) x106000 x106001 x106002 x106003 x106004) else (if (rdOf ByteArray.empty x9 x12).toList = x106003.toList then (spec_l11Ops.l0 k x0 x1 x2 x3 x9 (wrap64 (x10 + 1))) else ((some (([] : List ByteArray) : List ByteArray)).bind fun y108 => (if x12 ≤ (x9.length : Int) then ((some (x9.take (x12 : Int).toNat : List ByteArray)).bind fun y111 => (if y108.length + y111.length < 8796093022208 then ((some (y108 ++ y111 : List ByteArray)).bind fun y115 => (if y115.length < 8796093022208 then ((some (y115 ++ [x106003] : List ByteArray)).bind fun y118 => ((some (x9.drop (x12 : Int).toNat : List ByteArray)).bind fun y121 => (if y118.length + y121.length < 8796093022208 then (spec_l11Ops.l0 k x0 x1 x2 x3 (y118 ++ y121) (wrap64 (x10 + 1))) else (none)))) else (none))) else (none))) else (none))))) else (none)) else ((some (([] : List ByteArray) : List ByteArray)).bind fun y128 => (if 0 ≤ x12 then (if x12 ≤ (x9.length : Int) then ((some (x9.take (x12 : Int).toNat : List ByteArray)).bind fun y131 => (if y128.length + y131.length < 8796093022208 then ((some (y128 ++ y131 : List ByteArray)).bind fun y135 => (if y135.length < 8796093022208 then ((some (y135 ++ [x106003] : List ByteArray)).bind fun y138 => ((some (x9.drop (x12 : Int).toNat : List ByteArray)).bind fun y141 => (if y138.length + y141.length < 8796093022208 then (spec_l11Ops.l0 k x0 x1 x2 x3 (y138 ++ y141) (wrap64 (x10 + 1))) else (none)))) else (none))) else (none))) else (none)) else (none)))
end
def spec_l11Ops.f (k : Nat) (l0 : List (S52)) (a1 : Int) (a2 : Int) (a3 : Int) : Option (List ByteArray) := spec_l11Ops.l0 k l0 a1 a2 a3 (([] : List ByteArray)) 0
theorem spec_l11Ops.mono_l : ∀ k, (∀ y0 y1 y2 y3 y4 y5, LeO (spec_l11Ops.l0 k y0 y1 y2 y3 y4 y5) (spec_l11Ops.l0 (k + 1) y0 y1 y2 y3 y4 y5)) ∧ (∀ y0 y1 y2 y3 y4 y5 y6 y7 y8 y9 y10 y11, LeO (spec_l11Ops.j1 k y0 y1 y2 y3 y4 y5 y6 y7 y8 y9 y10 y11) (spec_l11Ops.j1 (k + 1) y0 y1 y2 y3 y4 y5 y6 y7 y8 y9 y10 y11)) ∧ (∀ y0 y1 y2 y3 y4 y5 y6 y7 y8 y9 y10 y11, LeO (spec_l11Ops.l1 k y0 y1 y2 y3 y4 y5 y6 y7 y8 y9 y10 y11) (spec_l11Ops.l1 (k + 1) y0 y1 y2 y3 y4 y5 y6 y7 y8 y9 y10 y11))
  | 0 => ⟨fun _ _ _ _ _ _ r h => by simp [spec_l11Ops.l0] at h, fun _ _ _ _ _ _ _ _ _ _ _ _ r h => by simp [spec_l11Ops.j1] at h, fun _ _ _ _ _ _ _ _ _ _ _ _ r h => by simp [spec_l11Ops.l1] at h⟩
  | k + 1 => by
    obtain ⟨ih0, ih1, ih2⟩ := spec_l11Ops.mono_l k
    refine ⟨?_, ?_, ?_⟩
    · intro y0 y1 y2 y3 y4 y5
      unfold spec_l11Ops.l0
      repeat' first
      | (with_reducible exact ih0 _ _ _ _ _ _)
      | (with_reducible exact ih1 _ _ _ _ _ _ _ _ _ _ _ _)
      | (with_reducible exact ih2 _ _ _ _ _ _ _ _ _ _ _ _)
      | (with_reducible exact LeO.refl _)
      | (with_reducible exact LeO.none _)
      | (with_reducible refine LeO.ite ?_ ?_)
      | (with_reducible refine LeO.bind ?_ (fun _ => ?_))
      | exact ih0 _ _ _ _ _ _
      | exact ih1 _ _ _ _ _ _ _ _ _ _ _ _
      | exact ih2 _ _ _ _ _ _ _ _ _ _ _ _
      | exact LeO.none _
      | refine LeO.ite ?_ ?_
      | refine LeO.bind ?_ (fun _ => ?_)
    · intro y0 y1 y2 y3 y4 y5 y6 y7 y8 y9 y10 y11
      unfold spec_l11Ops.j1
      repeat' first
      | (with_reducible exact ih0 _ _ _ _ _ _)
      | (with_reducible exact ih1 _ _ _ _ _ _ _ _ _ _ _ _)
      | (with_reducible exact ih2 _ _ _ _ _ _ _ _ _ _ _ _)
      | (with_reducible exact LeO.refl _)
      | (with_reducible exact LeO.none _)
      | (with_reducible refine LeO.ite ?_ ?_)
      | (with_reducible refine LeO.bind ?_ (fun _ => ?_))
      | exact ih0 _ _ _ _ _ _
      | exact ih1 _ _ _ _ _ _ _ _ _ _ _ _
      | exact ih2 _ _ _ _ _ _ _ _ _ _ _ _
      | exact LeO.none _
      | refine LeO.ite ?_ ?_
      | refine LeO.bind ?_ (fun _ => ?_)
    · intro y0 y1 y2 y3 y4 y5 y6 y7 y8 y9 y10 y11
      unfold spec_l11Ops.l1
      repeat' first
      | (with_reducible exact ih0 _ _ _ _ _ _)
      | (with_reducible exact ih1 _ _ _ _ _ _ _ _ _ _ _ _)
      | (with_reducible exact ih2 _ _ _ _ _ _ _ _ _ _ _ _)
      | (with_reducible exact LeO.refl _)
      | (with_reducible exact LeO.none _)
      | (with_reducible refine LeO.ite ?_ ?_)
      | (with_reducible refine LeO.bind ?_ (fun _ => ?_))
      | exact ih0 _ _ _ _ _ _
      | exact ih1 _ _ _ _ _ _ _ _ _ _ _ _
      | exact ih2 _ _ _ _ _ _ _ _ _ _ _ _
      | exact LeO.none _
      | refine LeO.ite ?_ ?_
      | refine LeO.bind ?_ (fun _ => ?_)
theorem spec_l11Ops.mono : ∀ a0 a1 a2 a3 k, LeO (spec_l11Ops.f k a0 a1 a2 a3) (spec_l11Ops.f (k + 1) a0 a1 a2 a3) := by
  intro a0 a1 a2 a3 k
  obtain ⟨ih0, ih1, ih2⟩ := spec_l11Ops.mono_l k
  unfold spec_l11Ops.f
  repeat' first
      | (with_reducible exact ih0 _ _ _ _ _ _)
      | (with_reducible exact ih1 _ _ _ _ _ _ _ _ _ _ _ _)
      | (with_reducible exact ih2 _ _ _ _ _ _ _ _ _ _ _ _)
      | (with_reducible exact LeO.refl _)
      | (with_reducible exact LeO.none _)
      | (with_reducible refine LeO.ite ?_ ?_)
      | (with_reducible refine LeO.bind ?_ (fun _ => ?_))
      | exact ih0 _ _ _ _ _ _
      | exact ih1 _ _ _ _ _ _ _ _ _ _ _ _
      | exact ih2 _ _ _ _ _ _ _ _ _ _ _ _
      | exact LeO.none _
      | refine LeO.ite ?_ ?_
      | refine LeO.bind ?_ (fun _ => ?_)
set_option maxHeartbeats 60000000 in
set_option maxRecDepth 100000 in
theorem spec_l11Ops.calls (k : Nat) (A0 : Option Addr) (c0 : Nat) (l0 : List (S52)) (a1 : Int) (a2 : Int) (a3 : Int) (r : List ByteArray) (w : World) (hr0 : Kd.C k52 w A0 l0.length l0) (hc0 : l0.length ≤ c0) (h : spec_l11Ops.f k l0 a1 a2 a3 = some r) :
    Calls Try.prog 75 #[.slice A0 l0.length c0, .int .i64 a1, .int .i64 a2, .int .i64 a3] w fun e w' => ∃ v0_ : Value, e = .returned (v0_) ∧ Kd.R Kd.string 9 w' w.heap.size (fun _ => True) v0_ r ∧ Below w.heap.size w w' := by
 have hu52 := Try.underlying52
 have HR0 := AM hr0
 have HC0 := AM hc0
 clear hr0 hc0
 have HB := AM (Below.refl w.heap.size w)
 have H : (spec_l11Ops.l0 k l0 a1 a2 a3 (([] : List ByteArray)) 0) = some r := h
 clear h
 obtain ⟨y101, hy101⟩ : ∃ y_ : List ByteArray, y_ = (([] : List ByteArray)) := ⟨_, rfl⟩
 replace H : (spec_l11Ops.l0 k l0 a1 a2 a3 y101 0) = some r := by first | (rw [hy101]; with_reducible exact H) | (have H2_ := (Option.bind_some _ _).symm.trans H; rw [hy101]; with_reducible exact H2_) | (have H2_ := (Option.bind_some _ _).symm.trans H; with_reducible exact H2_) | with_reducible exact H | (rw [hy101]; exact H) | exact H
 have Ny101 := AM hy101
 clear hy101
 have H' := AM H
 clear H
 go_enter Try.func75, Try.ntmps75
 go_wp2_with (first | ((with_reducible refine gate_dst (N := 14) rfl ?_); refine Kd.R_lit Kd.string _ 9 ?hg (N := 14) ?hd (xs := ([] : List ByteArray)) (inner := []) (ok := fun _ => True) (okp := fun _ => True) ?hr ?hp (fun _ hk => hk) trivial (Below.refl _ _) (Nat.le_refl _) (by simp) ?_; (case hd => rfl); (case hg => rfl); (case hr => first | (go_simp; done) | (go_simp; rfl)); (case hp => exact (Reps.none _ _)); intro v102 w5 ho6 hb hg_ hnew_; clear hg_ hnew_; (first | rw [← Ny101.out] at ho6 | (simp only [Int.reduceToNat] at ho6; rw [← Ny101.out] at ho6)); have _ := AM (Kd.R_lower ho6 (bZ (bX HB.out))); have _ := AM (below_step (bX HB.out) hb); clear HB; rename_i HO103 HB; clear hb ho6))
 repeat (go_quiet (first | ((with_reducible refine gate_dst (N := 14) rfl ?_); refine Kd.R_lit Kd.string _ 9 ?hg (N := 14) ?hd (xs := ([] : List ByteArray)) (inner := []) (ok := fun _ => True) (okp := fun _ => True) ?hr ?hp (fun _ hk => hk) trivial (Below.refl _ _) (Nat.le_refl _) (by simp) ?_; (case hd => rfl); (case hg => rfl); (case hr => first | (go_simp; done) | (go_simp; rfl)); (case hp => exact (Reps.none _ _)); intro v102 w5 ho6 hb hg_ hnew_; clear hg_ hnew_; (first | rw [← Ny101.out] at ho6 | (simp only [Int.reduceToNat] at ho6; rw [← Ny101.out] at ho6)); have _ := AM (Kd.R_lower ho6 (bZ (bX HB.out))); have _ := AM (below_step (bX HB.out) hb); clear HB; rename_i HO103 HB; clear hb ho6)); try go_wp2_with (first | ((with_reducible refine gate_dst (N := 14) rfl ?_); refine Kd.R_lit Kd.string _ 9 ?hg (N := 14) ?hd (xs := ([] : List ByteArray)) (inner := []) (ok := fun _ => True) (okp := fun _ => True) ?hr ?hp (fun _ hk => hk) trivial (Below.refl _ _) (Nat.le_refl _) (by simp) ?_; (case hd => rfl); (case hg => rfl); (case hr => first | (go_simp; done) | (go_simp; rfl)); (case hp => exact (Reps.none _ _)); intro v102 w5 ho6 hb hg_ hnew_; clear hg_ hnew_; (first | rw [← Ny101.out] at ho6 | (simp only [Int.reduceToNat] at ho6; rw [← Ny101.out] at ho6)); have _ := AM (Kd.R_lower ho6 (bZ (bX HB.out))); have _ := AM (below_step (bX HB.out) hb); clear HB; rename_i HO103 HB; clear hb ho6)))
 go_loopg [9, 10] k (fun kq v9 v10 w' => ∃ (x9_1 : List ByteArray) (x10_1 : Int), v10 = .int .i64 x10_1 ∧ Aside0 (spec_l11Ops.l0 kq l0 a1 a2 a3 x9_1 x10_1 = some r) ∧ Aside0 (kq ≤ k) ∧ Aside0 (Kd.R Kd.string 9 w' w.heap.size (fun _ => True) v9 x9_1) ∧ Aside0 (Below w.heap.size w w'))
 case atStart => exact ⟨(y101), (0), (by first | rfl | (simp; done) | (simp [*]; done)), H', ⟨Nat.le_refl _⟩, ⟨rX HO103.out⟩, ⟨bX HB.out⟩⟩
 case round =>
  clear H'
  try clear p2
  obtain ⟨x9_1, x10_1, rfl, HA, HK1, HO_9, HB⟩ := hrel
  cases gk with
  | zero => exact absurd HA.out (by simp [spec_l11Ops.l0])
  | succ k1 =>
   have H := HA.out
   clear HA
   simp only [spec_l11Ops.l0] at H
   by_cases c7 : x10_1 < (l0.length : Int)
   ·
    rw [if_pos c7] at H
    have c7b0 : decide (x10_1 < (l0.length : Int)) = true := decide_eq_true c7
    clear c7
    by_cases c8 : 0 ≤ x10_1
    ·
     rw [if_pos c8] at H
     have c8b0 : decide (0 ≤ x10_1) = true := decide_eq_true c8
     clear c8
     have HC9 := AM H
     clear H
     have p104 : 0 ≤ (x10_1 : Int) := of_decide_eq_true (by assumption)
     have q104 : x10_1 < (l0.length : Int) := of_decide_eq_true (by assumption)
     obtain ⟨ad104, e104, hx104_0, hx104_1, hx104_2, hx104_3, hx104_4⟩ := at_T52 HR0.out x10_1 p104 q104
     cases e104
     replace hx104_0 := pw_cell_below HB.out hx104_0
     replace hx104_1 := pw_cell_below HB.out hx104_1
     replace hx104_2 := pw_cell_below HB.out hx104_2
     replace hx104_3 := pw_cell_below HB.out hx104_3
     replace hx104_4 := pw_cell_below HB.out hx104_4
     replace p104 := eq_true p104
     replace q104 := eq_true q104
     go_upto_region 6 with (first | ((with_reducible refine gate_dst (N := 11) rfl ?_); refine box_event (by rfl) (N := 11) (by rfl) (cs := #[.int .i64 0, .int .i64 0, .int .i64 0, .string (⟨#[]⟩ : ByteArray), .int .i64 0]) (t := 52) (by first | (go_simp; done) | (go_simp; rfl)) ?_; intro gb105 hg w10 hbox hb; have _ := AM (Kd.R_below (rX HO_9.out) hb); have _ := AM (below_step (bX HB.out) hb); have _ := AM (hbox); have n3_ := AM ((by rw [hg]; exact (bZ (bX HB.out)) : w.heap.size ≤ gb105)); clear HO_9 HB; rename_i HO_9 HB BK105; have GW105 := n3_; have GE105 := n3_; clear n3_; clear hb hbox hg; have hcz11 := q5 BK105.out; have hfz11 := fZ BK105.out))
     repeat (go_quiet (first | ((with_reducible refine gate_dst (N := 11) rfl ?_); refine box_event (by rfl) (N := 11) (by rfl) (cs := #[.int .i64 0, .int .i64 0, .int .i64 0, .string (⟨#[]⟩ : ByteArray), .int .i64 0]) (t := 52) (by first | (go_simp; done) | (go_simp; rfl)) ?_; intro gb105 hg w10 hbox hb; have _ := AM (Kd.R_below (rX HO_9.out) hb); have _ := AM (below_step (bX HB.out) hb); have _ := AM (hbox); have n3_ := AM ((by rw [hg]; exact (bZ (bX HB.out)) : w.heap.size ≤ gb105)); clear HO_9 HB; rename_i HO_9 HB BK105; have GW105 := n3_; have GE105 := n3_; clear n3_; clear hb hbox hg; have hcz11 := q5 BK105.out; have hfz11 := fZ BK105.out)); go_upto_region 6 with (first | ((with_reducible refine gate_dst (N := 11) rfl ?_); refine box_event (by rfl) (N := 11) (by rfl) (cs := #[.int .i64 0, .int .i64 0, .int .i64 0, .string (⟨#[]⟩ : ByteArray), .int .i64 0]) (t := 52) (by first | (go_simp; done) | (go_simp; rfl)) ?_; intro gb105 hg w10 hbox hb; have _ := AM (Kd.R_below (rX HO_9.out) hb); have _ := AM (below_step (bX HB.out) hb); have _ := AM (hbox); have n3_ := AM ((by rw [hg]; exact (bZ (bX HB.out)) : w.heap.size ≤ gb105)); clear HO_9 HB; rename_i HO_9 HB BK105; have GW105 := n3_; have GE105 := n3_; clear n3_; clear hb hbox hg; have hcz11 := q5 BK105.out; have hfz11 := fZ BK105.out)))
     (try simp only [Act.put, List.setIfInBounds_toArray, List.set_cons_zero, List.set_cons_succ])
     go_cut [40] (fun v40 wc => ∃ (kq : Nat) (x40_8 : Bool), v40 = .bool x40_8 ∧ Aside0 (spec_l11Ops.j1 kq l0 a1 a2 a3 x9_1 x10_1 x40_8 ((rd_T52 l0 x10_1).f0) ((rd_T52 l0 x10_1).f1) ((rd_T52 l0 x10_1).f2) ((rd_T52 l0 x10_1).f3) ((rd_T52 l0 x10_1).f4) = some r) ∧ Aside0 (kq ≤ k1) ∧ Aside0 (Kd.R Kd.string 9 wc w.heap.size (fun _ => True) u9 x9_1) ∧ Aside0 (wc.heap[gb105]? = some (.cells #[.int .i64 ((rd_T52 l0 x10_1).f0), .int .i64 ((rd_T52 l0 x10_1).f1), .int .i64 ((rd_T52 l0 x10_1).f2), .string ((rd_T52 l0 x10_1).f3), .int .i64 ((rd_T52 l0 x10_1).f4)] 52 (0, 0))) ∧ Aside0 (Below w.heap.size w wc))
     case first =>
      have H := HC9.out
      clear HC9
      by_cases c12 : ((rd_T52 l0 x10_1).f0) = a1
      ·
       rw [if_pos c12] at H
       have c12b0 : (((rd_T52 l0 x10_1).f0) == a1) = true := beq_iff_eq.mpr c12
       have c12b1 : (((rd_T52 l0 x10_1).f0) != a1) = false := bne_eq_false_iff_eq.mpr c12
       clear c12
       (first | rw [c12b0] | (simp only [i64_w, i32_w]; rw [c12b0]) | skip)
       by_cases c13 : ((rd_T52 l0 x10_1).f1) = a2
       ·
        rw [if_pos c13] at H
        have c13b0 : (((rd_T52 l0 x10_1).f1) == a2) = true := beq_iff_eq.mpr c13
        have c13b1 : (((rd_T52 l0 x10_1).f1) != a2) = false := bne_eq_false_iff_eq.mpr c13
        clear c13
        have H' := AM H
        clear H
        have hcz14 := q5 BK105.out
        have hfz14 := fZ BK105.out
        go_wp2
        repeat (go_quiet (fail); try go_wp2)
        go_meet
        case rel => exact ⟨_, ((((rd_T52 l0 x10_1).f2) != a3)), (by first | rfl | (simp; done) | (simp [*]; done)), H', ⟨by have := HK1.out; first | omega | exact Nat.le_refl _⟩, ⟨by (with_reducible repeat (first | apply rA | apply rN | apply rD)); exact Kd.R_mono (Kd.R_far (p := ⟨gb105, 4, none⟩) (Kd.R_far (p := ⟨gb105, 3, none⟩) (Kd.R_far (p := ⟨gb105, 2, none⟩) (Kd.R_far (p := ⟨gb105, 1, none⟩) (Kd.R_far (p := ⟨gb105, 0, none⟩) (Kd.R_types HO_9.out BK105.out (by decide)) (fun _ hk => hk.2) (.int .i64 ((rd_T52 l0 x10_1).f0))) (fun _ hk => hk.2) (.int .i64 ((rd_T52 l0 x10_1).f1))) (fun _ hk => hk.2) (.int .i64 ((rd_T52 l0 x10_1).f2))) (fun _ hk => hk.2) (.string ((rd_T52 l0 x10_1).f3))) (fun _ hk => hk.2) (.int .i64 ((rd_T52 l0 x10_1).f4))) (fun _ hk => trivial)⟩, ⟨by refine kP (cs := #[.int .i64 ((rd_T52 l0 x10_1).f0), .int .i64 ((rd_T52 l0 x10_1).f1), .int .i64 ((rd_T52 l0 x10_1).f2), .string ((rd_T52 l0 x10_1).f3), .int .i64 0]) 4 ?_; refine kP (cs := #[.int .i64 ((rd_T52 l0 x10_1).f0), .int .i64 ((rd_T52 l0 x10_1).f1), .int .i64 ((rd_T52 l0 x10_1).f2), .string (⟨#[]⟩ : ByteArray), .int .i64 0]) 3 ?_; refine kP (cs := #[.int .i64 ((rd_T52 l0 x10_1).f0), .int .i64 ((rd_T52 l0 x10_1).f1), .int .i64 0, .string (⟨#[]⟩ : ByteArray), .int .i64 0]) 2 ?_; refine kP (cs := #[.int .i64 ((rd_T52 l0 x10_1).f0), .int .i64 0, .int .i64 0, .string (⟨#[]⟩ : ByteArray), .int .i64 0]) 1 ?_; refine kP (cs := #[.int .i64 0, .int .i64 0, .int .i64 0, .string (⟨#[]⟩ : ByteArray), .int .i64 0]) 0 ?_; (with_reducible repeat (first | apply kN | apply kD | apply kA)); exact BK105.out⟩, ⟨bX HB.out⟩⟩
       rw [if_neg c13] at H
       have c13b0 : (((rd_T52 l0 x10_1).f1) == a2) = false := beq_eq_false_iff_ne.mpr c13
       have c13b1 : (((rd_T52 l0 x10_1).f1) != a2) = true := bne_iff_ne.mpr c13
       have H' := AM H
       clear H
       have hcz15 := q5 BK105.out
       have hfz15 := fZ BK105.out
       go_wp2
       repeat (go_quiet (fail); try go_wp2)
       go_meet
       case rel => exact ⟨_, (true), (by first | rfl | (simp; done) | (simp [*]; done)), H', ⟨by have := HK1.out; first | omega | exact Nat.le_refl _⟩, ⟨by (with_reducible repeat (first | apply rA | apply rN | apply rD)); exact Kd.R_mono (Kd.R_far (p := ⟨gb105, 4, none⟩) (Kd.R_far (p := ⟨gb105, 3, none⟩) (Kd.R_far (p := ⟨gb105, 2, none⟩) (Kd.R_far (p := ⟨gb105, 1, none⟩) (Kd.R_far (p := ⟨gb105, 0, none⟩) (Kd.R_types HO_9.out BK105.out (by decide)) (fun _ hk => hk.2) (.int .i64 ((rd_T52 l0 x10_1).f0))) (fun _ hk => hk.2) (.int .i64 ((rd_T52 l0 x10_1).f1))) (fun _ hk => hk.2) (.int .i64 ((rd_T52 l0 x10_1).f2))) (fun _ hk => hk.2) (.string ((rd_T52 l0 x10_1).f3))) (fun _ hk => hk.2) (.int .i64 ((rd_T52 l0 x10_1).f4))) (fun _ hk => trivial)⟩, ⟨by refine kP (cs := #[.int .i64 ((rd_T52 l0 x10_1).f0), .int .i64 ((rd_T52 l0 x10_1).f1), .int .i64 ((rd_T52 l0 x10_1).f2), .string ((rd_T52 l0 x10_1).f3), .int .i64 0]) 4 ?_; refine kP (cs := #[.int .i64 ((rd_T52 l0 x10_1).f0), .int .i64 ((rd_T52 l0 x10_1).f1), .int .i64 ((rd_T52 l0 x10_1).f2), .string (⟨#[]⟩ : ByteArray), .int .i64 0]) 3 ?_; refine kP (cs := #[.int .i64 ((rd_T52 l0 x10_1).f0), .int .i64 ((rd_T52 l0 x10_1).f1), .int .i64 0, .string (⟨#[]⟩ : ByteArray), .int .i64 0]) 2 ?_; refine kP (cs := #[.int .i64 ((rd_T52 l0 x10_1).f0), .int .i64 0, .int .i64 0, .string (⟨#[]⟩ : ByteArray), .int .i64 0]) 1 ?_; refine kP (cs := #[.int .i64 0, .int .i64 0, .int .i64 0, .string (⟨#[]⟩ : ByteArray), .int .i64 0]) 0 ?_; (with_reducible repeat (first | apply kN | apply kD | apply kA)); exact BK105.out⟩, ⟨bX HB.out⟩⟩
      rw [if_neg c12] at H
      have c12b0 : (((rd_T52 l0 x10_1).f0) == a1) = false := beq_eq_false_iff_ne.mpr c12
      have c12b1 : (((rd_T52 l0 x10_1).f0) != a1) = true := bne_iff_ne.mpr c12
      (first | rw [c12b0] | (simp only [i64_w, i32_w]; rw [c12b0]) | skip)
      have H' := AM H
      clear H
      have hcz16 := q5 BK105.out
      have hfz16 := fZ BK105.out
      go_wp2
      repeat (go_quiet (fail); try go_wp2)
      go_meet
      case rel => exact ⟨_, (true), (by first | rfl | (simp; done) | (simp [*]; done)), H', ⟨by have := HK1.out; first | omega | exact Nat.le_refl _⟩, ⟨by (with_reducible repeat (first | apply rA | apply rN | apply rD)); exact Kd.R_mono (Kd.R_far (p := ⟨gb105, 4, none⟩) (Kd.R_far (p := ⟨gb105, 3, none⟩) (Kd.R_far (p := ⟨gb105, 2, none⟩) (Kd.R_far (p := ⟨gb105, 1, none⟩) (Kd.R_far (p := ⟨gb105, 0, none⟩) (Kd.R_types HO_9.out BK105.out (by decide)) (fun _ hk => hk.2) (.int .i64 ((rd_T52 l0 x10_1).f0))) (fun _ hk => hk.2) (.int .i64 ((rd_T52 l0 x10_1).f1))) (fun _ hk => hk.2) (.int .i64 ((rd_T52 l0 x10_1).f2))) (fun _ hk => hk.2) (.string ((rd_T52 l0 x10_1).f3))) (fun _ hk => hk.2) (.int .i64 ((rd_T52 l0 x10_1).f4))) (fun _ hk => trivial)⟩, ⟨by refine kP (cs := #[.int .i64 ((rd_T52 l0 x10_1).f0), .int .i64 ((rd_T52 l0 x10_1).f1), .int .i64 ((rd_T52 l0 x10_1).f2), .string ((rd_T52 l0 x10_1).f3), .int .i64 0]) 4 ?_; refine kP (cs := #[.int .i64 ((rd_T52 l0 x10_1).f0), .int .i64 ((rd_T52 l0 x10_1).f1), .int .i64 ((rd_T52 l0 x10_1).f2), .string (⟨#[]⟩ : ByteArray), .int .i64 0]) 3 ?_; refine kP (cs := #[.int .i64 ((rd_T52 l0 x10_1).f0), .int .i64 ((rd_T52 l0 x10_1).f1), .int .i64 0, .string (⟨#[]⟩ : ByteArray), .int .i64 0]) 2 ?_; refine kP (cs := #[.int .i64 ((rd_T52 l0 x10_1).f0), .int .i64 0, .int .i64 0, .string (⟨#[]⟩ : ByteArray), .int .i64 0]) 1 ?_; refine kP (cs := #[.int .i64 0, .int .i64 0, .int .i64 0, .string (⟨#[]⟩ : ByteArray), .int .i64 0]) 0 ?_; (with_reducible repeat (first | apply kN | apply kD | apply kA)); exact BK105.out⟩, ⟨bX HB.out⟩⟩
     case rest =>
      clear HC9
      (try clear c1); (try clear p1); (try clear q1); (try clear hx1); (try clear p2); (try clear c7); (try clear c7b0); (try clear c8); (try clear c8b0); (try clear p10); (try clear q10); (try clear hx10); (try clear c12); (try clear c12b0); (try clear c12b1); (try clear c13); (try clear c13b0); (try clear c13b1); (try clear hcz11); (try clear hcz14); (try clear hcz15); (try clear hcz16); (try clear hfz11); (try clear hfz14); (try clear hfz15); (try clear hfz16); (try clear hx104_0); (try clear hx104_1); (try clear hx104_2); (try clear hx104_3); (try clear hx104_4); (try clear p104); (try clear q104)
      obtain ⟨kq, x40_8, rfl, HA, HJ8, HO_9, BK105, HB⟩ := hcut
      cases kq with
      | zero => exact absurd HA.out (by simp [spec_l11Ops.j1])
      | succ kj8 =>
       have H := HA.out
       clear HA
       simp only [spec_l11Ops.j1] at H
       by_cases c17 : x40_8 = true
       ·
        subst c17
        have H1 : (spec_l11Ops.l0 kj8 l0 a1 a2 a3 x9_1 (wrap64 (x10_1 + 1))) = some r := by rw [if_pos rfl] at H; exact H
        clear H
        have H := H1
        clear H1
        have H' := AM H
        clear H
        go_wp2
        repeat (go_quiet (fail); try go_wp2)
        go_roundg kj8
        case measure => have := HK1.out; have := HJ8.out; omega
        case rel => exact ⟨(x9_1), (wrap64 (x10_1 + 1)), (by first | rfl | (simp; done) | (simp [*]; done)), H', ⟨by have := HK1.out; have := HJ8.out; omega⟩, ⟨rX HO_9.out⟩, ⟨bX HB.out⟩⟩
       replace c17 := Bool.eq_false_iff.mpr c17
       subst c17
       have H1 : (spec_l11Ops.l1 kj8 l0 a1 a2 a3 x9_1 x10_1 0 ((rd_T52 l0 x10_1).f0) ((rd_T52 l0 x10_1).f1) ((rd_T52 l0 x10_1).f2) ((rd_T52 l0 x10_1).f3) ((rd_T52 l0 x10_1).f4)) = some r := by rw [if_neg (show ¬ (false = true) by decide)] at H; exact H
       clear H
       have H := H1
       clear H1
       have H' := AM H
       clear H
       go_wp2
       repeat (go_quiet (fail); try go_wp2)
       go_loopg [12] kj8 (fun kq v12 w' => ∃ (x12_3 : Int), v12 = .int .i64 x12_3 ∧ Aside0 (spec_l11Ops.l1 kq l0 a1 a2 a3 x9_1 x10_1 x12_3 ((rd_T52 l0 x10_1).f0) ((rd_T52 l0 x10_1).f1) ((rd_T52 l0 x10_1).f2) ((rd_T52 l0 x10_1).f3) ((rd_T52 l0 x10_1).f4) = some r) ∧ Aside0 (kq ≤ kj8) ∧ Aside0 (Kd.R Kd.string 9 w' w.heap.size (fun _ => True) u9 x9_1) ∧ Aside0 (w'.heap[gb105]? = some (.cells #[.int .i64 ((rd_T52 l0 x10_1).f0), .int .i64 ((rd_T52 l0 x10_1).f1), .int .i64 ((rd_T52 l0 x10_1).f2), .string ((rd_T52 l0 x10_1).f3), .int .i64 ((rd_T52 l0 x10_1).f4)] 52 (0, 0))) ∧ Aside0 (Below w.heap.size w w'))
       case atStart => exact ⟨(0), (by first | rfl | (simp; done) | (simp [*]; done)), H', ⟨Nat.le_refl _⟩, ⟨rX HO_9.out⟩, ⟨kX BK105.out⟩, ⟨bX HB.out⟩⟩
       case round =>
        clear H'
        (try clear c1); (try clear p1); (try clear q1); (try clear hx1); (try clear p2); (try clear p6); (try clear c7); (try clear c7b0); (try clear c8); (try clear c8b0); (try clear p10); (try clear q10); (try clear hx10); (try clear c12); (try clear c12b0); (try clear c12b1); (try clear c13); (try clear c13b0); (try clear c13b1); (try clear c17); (try clear hcz11); (try clear hcz14); (try clear hcz15); (try clear hcz16); (try clear hfz11); (try clear hfz14); (try clear hfz15); (try clear hfz16); (try clear hx104_0); (try clear hx104_1); (try clear hx104_2); (try clear hx104_3); (try clear hx104_4); (try clear p104); (try clear q104)
        obtain ⟨x12_3, rfl, HA, HK3, HO_9, BK105, HB⟩ := hrel
        cases gk with
        | zero => exact absurd HA.out (by simp [spec_l11Ops.l1])
        | succ k3 =>
         have H := HA.out
         clear HA
         simp only [spec_l11Ops.l1] at H
         by_cases c18 : x12_3 < (x9_1.length : Int)
         ·
          rw [if_pos c18] at H
          have c18b0 : decide (x12_3 < (x9_1.length : Int)) = true := decide_eq_true c18
          clear c18
          by_cases c19 : 0 ≤ x12_3
          ·
           rw [if_pos c19] at H
           have c19b0 : decide (0 ≤ x12_3) = true := decide_eq_true c19
           clear c19
           by_cases c20 : (Op.bytesLess ((rdOf ByteArray.empty x9_1 x12_3).toList) ((rd_T52 l0 x10_1).f3).toList) = true
           ·
            rw [if_pos c20] at H
            have c20b0 : (Op.bytesLess ((rdOf ByteArray.empty x9_1 x12_3).toList) ((rd_T52 l0 x10_1).f3).toList) = true := c20
            clear c20
            have H' := AM H
            clear H
            obtain ⟨Ao21, co21, eo21⟩ := Kd.R_slice HO_9.out
            subst eo21
            have p106 : 0 ≤ (x12_3 : Int) := of_decide_eq_true (by assumption)
            have q106 : x12_3 < (x9_1.length : Int) := of_decide_eq_true (by assumption)
            obtain ⟨ad106, e106, hx106_0⟩ := Kd.at_string (Kd.R_reads' HO_9.out).2.2 x12_3 p106 q106
            cases e106
            replace p106 := eq_true p106
            replace q106 := eq_true q106
            have hcz22 := q5 BK105.out
            have hfz22 := fZ BK105.out
            go_wp2
            repeat (go_quiet (fail); try go_wp2)
            go_roundg k3
            case measure => have := HK1.out; have := HJ8.out; have := HK3.out; omega
            case rel => exact ⟨(wrap64 (x12_3 + 1)), (by first | rfl | (simp; done) | (simp [*]; done)), H', ⟨by have := HK1.out; have := HJ8.out; have := HK3.out; omega⟩, ⟨rX HO_9.out⟩, ⟨kX BK105.out⟩, ⟨bX HB.out⟩⟩
           rw [if_neg c20] at H
           have c20b0 : (Op.bytesLess ((rdOf ByteArray.empty x9_1 x12_3).toList) ((rd_T52 l0 x10_1).f3).toList) = false := by simpa using c20
           clear c20
           by_cases c23 : (rdOf ByteArray.empty x9_1 x12_3).toList = ((rd_T52 l0 x10_1).f3).toList
           ·
            rw [if_pos c23] at H
            have c23b0 : ((rdOf ByteArray.empty x9_1 x12_3).toList == ((rd_T52 l0 x10_1).f3).toList) = true := beq_iff_eq.mpr c23
            have c23b1 : ((rdOf ByteArray.empty x9_1 x12_3).toList != ((rd_T52 l0 x10_1).f3).toList) = false := bne_eq_false_iff_eq.mpr c23
            clear c23
            have H' := AM H
            clear H
            obtain ⟨Ao24, co24, eo24⟩ := Kd.R_slice HO_9.out
            subst eo24
            have p106 : 0 ≤ (x12_3 : Int) := of_decide_eq_true (by assumption)
            have q106 : x12_3 < (x9_1.length : Int) := of_decide_eq_true (by assumption)
            obtain ⟨ad106, e106, hx106_0⟩ := Kd.at_string (Kd.R_reads' HO_9.out).2.2 x12_3 p106 q106
            cases e106
            replace p106 := eq_true p106
            replace q106 := eq_true q106
            have hcz25 := q5 BK105.out
            have hfz25 := fZ BK105.out
            have p107 : 0 ≤ (x12_3 : Int) := of_decide_eq_true (by assumption)
            have q107 : x12_3 < (x9_1.length : Int) := of_decide_eq_true (by assumption)
            obtain ⟨ad107, e107, hx107_0⟩ := Kd.at_string (Kd.R_reads' HO_9.out).2.2 x12_3 p107 q107
            obtain rfl : ad106 = ad107 := (by injection e107)
            replace p107 := eq_true p107
            replace q107 := eq_true q107
            go_wp2
            repeat (go_quiet (fail); try go_wp2)
            go_roundg k3
            case measure => have := HK1.out; have := HJ8.out; have := HK3.out; omega
            case rel => exact ⟨(x9_1), (wrap64 (x10_1 + 1)), (by first | rfl | (simp; done) | (simp [*]; done)), H', ⟨by have := HK1.out; have := HJ8.out; have := HK3.out; omega⟩, ⟨rX HO_9.out⟩, ⟨bX HB.out⟩⟩
           rw [if_neg c23] at H
           have c23b0 : ((rdOf ByteArray.empty x9_1 x12_3).toList == ((rd_T52 l0 x10_1).f3).toList) = false := beq_eq_false_iff_ne.mpr c23
           have c23b1 : ((rdOf ByteArray.empty x9_1 x12_3).toList != ((rd_T52 l0 x10_1).f3).toList) = true := bne_iff_ne.mpr c23
           obtain ⟨y108, hy108⟩ : ∃ y_ : List ByteArray, y_ = (([] : List ByteArray)) := ⟨_, rfl⟩
           replace H : (if x12_3 ≤ (x9_1.length : Int) then ((some (x9_1.take (x12_3 : Int).toNat : List ByteArray)).bind fun y111 => (if y108.length + y111.length < 8796093022208 then ((some (y108 ++ y111 : List ByteArray)).bind fun y115 => (if y115.length < 8796093022208 then ((some (y115 ++ [((rd_T52 l0 x10_1).f3)] : List ByteArray)).bind fun y118 => ((some (x9_1.drop (x12_3 : Int).toNat : List ByteArray)).bind fun y121 => (if y118.length + y121.length < 8796093022208 then (spec_l11Ops.l0 k3 l0 a1 a2 a3 (y118 ++ y121) (wrap64 (x10_1 + 1))) else (none)))) else (none))) else (none))) else (none)) = some r := by first | (rw [hy108]; with_reducible exact H) | (have H2_ := (Option.bind_some _ _).symm.trans H; rw [hy108]; with_reducible exact H2_) | (have H2_ := (Option.bind_some _ _).symm.trans H; with_reducible exact H2_) | with_reducible exact H | (rw [hy108]; exact H) | exact H
           have Ny108 := AM hy108
           clear hy108
           have c26b0 := eq_true (of_decide_eq_true (by assumption) : 0 ≤ x12_3)
           by_cases c27 : x12_3 ≤ (x9_1.length : Int)
           ·
            rw [if_pos c27] at H
            have c27b0 := eq_true c27
            have c27b1 : decide (x12_3 ≤ (x9_1.length : Int)) = true := decide_eq_true c27
            clear c27
            obtain ⟨y111, hy111⟩ : ∃ y_ : List ByteArray, y_ = (x9_1.take (x12_3 : Int).toNat) := ⟨_, rfl⟩
            replace H : (if y108.length + y111.length < 8796093022208 then ((some (y108 ++ y111 : List ByteArray)).bind fun y115 => (if y115.length < 8796093022208 then ((some (y115 ++ [((rd_T52 l0 x10_1).f3)] : List ByteArray)).bind fun y118 => ((some (x9_1.drop (x12_3 : Int).toNat : List ByteArray)).bind fun y121 => (if y118.length + y121.length < 8796093022208 then (spec_l11Ops.l0 k3 l0 a1 a2 a3 (y118 ++ y121) (wrap64 (x10_1 + 1))) else (none)))) else (none))) else (none)) = some r := by first | (rw [hy111]; with_reducible exact H) | (have H2_ := (Option.bind_some _ _).symm.trans H; rw [hy111]; with_reducible exact H2_) | (have H2_ := (Option.bind_some _ _).symm.trans H; with_reducible exact H2_) | with_reducible exact H | (rw [hy111]; exact H) | exact H
            have Ny111 := AM hy111
            clear hy111
            by_cases c28 : y108.length + y111.length < 8796093022208
            ·
             rw [if_pos c28] at H
             have LMc28 := AM c28
             clear c28
             obtain ⟨y115, hy115⟩ : ∃ y_ : List ByteArray, y_ = (y108 ++ y111) := ⟨_, rfl⟩
             replace H : (if y115.length < 8796093022208 then ((some (y115 ++ [((rd_T52 l0 x10_1).f3)] : List ByteArray)).bind fun y118 => ((some (x9_1.drop (x12_3 : Int).toNat : List ByteArray)).bind fun y121 => (if y118.length + y121.length < 8796093022208 then (spec_l11Ops.l0 k3 l0 a1 a2 a3 (y118 ++ y121) (wrap64 (x10_1 + 1))) else (none)))) else (none)) = some r := by first | (rw [hy115]; with_reducible exact H) | (have H2_ := (Option.bind_some _ _).symm.trans H; rw [hy115]; with_reducible exact H2_) | (have H2_ := (Option.bind_some _ _).symm.trans H; with_reducible exact H2_) | with_reducible exact H | (rw [hy115]; exact H) | exact H
             have Ny115 := AM hy115
             clear hy115
             by_cases c29 : y115.length < 8796093022208
             ·
              rw [if_pos c29] at H
              have LMc29 := AM c29
              clear c29
              obtain ⟨y118, hy118⟩ : ∃ y_ : List ByteArray, y_ = (y115 ++ [((rd_T52 l0 x10_1).f3)]) := ⟨_, rfl⟩
              replace H : ((some (x9_1.drop (x12_3 : Int).toNat : List ByteArray)).bind fun y121 => (if y118.length + y121.length < 8796093022208 then (spec_l11Ops.l0 k3 l0 a1 a2 a3 (y118 ++ y121) (wrap64 (x10_1 + 1))) else (none))) = some r := by first | (rw [hy118]; with_reducible exact H) | (have H2_ := (Option.bind_some _ _).symm.trans H; rw [hy118]; with_reducible exact H2_) | (have H2_ := (Option.bind_some _ _).symm.trans H; with_reducible exact H2_) | with_reducible exact H | (rw [hy118]; exact H) | exact H
              have Ny118 := AM hy118
              clear hy118
              have c30b0 := eq_true (of_decide_eq_true (by assumption) : 0 ≤ x12_3)
              have c31b0 := eq_true (of_decide_eq_true (by assumption) : x12_3 ≤ (x9_1.length : Int))
              obtain ⟨y121, hy121⟩ : ∃ y_ : List ByteArray, y_ = (x9_1.drop (x12_3 : Int).toNat) := ⟨_, rfl⟩
              replace H : (if y118.length + y121.length < 8796093022208 then (spec_l11Ops.l0 k3 l0 a1 a2 a3 (y118 ++ y121) (wrap64 (x10_1 + 1))) else (none)) = some r := by first | (rw [hy121]; with_reducible exact H) | (have H2_ := (Option.bind_some _ _).symm.trans H; rw [hy121]; with_reducible exact H2_) | (have H2_ := (Option.bind_some _ _).symm.trans H; with_reducible exact H2_) | with_reducible exact H | (rw [hy121]; exact H) | exact H
              have Ny121 := AM hy121
              clear hy121
              by_cases c32 : y118.length + y121.length < 8796093022208
              ·
               rw [if_pos c32] at H
               have LMc32 := AM c32
               clear c32
               obtain ⟨y125, hy125⟩ : ∃ y_ : List ByteArray, y_ = (y118 ++ y121) := ⟨_, rfl⟩
               replace H : (spec_l11Ops.l0 k3 l0 a1 a2 a3 y125 (wrap64 (x10_1 + 1))) = some r := by first | (rw [hy125]; with_reducible exact H) | (have H2_ := (Option.bind_some _ _).symm.trans H; rw [hy125]; with_reducible exact H2_) | (have H2_ := (Option.bind_some _ _).symm.trans H; with_reducible exact H2_) | with_reducible exact H | (rw [hy125]; exact H) | exact H
               have Ny125 := AM hy125
               clear hy125
               have H' := AM H
               clear H
               obtain ⟨Ao33, co33, eo33⟩ := Kd.R_slice HO_9.out
               subst eo33
               have p106 : 0 ≤ (x12_3 : Int) := of_decide_eq_true (by assumption)
               have q106 : x12_3 < (x9_1.length : Int) := of_decide_eq_true (by assumption)
               obtain ⟨ad106, e106, hx106_0⟩ := Kd.at_string (Kd.R_reads' HO_9.out).2.2 x12_3 p106 q106
               cases e106
               replace p106 := eq_true p106
               replace q106 := eq_true q106
               have hcz34 := q5 BK105.out
               have hfz34 := fZ BK105.out
               have p107 : 0 ≤ (x12_3 : Int) := of_decide_eq_true (by assumption)
               have q107 : x12_3 < (x9_1.length : Int) := of_decide_eq_true (by assumption)
               obtain ⟨ad107, e107, hx107_0⟩ := Kd.at_string (Kd.R_reads' HO_9.out).2.2 x12_3 p107 q107
               obtain rfl : ad106 = ad107 := (by injection e107)
               replace p107 := eq_true p107
               replace q107 := eq_true q107
               go_wp2_with (first | ((with_reducible refine gate_dst (N := 69) rfl ?_); refine Kd.R_lit Kd.string _ 9 ?hg (N := 69) ?hd (xs := ([] : List ByteArray)) (inner := []) (ok := fun _ => True) (okp := fun _ => True) ?hr ?hp (fun _ hk => hk) trivial (Below.refl _ _) (Nat.le_refl _) (by simp) ?_; (case hd => rfl); (case hg => rfl); (case hr => first | (go_simp; done) | (go_simp; rfl)); (case hp => exact (Reps.none _ _)); intro v109 w35 ho36 hb hg_ hnew_; clear hg_ hnew_; (first | rw [← Ny108.out] at ho36 | (simp only [Int.reduceToNat] at ho36; rw [← Ny108.out] at ho36)); have _ := AM (Kd.R_elder' (rX HO_9.out) (Kd.R_base ho36) hb); have _ := AM (Kd.R_lower (Kd.R_new' ho36 (Kd.R_lt (rX HO_9.out))) (bZ (bX HB.out))); have _ := AM (nB BK105.out hb); have _ := AM (below_step (bX HB.out) hb); clear HO_9 BK105 HB; rename_i HO_9 HO110 BK105 HB; clear hb ho36; have q37 : (x12_3 : Int) ≤ ((x9_1.length : Int) : Int) := of_decide_eq_true (by assumption); obtain ⟨i037, hi037, _, hsz37, _⟩ := info_parts info9; have hroom37 : x9_1.length ≤ co33 := (Kd.R_reads' HO_9.out).2.1; have hC37 : Kd.C Kd.string _ (some ad106) x9_1.length x9_1 := (Kd.R_reads' HO_9.out).2.2; have hcut37 := cut_to (P := Try.prog) 92 9 .i64 Try.underlying92 hi037 (some ad106) x9_1.length co33 x12_3 (of_decide_eq_true (by assumption)) q37 hroom37; have hr37 := Kd.C_take (m := (x12_3 : Int).toNat) hC37 (by omega); have hy37 : y111.length = (x12_3 : Int).toNat := (by rw [Ny111.out, mE]; omega); rw [← Ny111.out] at hr37; rw [← hy37] at hcut37; have HR114 := AM hr37; have HC114 := AM (show y111.length ≤ co33 from by omega); clear hr37 hC37 hroom37 hi037 hsz37; have KY37 := AM hy37; clear hy37; have KL37 := AM (show (x12_3 : Int).toNat ≤ x9_1.length from by omega); replace q37 := eq_true q37) | ((with_reducible refine gate_builtin (b := .append) (xs := #[.tmp 69, .tmp 72]) rfl ?_); at_builtin; refine Kd.R_append_rows Kd.string (w0 := w) w.heap.size rfl (.tmp 69) (.tmp 72) 92 9 (.string ⟨#[]⟩) 16 rfl Try.underlying92 info9 rfl (by decide) (by omega) v109 y108 y111 _ _ _ (fun k_ => some k_ ≠ (.slice (some ad106) x9_1.length co33 : Value).ownBlock) (fun _ => False) rfl rfl ?aO ?aR (fun _ _ h => h) (fun _ h => h.elim) ?aF ?aB ?aS ?aL ?_; (case aR => repeat (first | exact (by repeat (first | (with_reducible exact HR114.out) | (with_reducible first | apply cA | apply cN | apply cD) | exact HR114.out)) | (with_reducible first | apply cA | apply cN | apply cD))); (case aB => exact (bX HB.out)); (case aF => exact (fun k_ hk => Kd.fresh' (Kd.R_lt (rX HO_9.out)) k_ hk)); (case aO => exact (by (with_reducible repeat (first | apply rA | apply rN | apply rD)); exact Kd.R_mono HO110.out (fun _ hk => hk.2))); (case aS => exact (bZ (bX HB.out))); (case aL => have := LMc28.out; omega); intro v116 w38 ho hb hg hat; rw [← Ny115.out] at ho; have _ := AM (Kd.R_after (ok := (fun _ => True)) (rX HO_9.out) hg hat); have _ := AM (blk_grown (g := gb105) (o := .cells #[.int .i64 ((rd_T52 l0 x10_1).f0), .int .i64 ((rd_T52 l0 x10_1).f1), .int .i64 ((rd_T52 l0 x10_1).f2), .string ((rd_T52 l0 x10_1).f3), .int .i64 ((rd_T52 l0 x10_1).f4)] 52 (0, 0)) (kX BK105.out) hg (Kd.R_ne HO110.out BK105.out (by decide))); have _ := AM (hb); have _ := AM ((show Kd.C Kd.string w38 (some ad106) y111.length y111 from by rw [Ny111.out]; exact Kd.C_take (m := (x12_3 : Int).toNat) ((Kd.R_reads' (Kd.R_after (ok := (fun _ => True)) (rX HO_9.out) hg hat)).2.2) KL37.out)); have _ := AM (ho); clear HO_9 BK105 HB HR114 HO110; rename_i HO_9 BK105 HB HR114 HO117; clear ho hb hg hat; have hcz39 := q5 BK105.out; have hfz39 := fZ BK105.out) | ((with_reducible refine gate_builtin (b := .append) (xs := #[.tmp 74, .tmp 77]) rfl ?_); at_builtin; refine Kd.R_append Kd.string (w0 := w) w.heap.size rfl (.tmp 74) (.tmp 77) 92 9 (.string ⟨#[]⟩) 16 rfl Try.underlying92 info9 rfl (by decide) (by omega) v116 y115 ((rd_T52 l0 x10_1).f3) [.string ((rd_T52 l0 x10_1).f3)] (fun k_ => some k_ ≠ (.slice (some ad106) x9_1.length co33 : Value).ownBlock) (fun _ => False) rfl rfl ?aP (fun _ hk => hk.elim) ?aF ?aO ?aB ?aS ?aL ?_; (case aP => exact rfl); (case aB => exact (bX HB.out)); (case aF => exact (fun k_ hk => Kd.fresh' (Kd.R_lt (rX HO_9.out)) k_ hk)); (case aO => exact (rX HO117.out)); (case aS => exact (bZ (bX HB.out))); (case aL => have := LMc29.out; omega); intro v119 w40 ho hb hg hat; rw [← Ny118.out] at ho; have _ := AM (Kd.R_after (ok := (fun _ => True)) (rX HO_9.out) hg hat); have _ := AM (blk_grown (g := gb105) (o := .cells #[.int .i64 ((rd_T52 l0 x10_1).f0), .int .i64 ((rd_T52 l0 x10_1).f1), .int .i64 ((rd_T52 l0 x10_1).f2), .string ((rd_T52 l0 x10_1).f3), .int .i64 ((rd_T52 l0 x10_1).f4)] 52 (0, 0)) (kX BK105.out) hg (Kd.R_ne HO117.out BK105.out (by decide))); have _ := AM (hb); have _ := AM ((show Kd.C Kd.string w40 (some ad106) y111.length y111 from by rw [Ny111.out]; exact Kd.C_take (m := (x12_3 : Int).toNat) ((Kd.R_reads' (Kd.R_after (ok := (fun _ => True)) (rX HO_9.out) hg hat)).2.2) KL37.out)); have _ := AM (ho); clear HO_9 BK105 HB HR114 HO117; rename_i HO_9 BK105 HB HR114 HO120; clear ho hb hg hat; have q41 : (x12_3 : Int) ≤ ((x9_1.length : Int) : Int) := of_decide_eq_true (by assumption); obtain ⟨i041, hi041, _, hsz41, _⟩ := info_parts info9; have hroom41 : x9_1.length ≤ co33 := (Kd.R_reads' HO_9.out).2.1; have hC41 : Kd.C Kd.string _ (some ad106) x9_1.length x9_1 := (Kd.R_reads' HO_9.out).2.2; have q041 : (0 : Int) ≤ (x12_3 : Int) := of_decide_eq_true (by assumption); have hcut41 := cut_from (P := Try.prog) 92 9 .i64 Try.underlying92 hi041 1 hsz41 (some ad106) x9_1.length co33 x12_3 q041 q41; have hr41 := Kd.C_drop (m := (x12_3 : Int).toNat) (c := co33) hC41 (by omega) hroom41; obtain ⟨A41, hA41⟩ : ∃ A1, A1 = (if co33 = (x12_3 : Int).toNat then (some ad106) else ((some ad106) : Option Addr).map (·.add ((x12_3 : Int).toNat * 1))) := ⟨_, rfl⟩; obtain ⟨c41, hc41⟩ : ∃ c1, c1 = co33 - (x12_3 : Int).toNat := ⟨_, rfl⟩; have hy41 : y121.length = x9_1.length - (x12_3 : Int).toNat := (by rw [Ny121.out, mD] <;> omega); rw [show (x9_1).drop (x12_3 : Int).toNat = y121 from Ny121.out.symm] at hr41; replace hr41 : Kd.C Kd.string _ A41 y121.length y121 := (by rw [hA41]; exact hr41); rw [← hy41, ← hA41, ← hc41] at hcut41; have HR124 := AM hr41; have HC124 := AM (show y121.length ≤ c41 from by rw [hy41, hc41]; exact Nat.sub_le_sub_right hroom41 _); clear hr41 hC41 hroom41 hi041 hsz41 hc41; have KY41 := AM hy41; have KA41 := AM hA41; clear hy41 hA41; have KL41 := AM (show (x12_3 : Int).toNat ≤ x9_1.length from by omega); replace q41 := eq_true q41) | ((with_reducible refine gate_builtin (b := .append) (xs := #[.tmp 79, .tmp 82]) rfl ?_); at_builtin; refine Kd.R_append_rows Kd.string (w0 := w) w.heap.size rfl (.tmp 79) (.tmp 82) 92 9 (.string ⟨#[]⟩) 16 rfl Try.underlying92 info9 rfl (by decide) (by omega) v119 y118 y121 _ _ _ (fun k_ => some k_ ≠ (.slice (some ad106) x9_1.length co33 : Value).ownBlock) (fun _ => False) rfl rfl ?aO ?aR (fun _ _ h => h) (fun _ h => h.elim) ?aF ?aB ?aS ?aL ?_; (case aR => repeat (first | exact (by repeat (first | (with_reducible exact HR124.out) | (with_reducible first | apply cA | apply cN | apply cD) | exact HR124.out)) | (with_reducible first | apply cA | apply cN | apply cD))); (case aB => exact (bX HB.out)); (case aF => exact (fun k_ hk => Kd.fresh' (Kd.R_lt (rX HO_9.out)) k_ hk)); (case aO => exact (rX HO120.out)); (case aS => exact (bZ (bX HB.out))); (case aL => have := LMc32.out; omega); intro v126 w42 ho hb hg hat; rw [← Ny125.out] at ho; have _ := AM (Kd.R_after (ok := (fun _ => True)) (rX HO_9.out) hg hat); have _ := AM (blk_grown (g := gb105) (o := .cells #[.int .i64 ((rd_T52 l0 x10_1).f0), .int .i64 ((rd_T52 l0 x10_1).f1), .int .i64 ((rd_T52 l0 x10_1).f2), .string ((rd_T52 l0 x10_1).f3), .int .i64 ((rd_T52 l0 x10_1).f4)] 52 (0, 0)) (kX BK105.out) hg (Kd.R_ne HO120.out BK105.out (by decide))); have _ := AM (hb); have _ := AM ((show Kd.C Kd.string w42 (some ad106) y111.length y111 from by rw [Ny111.out]; exact Kd.C_take (m := (x12_3 : Int).toNat) ((Kd.R_reads' (Kd.R_after (ok := (fun _ => True)) (rX HO_9.out) hg hat)).2.2) KL37.out)); have _ := AM ((show Kd.C Kd.string w42 A41 y121.length y121 from by rw [Ny121.out, KA41.out]; exact Kd.C_drop (m := (x12_3 : Int).toNat) (c := co33) ((Kd.R_reads' (Kd.R_after (ok := (fun _ => True)) (rX HO_9.out) hg hat)).2.2) KL41.out ((Kd.R_reads' (Kd.R_after (ok := (fun _ => True)) (rX HO_9.out) hg hat)).2.1))); have _ := AM (ho); clear HO_9 BK105 HB HR114 HR124 HO120; rename_i HO_9 BK105 HB HR114 HR124 HO127; clear ho hb hg hat))
               repeat (go_quiet (first | ((with_reducible refine gate_dst (N := 69) rfl ?_); refine Kd.R_lit Kd.string _ 9 ?hg (N := 69) ?hd (xs := ([] : List ByteArray)) (inner := []) (ok := fun _ => True) (okp := fun _ => True) ?hr ?hp (fun _ hk => hk) trivial (Below.refl _ _) (Nat.le_refl _) (by simp) ?_; (case hd => rfl); (case hg => rfl); (case hr => first | (go_simp; done) | (go_simp; rfl)); (case hp => exact (Reps.none _ _)); intro v109 w35 ho36 hb hg_ hnew_; clear hg_ hnew_; (first | rw [← Ny108.out] at ho36 | (simp only [Int.reduceToNat] at ho36; rw [← Ny108.out] at ho36)); have _ := AM (Kd.R_elder' (rX HO_9.out) (Kd.R_base ho36) hb); have _ := AM (Kd.R_lower (Kd.R_new' ho36 (Kd.R_lt (rX HO_9.out))) (bZ (bX HB.out))); have _ := AM (nB BK105.out hb); have _ := AM (below_step (bX HB.out) hb); clear HO_9 BK105 HB; rename_i HO_9 HO110 BK105 HB; clear hb ho36; have q37 : (x12_3 : Int) ≤ ((x9_1.length : Int) : Int) := of_decide_eq_true (by assumption); obtain ⟨i037, hi037, _, hsz37, _⟩ := info_parts info9; have hroom37 : x9_1.length ≤ co33 := (Kd.R_reads' HO_9.out).2.1; have hC37 : Kd.C Kd.string _ (some ad106) x9_1.length x9_1 := (Kd.R_reads' HO_9.out).2.2; have hcut37 := cut_to (P := Try.prog) 92 9 .i64 Try.underlying92 hi037 (some ad106) x9_1.length co33 x12_3 (of_decide_eq_true (by assumption)) q37 hroom37; have hr37 := Kd.C_take (m := (x12_3 : Int).toNat) hC37 (by omega); have hy37 : y111.length = (x12_3 : Int).toNat := (by rw [Ny111.out, mE]; omega); rw [← Ny111.out] at hr37; rw [← hy37] at hcut37; have HR114 := AM hr37; have HC114 := AM (show y111.length ≤ co33 from by omega); clear hr37 hC37 hroom37 hi037 hsz37; have KY37 := AM hy37; clear hy37; have KL37 := AM (show (x12_3 : Int).toNat ≤ x9_1.length from by omega); replace q37 := eq_true q37) | ((with_reducible refine gate_builtin (b := .append) (xs := #[.tmp 69, .tmp 72]) rfl ?_); at_builtin; refine Kd.R_append_rows Kd.string (w0 := w) w.heap.size rfl (.tmp 69) (.tmp 72) 92 9 (.string ⟨#[]⟩) 16 rfl Try.underlying92 info9 rfl (by decide) (by omega) v109 y108 y111 _ _ _ (fun k_ => some k_ ≠ (.slice (some ad106) x9_1.length co33 : Value).ownBlock) (fun _ => False) rfl rfl ?aO ?aR (fun _ _ h => h) (fun _ h => h.elim) ?aF ?aB ?aS ?aL ?_; (case aR => repeat (first | exact (by repeat (first | (with_reducible exact HR114.out) | (with_reducible first | apply cA | apply cN | apply cD) | exact HR114.out)) | (with_reducible first | apply cA | apply cN | apply cD))); (case aB => exact (bX HB.out)); (case aF => exact (fun k_ hk => Kd.fresh' (Kd.R_lt (rX HO_9.out)) k_ hk)); (case aO => exact (by (with_reducible repeat (first | apply rA | apply rN | apply rD)); exact Kd.R_mono HO110.out (fun _ hk => hk.2))); (case aS => exact (bZ (bX HB.out))); (case aL => have := LMc28.out; omega); intro v116 w38 ho hb hg hat; rw [← Ny115.out] at ho; have _ := AM (Kd.R_after (ok := (fun _ => True)) (rX HO_9.out) hg hat); have _ := AM (blk_grown (g := gb105) (o := .cells #[.int .i64 ((rd_T52 l0 x10_1).f0), .int .i64 ((rd_T52 l0 x10_1).f1), .int .i64 ((rd_T52 l0 x10_1).f2), .string ((rd_T52 l0 x10_1).f3), .int .i64 ((rd_T52 l0 x10_1).f4)] 52 (0, 0)) (kX BK105.out) hg (Kd.R_ne HO110.out BK105.out (by decide))); have _ := AM (hb); have _ := AM ((show Kd.C Kd.string w38 (some ad106) y111.length y111 from by rw [Ny111.out]; exact Kd.C_take (m := (x12_3 : Int).toNat) ((Kd.R_reads' (Kd.R_after (ok := (fun _ => True)) (rX HO_9.out) hg hat)).2.2) KL37.out)); have _ := AM (ho); clear HO_9 BK105 HB HR114 HO110; rename_i HO_9 BK105 HB HR114 HO117; clear ho hb hg hat; have hcz39 := q5 BK105.out; have hfz39 := fZ BK105.out) | ((with_reducible refine gate_builtin (b := .append) (xs := #[.tmp 74, .tmp 77]) rfl ?_); at_builtin; refine Kd.R_append Kd.string (w0 := w) w.heap.size rfl (.tmp 74) (.tmp 77) 92 9 (.string ⟨#[]⟩) 16 rfl Try.underlying92 info9 rfl (by decide) (by omega) v116 y115 ((rd_T52 l0 x10_1).f3) [.string ((rd_T52 l0 x10_1).f3)] (fun k_ => some k_ ≠ (.slice (some ad106) x9_1.length co33 : Value).ownBlock) (fun _ => False) rfl rfl ?aP (fun _ hk => hk.elim) ?aF ?aO ?aB ?aS ?aL ?_; (case aP => exact rfl); (case aB => exact (bX HB.out)); (case aF => exact (fun k_ hk => Kd.fresh' (Kd.R_lt (rX HO_9.out)) k_ hk)); (case aO => exact (rX HO117.out)); (case aS => exact (bZ (bX HB.out))); (case aL => have := LMc29.out; omega); intro v119 w40 ho hb hg hat; rw [← Ny118.out] at ho; have _ := AM (Kd.R_after (ok := (fun _ => True)) (rX HO_9.out) hg hat); have _ := AM (blk_grown (g := gb105) (o := .cells #[.int .i64 ((rd_T52 l0 x10_1).f0), .int .i64 ((rd_T52 l0 x10_1).f1), .int .i64 ((rd_T52 l0 x10_1).f2), .string ((rd_T52 l0 x10_1).f3), .int .i64 ((rd_T52 l0 x10_1).f4)] 52 (0, 0)) (kX BK105.out) hg (Kd.R_ne HO117.out BK105.out (by decide))); have _ := AM (hb); have _ := AM ((show Kd.C Kd.string w40 (some ad106) y111.length y111 from by rw [Ny111.out]; exact Kd.C_take (m := (x12_3 : Int).toNat) ((Kd.R_reads' (Kd.R_after (ok := (fun _ => True)) (rX HO_9.out) hg hat)).2.2) KL37.out)); have _ := AM (ho); clear HO_9 BK105 HB HR114 HO117; rename_i HO_9 BK105 HB HR114 HO120; clear ho hb hg hat; have q41 : (x12_3 : Int) ≤ ((x9_1.length : Int) : Int) := of_decide_eq_true (by assumption); obtain ⟨i041, hi041, _, hsz41, _⟩ := info_parts info9; have hroom41 : x9_1.length ≤ co33 := (Kd.R_reads' HO_9.out).2.1; have hC41 : Kd.C Kd.string _ (some ad106) x9_1.length x9_1 := (Kd.R_reads' HO_9.out).2.2; have q041 : (0 : Int) ≤ (x12_3 : Int) := of_decide_eq_true (by assumption); have hcut41 := cut_from (P := Try.prog) 92 9 .i64 Try.underlying92 hi041 1 hsz41 (some ad106) x9_1.length co33 x12_3 q041 q41; have hr41 := Kd.C_drop (m := (x12_3 : Int).toNat) (c := co33) hC41 (by omega) hroom41; obtain ⟨A41, hA41⟩ : ∃ A1, A1 = (if co33 = (x12_3 : Int).toNat then (some ad106) else ((some ad106) : Option Addr).map (·.add ((x12_3 : Int).toNat * 1))) := ⟨_, rfl⟩; obtain ⟨c41, hc41⟩ : ∃ c1, c1 = co33 - (x12_3 : Int).toNat := ⟨_, rfl⟩; have hy41 : y121.length = x9_1.length - (x12_3 : Int).toNat := (by rw [Ny121.out, mD] <;> omega); rw [show (x9_1).drop (x12_3 : Int).toNat = y121 from Ny121.out.symm] at hr41; replace hr41 : Kd.C Kd.string _ A41 y121.length y121 := (by rw [hA41]; exact hr41); rw [← hy41, ← hA41, ← hc41] at hcut41; have HR124 := AM hr41; have HC124 := AM (show y121.length ≤ c41 from by rw [hy41, hc41]; exact Nat.sub_le_sub_right hroom41 _); clear hr41 hC41 hroom41 hi041 hsz41 hc41; have KY41 := AM hy41; have KA41 := AM hA41; clear hy41 hA41; have KL41 := AM (show (x12_3 : Int).toNat ≤ x9_1.length from by omega); replace q41 := eq_true q41) | ((with_reducible refine gate_builtin (b := .append) (xs := #[.tmp 79, .tmp 82]) rfl ?_); at_builtin; refine Kd.R_append_rows Kd.string (w0 := w) w.heap.size rfl (.tmp 79) (.tmp 82) 92 9 (.string ⟨#[]⟩) 16 rfl Try.underlying92 info9 rfl (by decide) (by omega) v119 y118 y121 _ _ _ (fun k_ => some k_ ≠ (.slice (some ad106) x9_1.length co33 : Value).ownBlock) (fun _ => False) rfl rfl ?aO ?aR (fun _ _ h => h) (fun _ h => h.elim) ?aF ?aB ?aS ?aL ?_; (case aR => repeat (first | exact (by repeat (first | (with_reducible exact HR124.out) | (with_reducible first | apply cA | apply cN | apply cD) | exact HR124.out)) | (with_reducible first | apply cA | apply cN | apply cD))); (case aB => exact (bX HB.out)); (case aF => exact (fun k_ hk => Kd.fresh' (Kd.R_lt (rX HO_9.out)) k_ hk)); (case aO => exact (rX HO120.out)); (case aS => exact (bZ (bX HB.out))); (case aL => have := LMc32.out; omega); intro v126 w42 ho hb hg hat; rw [← Ny125.out] at ho; have _ := AM (Kd.R_after (ok := (fun _ => True)) (rX HO_9.out) hg hat); have _ := AM (blk_grown (g := gb105) (o := .cells #[.int .i64 ((rd_T52 l0 x10_1).f0), .int .i64 ((rd_T52 l0 x10_1).f1), .int .i64 ((rd_T52 l0 x10_1).f2), .string ((rd_T52 l0 x10_1).f3), .int .i64 ((rd_T52 l0 x10_1).f4)] 52 (0, 0)) (kX BK105.out) hg (Kd.R_ne HO120.out BK105.out (by decide))); have _ := AM (hb); have _ := AM ((show Kd.C Kd.string w42 (some ad106) y111.length y111 from by rw [Ny111.out]; exact Kd.C_take (m := (x12_3 : Int).toNat) ((Kd.R_reads' (Kd.R_after (ok := (fun _ => True)) (rX HO_9.out) hg hat)).2.2) KL37.out)); have _ := AM ((show Kd.C Kd.string w42 A41 y121.length y121 from by rw [Ny121.out, KA41.out]; exact Kd.C_drop (m := (x12_3 : Int).toNat) (c := co33) ((Kd.R_reads' (Kd.R_after (ok := (fun _ => True)) (rX HO_9.out) hg hat)).2.2) KL41.out ((Kd.R_reads' (Kd.R_after (ok := (fun _ => True)) (rX HO_9.out) hg hat)).2.1))); have _ := AM (ho); clear HO_9 BK105 HB HR114 HR124 HO120; rename_i HO_9 BK105 HB HR114 HR124 HO127; clear ho hb hg hat)); try go_wp2_with (first | ((with_reducible refine gate_dst (N := 69) rfl ?_); refine Kd.R_lit Kd.string _ 9 ?hg (N := 69) ?hd (xs := ([] : List ByteArray)) (inner := []) (ok := fun _ => True) (okp := fun _ => True) ?hr ?hp (fun _ hk => hk) trivial (Below.refl _ _) (Nat.le_refl _) (by simp) ?_; (case hd => rfl); (case hg => rfl); (case hr => first | (go_simp; done) | (go_simp; rfl)); (case hp => exact (Reps.none _ _)); intro v109 w35 ho36 hb hg_ hnew_; clear hg_ hnew_; (first | rw [← Ny108.out] at ho36 | (simp only [Int.reduceToNat] at ho36; rw [← Ny108.out] at ho36)); have _ := AM (Kd.R_elder' (rX HO_9.out) (Kd.R_base ho36) hb); have _ := AM (Kd.R_lower (Kd.R_new' ho36 (Kd.R_lt (rX HO_9.out))) (bZ (bX HB.out))); have _ := AM (nB BK105.out hb); have _ := AM (below_step (bX HB.out) hb); clear HO_9 BK105 HB; rename_i HO_9 HO110 BK105 HB; clear hb ho36; have q37 : (x12_3 : Int) ≤ ((x9_1.length : Int) : Int) := of_decide_eq_true (by assumption); obtain ⟨i037, hi037, _, hsz37, _⟩ := info_parts info9; have hroom37 : x9_1.length ≤ co33 := (Kd.R_reads' HO_9.out).2.1; have hC37 : Kd.C Kd.string _ (some ad106) x9_1.length x9_1 := (Kd.R_reads' HO_9.out).2.2; have hcut37 := cut_to (P := Try.prog) 92 9 .i64 Try.underlying92 hi037 (some ad106) x9_1.length co33 x12_3 (of_decide_eq_true (by assumption)) q37 hroom37; have hr37 := Kd.C_take (m := (x12_3 : Int).toNat) hC37 (by omega); have hy37 : y111.length = (x12_3 : Int).toNat := (by rw [Ny111.out, mE]; omega); rw [← Ny111.out] at hr37; rw [← hy37] at hcut37; have HR114 := AM hr37; have HC114 := AM (show y111.length ≤ co33 from by omega); clear hr37 hC37 hroom37 hi037 hsz37; have KY37 := AM hy37; clear hy37; have KL37 := AM (show (x12_3 : Int).toNat ≤ x9_1.length from by omega); replace q37 := eq_true q37) | ((with_reducible refine gate_builtin (b := .append) (xs := #[.tmp 69, .tmp 72]) rfl ?_); at_builtin; refine Kd.R_append_rows Kd.string (w0 := w) w.heap.size rfl (.tmp 69) (.tmp 72) 92 9 (.string ⟨#[]⟩) 16 rfl Try.underlying92 info9 rfl (by decide) (by omega) v109 y108 y111 _ _ _ (fun k_ => some k_ ≠ (.slice (some ad106) x9_1.length co33 : Value).ownBlock) (fun _ => False) rfl rfl ?aO ?aR (fun _ _ h => h) (fun _ h => h.elim) ?aF ?aB ?aS ?aL ?_; (case aR => repeat (first | exact (by repeat (first | (with_reducible exact HR114.out) | (with_reducible first | apply cA | apply cN | apply cD) | exact HR114.out)) | (with_reducible first | apply cA | apply cN | apply cD))); (case aB => exact (bX HB.out)); (case aF => exact (fun k_ hk => Kd.fresh' (Kd.R_lt (rX HO_9.out)) k_ hk)); (case aO => exact (by (with_reducible repeat (first | apply rA | apply rN | apply rD)); exact Kd.R_mono HO110.out (fun _ hk => hk.2))); (case aS => exact (bZ (bX HB.out))); (case aL => have := LMc28.out; omega); intro v116 w38 ho hb hg hat; rw [← Ny115.out] at ho; have _ := AM (Kd.R_after (ok := (fun _ => True)) (rX HO_9.out) hg hat); have _ := AM (blk_grown (g := gb105) (o := .cells #[.int .i64 ((rd_T52 l0 x10_1).f0), .int .i64 ((rd_T52 l0 x10_1).f1), .int .i64 ((rd_T52 l0 x10_1).f2), .string ((rd_T52 l0 x10_1).f3), .int .i64 ((rd_T52 l0 x10_1).f4)] 52 (0, 0)) (kX BK105.out) hg (Kd.R_ne HO110.out BK105.out (by decide))); have _ := AM (hb); have _ := AM ((show Kd.C Kd.string w38 (some ad106) y111.length y111 from by rw [Ny111.out]; exact Kd.C_take (m := (x12_3 : Int).toNat) ((Kd.R_reads' (Kd.R_after (ok := (fun _ => True)) (rX HO_9.out) hg hat)).2.2) KL37.out)); have _ := AM (ho); clear HO_9 BK105 HB HR114 HO110; rename_i HO_9 BK105 HB HR114 HO117; clear ho hb hg hat; have hcz39 := q5 BK105.out; have hfz39 := fZ BK105.out) | ((with_reducible refine gate_builtin (b := .append) (xs := #[.tmp 74, .tmp 77]) rfl ?_); at_builtin; refine Kd.R_append Kd.string (w0 := w) w.heap.size rfl (.tmp 74) (.tmp 77) 92 9 (.string ⟨#[]⟩) 16 rfl Try.underlying92 info9 rfl (by decide) (by omega) v116 y115 ((rd_T52 l0 x10_1).f3) [.string ((rd_T52 l0 x10_1).f3)] (fun k_ => some k_ ≠ (.slice (some ad106) x9_1.length co33 : Value).ownBlock) (fun _ => False) rfl rfl ?aP (fun _ hk => hk.elim) ?aF ?aO ?aB ?aS ?aL ?_; (case aP => exact rfl); (case aB => exact (bX HB.out)); (case aF => exact (fun k_ hk => Kd.fresh' (Kd.R_lt (rX HO_9.out)) k_ hk)); (case aO => exact (rX HO117.out)); (case aS => exact (bZ (bX HB.out))); (case aL => have := LMc29.out; omega); intro v119 w40 ho hb hg hat; rw [← Ny118.out] at ho; have _ := AM (Kd.R_after (ok := (fun _ => True)) (rX HO_9.out) hg hat); have _ := AM (blk_grown (g := gb105) (o := .cells #[.int .i64 ((rd_T52 l0 x10_1).f0), .int .i64 ((rd_T52 l0 x10_1).f1), .int .i64 ((rd_T52 l0 x10_1).f2), .string ((rd_T52 l0 x10_1).f3), .int .i64 ((rd_T52 l0 x10_1).f4)] 52 (0, 0)) (kX BK105.out) hg (Kd.R_ne HO117.out BK105.out (by decide))); have _ := AM (hb); have _ := AM ((show Kd.C Kd.string w40 (some ad106) y111.length y111 from by rw [Ny111.out]; exact Kd.C_take (m := (x12_3 : Int).toNat) ((Kd.R_reads' (Kd.R_after (ok := (fun _ => True)) (rX HO_9.out) hg hat)).2.2) KL37.out)); have _ := AM (ho); clear HO_9 BK105 HB HR114 HO117; rename_i HO_9 BK105 HB HR114 HO120; clear ho hb hg hat; have q41 : (x12_3 : Int) ≤ ((x9_1.length : Int) : Int) := of_decide_eq_true (by assumption); obtain ⟨i041, hi041, _, hsz41, _⟩ := info_parts info9; have hroom41 : x9_1.length ≤ co33 := (Kd.R_reads' HO_9.out).2.1; have hC41 : Kd.C Kd.string _ (some ad106) x9_1.length x9_1 := (Kd.R_reads' HO_9.out).2.2; have q041 : (0 : Int) ≤ (x12_3 : Int) := of_decide_eq_true (by assumption); have hcut41 := cut_from (P := Try.prog) 92 9 .i64 Try.underlying92 hi041 1 hsz41 (some ad106) x9_1.length co33 x12_3 q041 q41; have hr41 := Kd.C_drop (m := (x12_3 : Int).toNat) (c := co33) hC41 (by omega) hroom41; obtain ⟨A41, hA41⟩ : ∃ A1, A1 = (if co33 = (x12_3 : Int).toNat then (some ad106) else ((some ad106) : Option Addr).map (·.add ((x12_3 : Int).toNat * 1))) := ⟨_, rfl⟩; obtain ⟨c41, hc41⟩ : ∃ c1, c1 = co33 - (x12_3 : Int).toNat := ⟨_, rfl⟩; have hy41 : y121.length = x9_1.length - (x12_3 : Int).toNat := (by rw [Ny121.out, mD] <;> omega); rw [show (x9_1).drop (x12_3 : Int).toNat = y121 from Ny121.out.symm] at hr41; replace hr41 : Kd.C Kd.string _ A41 y121.length y121 := (by rw [hA41]; exact hr41); rw [← hy41, ← hA41, ← hc41] at hcut41; have HR124 := AM hr41; have HC124 := AM (show y121.length ≤ c41 from by rw [hy41, hc41]; exact Nat.sub_le_sub_right hroom41 _); clear hr41 hC41 hroom41 hi041 hsz41 hc41; have KY41 := AM hy41; have KA41 := AM hA41; clear hy41 hA41; have KL41 := AM (show (x12_3 : Int).toNat ≤ x9_1.length from by omega); replace q41 := eq_true q41) | ((with_reducible refine gate_builtin (b := .append) (xs := #[.tmp 79, .tmp 82]) rfl ?_); at_builtin; refine Kd.R_append_rows Kd.string (w0 := w) w.heap.size rfl (.tmp 79) (.tmp 82) 92 9 (.string ⟨#[]⟩) 16 rfl Try.underlying92 info9 rfl (by decide) (by omega) v119 y118 y121 _ _ _ (fun k_ => some k_ ≠ (.slice (some ad106) x9_1.length co33 : Value).ownBlock) (fun _ => False) rfl rfl ?aO ?aR (fun _ _ h => h) (fun _ h => h.elim) ?aF ?aB ?aS ?aL ?_; (case aR => repeat (first | exact (by repeat (first | (with_reducible exact HR124.out) | (with_reducible first | apply cA | apply cN | apply cD) | exact HR124.out)) | (with_reducible first | apply cA | apply cN | apply cD))); (case aB => exact (bX HB.out)); (case aF => exact (fun k_ hk => Kd.fresh' (Kd.R_lt (rX HO_9.out)) k_ hk)); (case aO => exact (rX HO120.out)); (case aS => exact (bZ (bX HB.out))); (case aL => have := LMc32.out; omega); intro v126 w42 ho hb hg hat; rw [← Ny125.out] at ho; have _ := AM (Kd.R_after (ok := (fun _ => True)) (rX HO_9.out) hg hat); have _ := AM (blk_grown (g := gb105) (o := .cells #[.int .i64 ((rd_T52 l0 x10_1).f0), .int .i64 ((rd_T52 l0 x10_1).f1), .int .i64 ((rd_T52 l0 x10_1).f2), .string ((rd_T52 l0 x10_1).f3), .int .i64 ((rd_T52 l0 x10_1).f4)] 52 (0, 0)) (kX BK105.out) hg (Kd.R_ne HO120.out BK105.out (by decide))); have _ := AM (hb); have _ := AM ((show Kd.C Kd.string w42 (some ad106) y111.length y111 from by rw [Ny111.out]; exact Kd.C_take (m := (x12_3 : Int).toNat) ((Kd.R_reads' (Kd.R_after (ok := (fun _ => True)) (rX HO_9.out) hg hat)).2.2) KL37.out)); have _ := AM ((show Kd.C Kd.string w42 A41 y121.length y121 from by rw [Ny121.out, KA41.out]; exact Kd.C_drop (m := (x12_3 : Int).toNat) (c := co33) ((Kd.R_reads' (Kd.R_after (ok := (fun _ => True)) (rX HO_9.out) hg hat)).2.2) KL41.out ((Kd.R_reads' (Kd.R_after (ok := (fun _ => True)) (rX HO_9.out) hg hat)).2.1))); have _ := AM (ho); clear HO_9 BK105 HB HR114 HR124 HO120; rename_i HO_9 BK105 HB HR114 HR124 HO127; clear ho hb hg hat)))
               go_roundg k3
               case measure => have := HK1.out; have := HJ8.out; have := HK3.out; omega
               case rel => exact ⟨(y125), (wrap64 (x10_1 + 1)), (by first | rfl | (simp; done) | (simp [*]; done)), H', ⟨by have := HK1.out; have := HJ8.out; have := HK3.out; omega⟩, ⟨by (with_reducible repeat (first | apply rA | apply rN | apply rD)); exact Kd.R_mono HO127.out (fun _ hk => trivial)⟩, ⟨bX HB.out⟩⟩
              rw [if_neg c32] at H
              exact absurd H (by simp)
             rw [if_neg c29] at H
             exact absurd H (by simp)
            rw [if_neg c28] at H
            exact absurd H (by simp)
           rw [if_neg c27] at H
           exact absurd H (by simp)
          rw [if_neg c19] at H
          exact absurd H (by simp)
         rw [if_neg c18] at H
         have c18b0 : decide (x12_3 < (x9_1.length : Int)) = false := decide_eq_false c18
         clear c18
         obtain ⟨y128, hy128⟩ : ∃ y_ : List ByteArray, y_ = (([] : List ByteArray)) := ⟨_, rfl⟩
         replace H : (if 0 ≤ x12_3 then (if x12_3 ≤ (x9_1.length : Int) then ((some (x9_1.take (x12_3 : Int).toNat : List ByteArray)).bind fun y131 => (if y128.length + y131.length < 8796093022208 then ((some (y128 ++ y131 : List ByteArray)).bind fun y135 => (if y135.length < 8796093022208 then ((some (y135 ++ [((rd_T52 l0 x10_1).f3)] : List ByteArray)).bind fun y138 => ((some (x9_1.drop (x12_3 : Int).toNat : List ByteArray)).bind fun y141 => (if y138.length + y141.length < 8796093022208 then (spec_l11Ops.l0 k3 l0 a1 a2 a3 (y138 ++ y141) (wrap64 (x10_1 + 1))) else (none)))) else (none))) else (none))) else (none)) else (none)) = some r := by first | (rw [hy128]; with_reducible exact H) | (have H2_ := (Option.bind_some _ _).symm.trans H; rw [hy128]; with_reducible exact H2_) | (have H2_ := (Option.bind_some _ _).symm.trans H; with_reducible exact H2_) | with_reducible exact H | (rw [hy128]; exact H) | exact H
         have Ny128 := AM hy128
         clear hy128
         by_cases c43 : 0 ≤ x12_3
         ·
          rw [if_pos c43] at H
          have c43b0 := eq_true c43
          have c43b1 : decide (0 ≤ x12_3) = true := decide_eq_true c43
          clear c43
          by_cases c44 : x12_3 ≤ (x9_1.length : Int)
          ·
           rw [if_pos c44] at H
           have c44b0 := eq_true c44
           have c44b1 : decide (x12_3 ≤ (x9_1.length : Int)) = true := decide_eq_true c44
           clear c44
           obtain ⟨y131, hy131⟩ : ∃ y_ : List ByteArray, y_ = (x9_1.take (x12_3 : Int).toNat) := ⟨_, rfl⟩
           replace H : (if y128.length + y131.length < 8796093022208 then ((some (y128 ++ y131 : List ByteArray)).bind fun y135 => (if y135.length < 8796093022208 then ((some (y135 ++ [((rd_T52 l0 x10_1).f3)] : List ByteArray)).bind fun y138 => ((some (x9_1.drop (x12_3 : Int).toNat : List ByteArray)).bind fun y141 => (if y138.length + y141.length < 8796093022208 then (spec_l11Ops.l0 k3 l0 a1 a2 a3 (y138 ++ y141) (wrap64 (x10_1 + 1))) else (none)))) else (none))) else (none)) = some r := by first | (rw [hy131]; with_reducible exact H) | (have H2_ := (Option.bind_some _ _).symm.trans H; rw [hy131]; with_reducible exact H2_) | (have H2_ := (Option.bind_some _ _).symm.trans H; with_reducible exact H2_) | with_reducible exact H | (rw [hy131]; exact H) | exact H
           have Ny131 := AM hy131
           clear hy131
           by_cases c45 : y128.length + y131.length < 8796093022208
           ·
            rw [if_pos c45] at H
            have LMc45 := AM c45
            clear c45
            obtain ⟨y135, hy135⟩ : ∃ y_ : List ByteArray, y_ = (y128 ++ y131) := ⟨_, rfl⟩
            replace H : (if y135.length < 8796093022208 then ((some (y135 ++ [((rd_T52 l0 x10_1).f3)] : List ByteArray)).bind fun y138 => ((some (x9_1.drop (x12_3 : Int).toNat : List ByteArray)).bind fun y141 => (if y138.length + y141.length < 8796093022208 then (spec_l11Ops.l0 k3 l0 a1 a2 a3 (y138 ++ y141) (wrap64 (x10_1 + 1))) else (none)))) else (none)) = some r := by first | (rw [hy135]; with_reducible exact H) | (have H2_ := (Option.bind_some _ _).symm.trans H; rw [hy135]; with_reducible exact H2_) | (have H2_ := (Option.bind_some _ _).symm.trans H; with_reducible exact H2_) | with_reducible exact H | (rw [hy135]; exact H) | exact H
            have Ny135 := AM hy135
            clear hy135
            by_cases c46 : y135.length < 8796093022208
            ·
             rw [if_pos c46] at H
             have LMc46 := AM c46
             clear c46
             obtain ⟨y138, hy138⟩ : ∃ y_ : List ByteArray, y_ = (y135 ++ [((rd_T52 l0 x10_1).f3)]) := ⟨_, rfl⟩
             replace H : ((some (x9_1.drop (x12_3 : Int).toNat : List ByteArray)).bind fun y141 => (if y138.length + y141.length < 8796093022208 then (spec_l11Ops.l0 k3 l0 a1 a2 a3 (y138 ++ y141) (wrap64 (x10_1 + 1))) else (none))) = some r := by first | (rw [hy138]; with_reducible exact H) | (have H2_ := (Option.bind_some _ _).symm.trans H; rw [hy138]; with_reducible exact H2_) | (have H2_ := (Option.bind_some _ _).symm.trans H; with_reducible exact H2_) | with_reducible exact H | (rw [hy138]; exact H) | exact H
             have Ny138 := AM hy138
             clear hy138
             have c47b0 := eq_true (of_decide_eq_true (by assumption) : 0 ≤ x12_3)
             have c48b0 := eq_true (of_decide_eq_true (by assumption) : x12_3 ≤ (x9_1.length : Int))
             obtain ⟨y141, hy141⟩ : ∃ y_ : List ByteArray, y_ = (x9_1.drop (x12_3 : Int).toNat) := ⟨_, rfl⟩
             replace H : (if y138.length + y141.length < 8796093022208 then (spec_l11Ops.l0 k3 l0 a1 a2 a3 (y138 ++ y141) (wrap64 (x10_1 + 1))) else (none)) = some r := by first | (rw [hy141]; with_reducible exact H) | (have H2_ := (Option.bind_some _ _).symm.trans H; rw [hy141]; with_reducible exact H2_) | (have H2_ := (Option.bind_some _ _).symm.trans H; with_reducible exact H2_) | with_reducible exact H | (rw [hy141]; exact H) | exact H
             have Ny141 := AM hy141
             clear hy141
             by_cases c49 : y138.length + y141.length < 8796093022208
             ·
              rw [if_pos c49] at H
              have LMc49 := AM c49
              clear c49
              obtain ⟨y145, hy145⟩ : ∃ y_ : List ByteArray, y_ = (y138 ++ y141) := ⟨_, rfl⟩
              replace H : (spec_l11Ops.l0 k3 l0 a1 a2 a3 y145 (wrap64 (x10_1 + 1))) = some r := by first | (rw [hy145]; with_reducible exact H) | (have H2_ := (Option.bind_some _ _).symm.trans H; rw [hy145]; with_reducible exact H2_) | (have H2_ := (Option.bind_some _ _).symm.trans H; with_reducible exact H2_) | with_reducible exact H | (rw [hy145]; exact H) | exact H
              have Ny145 := AM hy145
              clear hy145
              have H' := AM H
              clear H
              obtain ⟨Ao50, co50, eo50⟩ := Kd.R_slice HO_9.out
              subst eo50
              go_wp2_with (first | ((with_reducible refine gate_dst (N := 69) rfl ?_); refine Kd.R_lit Kd.string _ 9 ?hg (N := 69) ?hd (xs := ([] : List ByteArray)) (inner := []) (ok := fun _ => True) (okp := fun _ => True) ?hr ?hp (fun _ hk => hk) trivial (Below.refl _ _) (Nat.le_refl _) (by simp) ?_; (case hd => rfl); (case hg => rfl); (case hr => first | (go_simp; done) | (go_simp; rfl)); (case hp => exact (Reps.none _ _)); intro v129 w51 ho52 hb hg_ hnew_; clear hg_ hnew_; (first | rw [← Ny128.out] at ho52 | (simp only [Int.reduceToNat] at ho52; rw [← Ny128.out] at ho52)); have _ := AM (Kd.R_elder' (rX HO_9.out) (Kd.R_base ho52) hb); have _ := AM (Kd.R_lower (Kd.R_new' ho52 (Kd.R_lt (rX HO_9.out))) (bZ (bX HB.out))); have _ := AM (nB BK105.out hb); have _ := AM (below_step (bX HB.out) hb); clear HO_9 BK105 HB; rename_i HO_9 HO130 BK105 HB; clear hb ho52; have q53 : (x12_3 : Int) ≤ ((x9_1.length : Int) : Int) := of_decide_eq_true (by assumption); obtain ⟨i053, hi053, _, hsz53, _⟩ := info_parts info9; have hroom53 : x9_1.length ≤ co50 := (Kd.R_reads' HO_9.out).2.1; have hC53 : Kd.C Kd.string _ Ao50 x9_1.length x9_1 := (Kd.R_reads' HO_9.out).2.2; have hcut53 := cut_to (P := Try.prog) 92 9 .i64 Try.underlying92 hi053 Ao50 x9_1.length co50 x12_3 (of_decide_eq_true (by assumption)) q53 hroom53; have hr53 := Kd.C_take (m := (x12_3 : Int).toNat) hC53 (by omega); have hy53 : y131.length = (x12_3 : Int).toNat := (by rw [Ny131.out, mE]; omega); rw [← Ny131.out] at hr53; rw [← hy53] at hcut53; have HR134 := AM hr53; have HC134 := AM (show y131.length ≤ co50 from by omega); clear hr53 hC53 hroom53 hi053 hsz53; have KY53 := AM hy53; clear hy53; have KL53 := AM (show (x12_3 : Int).toNat ≤ x9_1.length from by omega); replace q53 := eq_true q53) | ((with_reducible refine gate_builtin (b := .append) (xs := #[.tmp 69, .tmp 72]) rfl ?_); at_builtin; refine Kd.R_append_rows Kd.string (w0 := w) w.heap.size rfl (.tmp 69) (.tmp 72) 92 9 (.string ⟨#[]⟩) 16 rfl Try.underlying92 info9 rfl (by decide) (by omega) v129 y128 y131 _ _ _ (fun k_ => some k_ ≠ (.slice Ao50 x9_1.length co50 : Value).ownBlock) (fun _ => False) rfl rfl ?aO ?aR (fun _ _ h => h) (fun _ h => h.elim) ?aF ?aB ?aS ?aL ?_; (case aR => repeat (first | exact (by repeat (first | (with_reducible exact HR134.out) | (with_reducible first | apply cA | apply cN | apply cD) | exact HR134.out)) | (with_reducible first | apply cA | apply cN | apply cD))); (case aB => exact (bX HB.out)); (case aF => exact (fun k_ hk => Kd.fresh' (Kd.R_lt (rX HO_9.out)) k_ hk)); (case aO => exact (by (with_reducible repeat (first | apply rA | apply rN | apply rD)); exact Kd.R_mono HO130.out (fun _ hk => hk.2))); (case aS => exact (bZ (bX HB.out))); (case aL => have := LMc45.out; omega); intro v136 w54 ho hb hg hat; rw [← Ny135.out] at ho; have _ := AM (Kd.R_after (ok := (fun _ => True)) (rX HO_9.out) hg hat); have _ := AM (blk_grown (g := gb105) (o := .cells #[.int .i64 ((rd_T52 l0 x10_1).f0), .int .i64 ((rd_T52 l0 x10_1).f1), .int .i64 ((rd_T52 l0 x10_1).f2), .string ((rd_T52 l0 x10_1).f3), .int .i64 ((rd_T52 l0 x10_1).f4)] 52 (0, 0)) (kX BK105.out) hg (Kd.R_ne HO130.out BK105.out (by decide))); have _ := AM (hb); have _ := AM ((show Kd.C Kd.string w54 Ao50 y131.length y131 from by rw [Ny131.out]; exact Kd.C_take (m := (x12_3 : Int).toNat) ((Kd.R_reads' (Kd.R_after (ok := (fun _ => True)) (rX HO_9.out) hg hat)).2.2) KL53.out)); have _ := AM (ho); clear HO_9 BK105 HB HR134 HO130; rename_i HO_9 BK105 HB HR134 HO137; clear ho hb hg hat; have hcz55 := q5 BK105.out; have hfz55 := fZ BK105.out) | ((with_reducible refine gate_builtin (b := .append) (xs := #[.tmp 74, .tmp 77]) rfl ?_); at_builtin; refine Kd.R_append Kd.string (w0 := w) w.heap.size rfl (.tmp 74) (.tmp 77) 92 9 (.string ⟨#[]⟩) 16 rfl Try.underlying92 info9 rfl (by decide) (by omega) v136 y135 ((rd_T52 l0 x10_1).f3) [.string ((rd_T52 l0 x10_1).f3)] (fun k_ => some k_ ≠ (.slice Ao50 x9_1.length co50 : Value).ownBlock) (fun _ => False) rfl rfl ?aP (fun _ hk => hk.elim) ?aF ?aO ?aB ?aS ?aL ?_; (case aP => exact rfl); (case aB => exact (bX HB.out)); (case aF => exact (fun k_ hk => Kd.fresh' (Kd.R_lt (rX HO_9.out)) k_ hk)); (case aO => exact (rX HO137.out)); (case aS => exact (bZ (bX HB.out))); (case aL => have := LMc46.out; omega); intro v139 w56 ho hb hg hat; rw [← Ny138.out] at ho; have _ := AM (Kd.R_after (ok := (fun _ => True)) (rX HO_9.out) hg hat); have _ := AM (blk_grown (g := gb105) (o := .cells #[.int .i64 ((rd_T52 l0 x10_1).f0), .int .i64 ((rd_T52 l0 x10_1).f1), .int .i64 ((rd_T52 l0 x10_1).f2), .string ((rd_T52 l0 x10_1).f3), .int .i64 ((rd_T52 l0 x10_1).f4)] 52 (0, 0)) (kX BK105.out) hg (Kd.R_ne HO137.out BK105.out (by decide))); have _ := AM (hb); have _ := AM ((show Kd.C Kd.string w56 Ao50 y131.length y131 from by rw [Ny131.out]; exact Kd.C_take (m := (x12_3 : Int).toNat) ((Kd.R_reads' (Kd.R_after (ok := (fun _ => True)) (rX HO_9.out) hg hat)).2.2) KL53.out)); have _ := AM (ho); clear HO_9 BK105 HB HR134 HO137; rename_i HO_9 BK105 HB HR134 HO140; clear ho hb hg hat; have q57 : (x12_3 : Int) ≤ ((x9_1.length : Int) : Int) := of_decide_eq_true (by assumption); obtain ⟨i057, hi057, _, hsz57, _⟩ := info_parts info9; have hroom57 : x9_1.length ≤ co50 := (Kd.R_reads' HO_9.out).2.1; have hC57 : Kd.C Kd.string _ Ao50 x9_1.length x9_1 := (Kd.R_reads' HO_9.out).2.2; have q057 : (0 : Int) ≤ (x12_3 : Int) := of_decide_eq_true (by assumption); have hcut57 := cut_from (P := Try.prog) 92 9 .i64 Try.underlying92 hi057 1 hsz57 Ao50 x9_1.length co50 x12_3 q057 q57; have hr57 := Kd.C_drop (m := (x12_3 : Int).toNat) (c := co50) hC57 (by omega) hroom57; obtain ⟨A57, hA57⟩ : ∃ A1, A1 = (if co50 = (x12_3 : Int).toNat then Ao50 else (Ao50 : Option Addr).map (·.add ((x12_3 : Int).toNat * 1))) := ⟨_, rfl⟩; obtain ⟨c57, hc57⟩ : ∃ c1, c1 = co50 - (x12_3 : Int).toNat := ⟨_, rfl⟩; have hy57 : y141.length = x9_1.length - (x12_3 : Int).toNat := (by rw [Ny141.out, mD] <;> omega); rw [show (x9_1).drop (x12_3 : Int).toNat = y141 from Ny141.out.symm] at hr57; replace hr57 : Kd.C Kd.string _ A57 y141.length y141 := (by rw [hA57]; exact hr57); rw [← hy57, ← hA57, ← hc57] at hcut57; have HR144 := AM hr57; have HC144 := AM (show y141.length ≤ c57 from by rw [hy57, hc57]; exact Nat.sub_le_sub_right hroom57 _); clear hr57 hC57 hroom57 hi057 hsz57 hc57; have KY57 := AM hy57; have KA57 := AM hA57; clear hy57 hA57; have KL57 := AM (show (x12_3 : Int).toNat ≤ x9_1.length from by omega); replace q57 := eq_true q57) | ((with_reducible refine gate_builtin (b := .append) (xs := #[.tmp 79, .tmp 82]) rfl ?_); at_builtin; refine Kd.R_append_rows Kd.string (w0 := w) w.heap.size rfl (.tmp 79) (.tmp 82) 92 9 (.string ⟨#[]⟩) 16 rfl Try.underlying92 info9 rfl (by decide) (by omega) v139 y138 y141 _ _ _ (fun k_ => some k_ ≠ (.slice Ao50 x9_1.length co50 : Value).ownBlock) (fun _ => False) rfl rfl ?aO ?aR (fun _ _ h => h) (fun _ h => h.elim) ?aF ?aB ?aS ?aL ?_; (case aR => repeat (first | exact (by repeat (first | (with_reducible exact HR144.out) | (with_reducible first | apply cA | apply cN | apply cD) | exact HR144.out)) | (with_reducible first | apply cA | apply cN | apply cD))); (case aB => exact (bX HB.out)); (case aF => exact (fun k_ hk => Kd.fresh' (Kd.R_lt (rX HO_9.out)) k_ hk)); (case aO => exact (rX HO140.out)); (case aS => exact (bZ (bX HB.out))); (case aL => have := LMc49.out; omega); intro v146 w58 ho hb hg hat; rw [← Ny145.out] at ho; have _ := AM (Kd.R_after (ok := (fun _ => True)) (rX HO_9.out) hg hat); have _ := AM (blk_grown (g := gb105) (o := .cells #[.int .i64 ((rd_T52 l0 x10_1).f0), .int .i64 ((rd_T52 l0 x10_1).f1), .int .i64 ((rd_T52 l0 x10_1).f2), .string ((rd_T52 l0 x10_1).f3), .int .i64 ((rd_T52 l0 x10_1).f4)] 52 (0, 0)) (kX BK105.out) hg (Kd.R_ne HO140.out BK105.out (by decide))); have _ := AM (hb); have _ := AM ((show Kd.C Kd.string w58 Ao50 y131.length y131 from by rw [Ny131.out]; exact Kd.C_take (m := (x12_3 : Int).toNat) ((Kd.R_reads' (Kd.R_after (ok := (fun _ => True)) (rX HO_9.out) hg hat)).2.2) KL53.out)); have _ := AM ((show Kd.C Kd.string w58 A57 y141.length y141 from by rw [Ny141.out, KA57.out]; exact Kd.C_drop (m := (x12_3 : Int).toNat) (c := co50) ((Kd.R_reads' (Kd.R_after (ok := (fun _ => True)) (rX HO_9.out) hg hat)).2.2) KL57.out ((Kd.R_reads' (Kd.R_after (ok := (fun _ => True)) (rX HO_9.out) hg hat)).2.1))); have _ := AM (ho); clear HO_9 BK105 HB HR134 HR144 HO140; rename_i HO_9 BK105 HB HR134 HR144 HO147; clear ho hb hg hat))
              repeat (go_quiet (first | ((with_reducible refine gate_dst (N := 69) rfl ?_); refine Kd.R_lit Kd.string _ 9 ?hg (N := 69) ?hd (xs := ([] : List ByteArray)) (inner := []) (ok := fun _ => True) (okp := fun _ => True) ?hr ?hp (fun _ hk => hk) trivial (Below.refl _ _) (Nat.le_refl _) (by simp) ?_; (case hd => rfl); (case hg => rfl); (case hr => first | (go_simp; done) | (go_simp; rfl)); (case hp => exact (Reps.none _ _)); intro v129 w51 ho52 hb hg_ hnew_; clear hg_ hnew_; (first | rw [← Ny128.out] at ho52 | (simp only [Int.reduceToNat] at ho52; rw [← Ny128.out] at ho52)); have _ := AM (Kd.R_elder' (rX HO_9.out) (Kd.R_base ho52) hb); have _ := AM (Kd.R_lower (Kd.R_new' ho52 (Kd.R_lt (rX HO_9.out))) (bZ (bX HB.out))); have _ := AM (nB BK105.out hb); have _ := AM (below_step (bX HB.out) hb); clear HO_9 BK105 HB; rename_i HO_9 HO130 BK105 HB; clear hb ho52; have q53 : (x12_3 : Int) ≤ ((x9_1.length : Int) : Int) := of_decide_eq_true (by assumption); obtain ⟨i053, hi053, _, hsz53, _⟩ := info_parts info9; have hroom53 : x9_1.length ≤ co50 := (Kd.R_reads' HO_9.out).2.1; have hC53 : Kd.C Kd.string _ Ao50 x9_1.length x9_1 := (Kd.R_reads' HO_9.out).2.2; have hcut53 := cut_to (P := Try.prog) 92 9 .i64 Try.underlying92 hi053 Ao50 x9_1.length co50 x12_3 (of_decide_eq_true (by assumption)) q53 hroom53; have hr53 := Kd.C_take (m := (x12_3 : Int).toNat) hC53 (by omega); have hy53 : y131.length = (x12_3 : Int).toNat := (by rw [Ny131.out, mE]; omega); rw [← Ny131.out] at hr53; rw [← hy53] at hcut53; have HR134 := AM hr53; have HC134 := AM (show y131.length ≤ co50 from by omega); clear hr53 hC53 hroom53 hi053 hsz53; have KY53 := AM hy53; clear hy53; have KL53 := AM (show (x12_3 : Int).toNat ≤ x9_1.length from by omega); replace q53 := eq_true q53) | ((with_reducible refine gate_builtin (b := .append) (xs := #[.tmp 69, .tmp 72]) rfl ?_); at_builtin; refine Kd.R_append_rows Kd.string (w0 := w) w.heap.size rfl (.tmp 69) (.tmp 72) 92 9 (.string ⟨#[]⟩) 16 rfl Try.underlying92 info9 rfl (by decide) (by omega) v129 y128 y131 _ _ _ (fun k_ => some k_ ≠ (.slice Ao50 x9_1.length co50 : Value).ownBlock) (fun _ => False) rfl rfl ?aO ?aR (fun _ _ h => h) (fun _ h => h.elim) ?aF ?aB ?aS ?aL ?_; (case aR => repeat (first | exact (by repeat (first | (with_reducible exact HR134.out) | (with_reducible first | apply cA | apply cN | apply cD) | exact HR134.out)) | (with_reducible first | apply cA | apply cN | apply cD))); (case aB => exact (bX HB.out)); (case aF => exact (fun k_ hk => Kd.fresh' (Kd.R_lt (rX HO_9.out)) k_ hk)); (case aO => exact (by (with_reducible repeat (first | apply rA | apply rN | apply rD)); exact Kd.R_mono HO130.out (fun _ hk => hk.2))); (case aS => exact (bZ (bX HB.out))); (case aL => have := LMc45.out; omega); intro v136 w54 ho hb hg hat; rw [← Ny135.out] at ho; have _ := AM (Kd.R_after (ok := (fun _ => True)) (rX HO_9.out) hg hat); have _ := AM (blk_grown (g := gb105) (o := .cells #[.int .i64 ((rd_T52 l0 x10_1).f0), .int .i64 ((rd_T52 l0 x10_1).f1), .int .i64 ((rd_T52 l0 x10_1).f2), .string ((rd_T52 l0 x10_1).f3), .int .i64 ((rd_T52 l0 x10_1).f4)] 52 (0, 0)) (kX BK105.out) hg (Kd.R_ne HO130.out BK105.out (by decide))); have _ := AM (hb); have _ := AM ((show Kd.C Kd.string w54 Ao50 y131.length y131 from by rw [Ny131.out]; exact Kd.C_take (m := (x12_3 : Int).toNat) ((Kd.R_reads' (Kd.R_after (ok := (fun _ => True)) (rX HO_9.out) hg hat)).2.2) KL53.out)); have _ := AM (ho); clear HO_9 BK105 HB HR134 HO130; rename_i HO_9 BK105 HB HR134 HO137; clear ho hb hg hat; have hcz55 := q5 BK105.out; have hfz55 := fZ BK105.out) | ((with_reducible refine gate_builtin (b := .append) (xs := #[.tmp 74, .tmp 77]) rfl ?_); at_builtin; refine Kd.R_append Kd.string (w0 := w) w.heap.size rfl (.tmp 74) (.tmp 77) 92 9 (.string ⟨#[]⟩) 16 rfl Try.underlying92 info9 rfl (by decide) (by omega) v136 y135 ((rd_T52 l0 x10_1).f3) [.string ((rd_T52 l0 x10_1).f3)] (fun k_ => some k_ ≠ (.slice Ao50 x9_1.length co50 : Value).ownBlock) (fun _ => False) rfl rfl ?aP (fun _ hk => hk.elim) ?aF ?aO ?aB ?aS ?aL ?_; (case aP => exact rfl); (case aB => exact (bX HB.out)); (case aF => exact (fun k_ hk => Kd.fresh' (Kd.R_lt (rX HO_9.out)) k_ hk)); (case aO => exact (rX HO137.out)); (case aS => exact (bZ (bX HB.out))); (case aL => have := LMc46.out; omega); intro v139 w56 ho hb hg hat; rw [← Ny138.out] at ho; have _ := AM (Kd.R_after (ok := (fun _ => True)) (rX HO_9.out) hg hat); have _ := AM (blk_grown (g := gb105) (o := .cells #[.int .i64 ((rd_T52 l0 x10_1).f0), .int .i64 ((rd_T52 l0 x10_1).f1), .int .i64 ((rd_T52 l0 x10_1).f2), .string ((rd_T52 l0 x10_1).f3), .int .i64 ((rd_T52 l0 x10_1).f4)] 52 (0, 0)) (kX BK105.out) hg (Kd.R_ne HO137.out BK105.out (by decide))); have _ := AM (hb); have _ := AM ((show Kd.C Kd.string w56 Ao50 y131.length y131 from by rw [Ny131.out]; exact Kd.C_take (m := (x12_3 : Int).toNat) ((Kd.R_reads' (Kd.R_after (ok := (fun _ => True)) (rX HO_9.out) hg hat)).2.2) KL53.out)); have _ := AM (ho); clear HO_9 BK105 HB HR134 HO137; rename_i HO_9 BK105 HB HR134 HO140; clear ho hb hg hat; have q57 : (x12_3 : Int) ≤ ((x9_1.length : Int) : Int) := of_decide_eq_true (by assumption); obtain ⟨i057, hi057, _, hsz57, _⟩ := info_parts info9; have hroom57 : x9_1.length ≤ co50 := (Kd.R_reads' HO_9.out).2.1; have hC57 : Kd.C Kd.string _ Ao50 x9_1.length x9_1 := (Kd.R_reads' HO_9.out).2.2; have q057 : (0 : Int) ≤ (x12_3 : Int) := of_decide_eq_true (by assumption); have hcut57 := cut_from (P := Try.prog) 92 9 .i64 Try.underlying92 hi057 1 hsz57 Ao50 x9_1.length co50 x12_3 q057 q57; have hr57 := Kd.C_drop (m := (x12_3 : Int).toNat) (c := co50) hC57 (by omega) hroom57; obtain ⟨A57, hA57⟩ : ∃ A1, A1 = (if co50 = (x12_3 : Int).toNat then Ao50 else (Ao50 : Option Addr).map (·.add ((x12_3 : Int).toNat * 1))) := ⟨_, rfl⟩; obtain ⟨c57, hc57⟩ : ∃ c1, c1 = co50 - (x12_3 : Int).toNat := ⟨_, rfl⟩; have hy57 : y141.length = x9_1.length - (x12_3 : Int).toNat := (by rw [Ny141.out, mD] <;> omega); rw [show (x9_1).drop (x12_3 : Int).toNat = y141 from Ny141.out.symm] at hr57; replace hr57 : Kd.C Kd.string _ A57 y141.length y141 := (by rw [hA57]; exact hr57); rw [← hy57, ← hA57, ← hc57] at hcut57; have HR144 := AM hr57; have HC144 := AM (show y141.length ≤ c57 from by rw [hy57, hc57]; exact Nat.sub_le_sub_right hroom57 _); clear hr57 hC57 hroom57 hi057 hsz57 hc57; have KY57 := AM hy57; have KA57 := AM hA57; clear hy57 hA57; have KL57 := AM (show (x12_3 : Int).toNat ≤ x9_1.length from by omega); replace q57 := eq_true q57) | ((with_reducible refine gate_builtin (b := .append) (xs := #[.tmp 79, .tmp 82]) rfl ?_); at_builtin; refine Kd.R_append_rows Kd.string (w0 := w) w.heap.size rfl (.tmp 79) (.tmp 82) 92 9 (.string ⟨#[]⟩) 16 rfl Try.underlying92 info9 rfl (by decide) (by omega) v139 y138 y141 _ _ _ (fun k_ => some k_ ≠ (.slice Ao50 x9_1.length co50 : Value).ownBlock) (fun _ => False) rfl rfl ?aO ?aR (fun _ _ h => h) (fun _ h => h.elim) ?aF ?aB ?aS ?aL ?_; (case aR => repeat (first | exact (by repeat (first | (with_reducible exact HR144.out) | (with_reducible first | apply cA | apply cN | apply cD) | exact HR144.out)) | (with_reducible first | apply cA | apply cN | apply cD))); (case aB => exact (bX HB.out)); (case aF => exact (fun k_ hk => Kd.fresh' (Kd.R_lt (rX HO_9.out)) k_ hk)); (case aO => exact (rX HO140.out)); (case aS => exact (bZ (bX HB.out))); (case aL => have := LMc49.out; omega); intro v146 w58 ho hb hg hat; rw [← Ny145.out] at ho; have _ := AM (Kd.R_after (ok := (fun _ => True)) (rX HO_9.out) hg hat); have _ := AM (blk_grown (g := gb105) (o := .cells #[.int .i64 ((rd_T52 l0 x10_1).f0), .int .i64 ((rd_T52 l0 x10_1).f1), .int .i64 ((rd_T52 l0 x10_1).f2), .string ((rd_T52 l0 x10_1).f3), .int .i64 ((rd_T52 l0 x10_1).f4)] 52 (0, 0)) (kX BK105.out) hg (Kd.R_ne HO140.out BK105.out (by decide))); have _ := AM (hb); have _ := AM ((show Kd.C Kd.string w58 Ao50 y131.length y131 from by rw [Ny131.out]; exact Kd.C_take (m := (x12_3 : Int).toNat) ((Kd.R_reads' (Kd.R_after (ok := (fun _ => True)) (rX HO_9.out) hg hat)).2.2) KL53.out)); have _ := AM ((show Kd.C Kd.string w58 A57 y141.length y141 from by rw [Ny141.out, KA57.out]; exact Kd.C_drop (m := (x12_3 : Int).toNat) (c := co50) ((Kd.R_reads' (Kd.R_after (ok := (fun _ => True)) (rX HO_9.out) hg hat)).2.2) KL57.out ((Kd.R_reads' (Kd.R_after (ok := (fun _ => True)) (rX HO_9.out) hg hat)).2.1))); have _ := AM (ho); clear HO_9 BK105 HB HR134 HR144 HO140; rename_i HO_9 BK105 HB HR134 HR144 HO147; clear ho hb hg hat)); try go_wp2_with (first | ((with_reducible refine gate_dst (N := 69) rfl ?_); refine Kd.R_lit Kd.string _ 9 ?hg (N := 69) ?hd (xs := ([] : List ByteArray)) (inner := []) (ok := fun _ => True) (okp := fun _ => True) ?hr ?hp (fun _ hk => hk) trivial (Below.refl _ _) (Nat.le_refl _) (by simp) ?_; (case hd => rfl); (case hg => rfl); (case hr => first | (go_simp; done) | (go_simp; rfl)); (case hp => exact (Reps.none _ _)); intro v129 w51 ho52 hb hg_ hnew_; clear hg_ hnew_; (first | rw [← Ny128.out] at ho52 | (simp only [Int.reduceToNat] at ho52; rw [← Ny128.out] at ho52)); have _ := AM (Kd.R_elder' (rX HO_9.out) (Kd.R_base ho52) hb); have _ := AM (Kd.R_lower (Kd.R_new' ho52 (Kd.R_lt (rX HO_9.out))) (bZ (bX HB.out))); have _ := AM (nB BK105.out hb); have _ := AM (below_step (bX HB.out) hb); clear HO_9 BK105 HB; rename_i HO_9 HO130 BK105 HB; clear hb ho52; have q53 : (x12_3 : Int) ≤ ((x9_1.length : Int) : Int) := of_decide_eq_true (by assumption); obtain ⟨i053, hi053, _, hsz53, _⟩ := info_parts info9; have hroom53 : x9_1.length ≤ co50 := (Kd.R_reads' HO_9.out).2.1; have hC53 : Kd.C Kd.string _ Ao50 x9_1.length x9_1 := (Kd.R_reads' HO_9.out).2.2; have hcut53 := cut_to (P := Try.prog) 92 9 .i64 Try.underlying92 hi053 Ao50 x9_1.length co50 x12_3 (of_decide_eq_true (by assumption)) q53 hroom53; have hr53 := Kd.C_take (m := (x12_3 : Int).toNat) hC53 (by omega); have hy53 : y131.length = (x12_3 : Int).toNat := (by rw [Ny131.out, mE]; omega); rw [← Ny131.out] at hr53; rw [← hy53] at hcut53; have HR134 := AM hr53; have HC134 := AM (show y131.length ≤ co50 from by omega); clear hr53 hC53 hroom53 hi053 hsz53; have KY53 := AM hy53; clear hy53; have KL53 := AM (show (x12_3 : Int).toNat ≤ x9_1.length from by omega); replace q53 := eq_true q53) | ((with_reducible refine gate_builtin (b := .append) (xs := #[.tmp 69, .tmp 72]) rfl ?_); at_builtin; refine Kd.R_append_rows Kd.string (w0 := w) w.heap.size rfl (.tmp 69) (.tmp 72) 92 9 (.string ⟨#[]⟩) 16 rfl Try.underlying92 info9 rfl (by decide) (by omega) v129 y128 y131 _ _ _ (fun k_ => some k_ ≠ (.slice Ao50 x9_1.length co50 : Value).ownBlock) (fun _ => False) rfl rfl ?aO ?aR (fun _ _ h => h) (fun _ h => h.elim) ?aF ?aB ?aS ?aL ?_; (case aR => repeat (first | exact (by repeat (first | (with_reducible exact HR134.out) | (with_reducible first | apply cA | apply cN | apply cD) | exact HR134.out)) | (with_reducible first | apply cA | apply cN | apply cD))); (case aB => exact (bX HB.out)); (case aF => exact (fun k_ hk => Kd.fresh' (Kd.R_lt (rX HO_9.out)) k_ hk)); (case aO => exact (by (with_reducible repeat (first | apply rA | apply rN | apply rD)); exact Kd.R_mono HO130.out (fun _ hk => hk.2))); (case aS => exact (bZ (bX HB.out))); (case aL => have := LMc45.out; omega); intro v136 w54 ho hb hg hat; rw [← Ny135.out] at ho; have _ := AM (Kd.R_after (ok := (fun _ => True)) (rX HO_9.out) hg hat); have _ := AM (blk_grown (g := gb105) (o := .cells #[.int .i64 ((rd_T52 l0 x10_1).f0), .int .i64 ((rd_T52 l0 x10_1).f1), .int .i64 ((rd_T52 l0 x10_1).f2), .string ((rd_T52 l0 x10_1).f3), .int .i64 ((rd_T52 l0 x10_1).f4)] 52 (0, 0)) (kX BK105.out) hg (Kd.R_ne HO130.out BK105.out (by decide))); have _ := AM (hb); have _ := AM ((show Kd.C Kd.string w54 Ao50 y131.length y131 from by rw [Ny131.out]; exact Kd.C_take (m := (x12_3 : Int).toNat) ((Kd.R_reads' (Kd.R_after (ok := (fun _ => True)) (rX HO_9.out) hg hat)).2.2) KL53.out)); have _ := AM (ho); clear HO_9 BK105 HB HR134 HO130; rename_i HO_9 BK105 HB HR134 HO137; clear ho hb hg hat; have hcz55 := q5 BK105.out; have hfz55 := fZ BK105.out) | ((with_reducible refine gate_builtin (b := .append) (xs := #[.tmp 74, .tmp 77]) rfl ?_); at_builtin; refine Kd.R_append Kd.string (w0 := w) w.heap.size rfl (.tmp 74) (.tmp 77) 92 9 (.string ⟨#[]⟩) 16 rfl Try.underlying92 info9 rfl (by decide) (by omega) v136 y135 ((rd_T52 l0 x10_1).f3) [.string ((rd_T52 l0 x10_1).f3)] (fun k_ => some k_ ≠ (.slice Ao50 x9_1.length co50 : Value).ownBlock) (fun _ => False) rfl rfl ?aP (fun _ hk => hk.elim) ?aF ?aO ?aB ?aS ?aL ?_; (case aP => exact rfl); (case aB => exact (bX HB.out)); (case aF => exact (fun k_ hk => Kd.fresh' (Kd.R_lt (rX HO_9.out)) k_ hk)); (case aO => exact (rX HO137.out)); (case aS => exact (bZ (bX HB.out))); (case aL => have := LMc46.out; omega); intro v139 w56 ho hb hg hat; rw [← Ny138.out] at ho; have _ := AM (Kd.R_after (ok := (fun _ => True)) (rX HO_9.out) hg hat); have _ := AM (blk_grown (g := gb105) (o := .cells #[.int .i64 ((rd_T52 l0 x10_1).f0), .int .i64 ((rd_T52 l0 x10_1).f1), .int .i64 ((rd_T52 l0 x10_1).f2), .string ((rd_T52 l0 x10_1).f3), .int .i64 ((rd_T52 l0 x10_1).f4)] 52 (0, 0)) (kX BK105.out) hg (Kd.R_ne HO137.out BK105.out (by decide))); have _ := AM (hb); have _ := AM ((show Kd.C Kd.string w56 Ao50 y131.length y131 from by rw [Ny131.out]; exact Kd.C_take (m := (x12_3 : Int).toNat) ((Kd.R_reads' (Kd.R_after (ok := (fun _ => True)) (rX HO_9.out) hg hat)).2.2) KL53.out)); have _ := AM (ho); clear HO_9 BK105 HB HR134 HO137; rename_i HO_9 BK105 HB HR134 HO140; clear ho hb hg hat; have q57 : (x12_3 : Int) ≤ ((x9_1.length : Int) : Int) := of_decide_eq_true (by assumption); obtain ⟨i057, hi057, _, hsz57, _⟩ := info_parts info9; have hroom57 : x9_1.length ≤ co50 := (Kd.R_reads' HO_9.out).2.1; have hC57 : Kd.C Kd.string _ Ao50 x9_1.length x9_1 := (Kd.R_reads' HO_9.out).2.2; have q057 : (0 : Int) ≤ (x12_3 : Int) := of_decide_eq_true (by assumption); have hcut57 := cut_from (P := Try.prog) 92 9 .i64 Try.underlying92 hi057 1 hsz57 Ao50 x9_1.length co50 x12_3 q057 q57; have hr57 := Kd.C_drop (m := (x12_3 : Int).toNat) (c := co50) hC57 (by omega) hroom57; obtain ⟨A57, hA57⟩ : ∃ A1, A1 = (if co50 = (x12_3 : Int).toNat then Ao50 else (Ao50 : Option Addr).map (·.add ((x12_3 : Int).toNat * 1))) := ⟨_, rfl⟩; obtain ⟨c57, hc57⟩ : ∃ c1, c1 = co50 - (x12_3 : Int).toNat := ⟨_, rfl⟩; have hy57 : y141.length = x9_1.length - (x12_3 : Int).toNat := (by rw [Ny141.out, mD] <;> omega); rw [show (x9_1).drop (x12_3 : Int).toNat = y141 from Ny141.out.symm] at hr57; replace hr57 : Kd.C Kd.string _ A57 y141.length y141 := (by rw [hA57]; exact hr57); rw [← hy57, ← hA57, ← hc57] at hcut57; have HR144 := AM hr57; have HC144 := AM (show y141.length ≤ c57 from by rw [hy57, hc57]; exact Nat.sub_le_sub_right hroom57 _); clear hr57 hC57 hroom57 hi057 hsz57 hc57; have KY57 := AM hy57; have KA57 := AM hA57; clear hy57 hA57; have KL57 := AM (show (x12_3 : Int).toNat ≤ x9_1.length from by omega); replace q57 := eq_true q57) | ((with_reducible refine gate_builtin (b := .append) (xs := #[.tmp 79, .tmp 82]) rfl ?_); at_builtin; refine Kd.R_append_rows Kd.string (w0 := w) w.heap.size rfl (.tmp 79) (.tmp 82) 92 9 (.string ⟨#[]⟩) 16 rfl Try.underlying92 info9 rfl (by decide) (by omega) v139 y138 y141 _ _ _ (fun k_ => some k_ ≠ (.slice Ao50 x9_1.length co50 : Value).ownBlock) (fun _ => False) rfl rfl ?aO ?aR (fun _ _ h => h) (fun _ h => h.elim) ?aF ?aB ?aS ?aL ?_; (case aR => repeat (first | exact (by repeat (first | (with_reducible exact HR144.out) | (with_reducible first | apply cA | apply cN | apply cD) | exact HR144.out)) | (with_reducible first | apply cA | apply cN | apply cD))); (case aB => exact (bX HB.out)); (case aF => exact (fun k_ hk => Kd.fresh' (Kd.R_lt (rX HO_9.out)) k_ hk)); (case aO => exact (rX HO140.out)); (case aS => exact (bZ (bX HB.out))); (case aL => have := LMc49.out; omega); intro v146 w58 ho hb hg hat; rw [← Ny145.out] at ho; have _ := AM (Kd.R_after (ok := (fun _ => True)) (rX HO_9.out) hg hat); have _ := AM (blk_grown (g := gb105) (o := .cells #[.int .i64 ((rd_T52 l0 x10_1).f0), .int .i64 ((rd_T52 l0 x10_1).f1), .int .i64 ((rd_T52 l0 x10_1).f2), .string ((rd_T52 l0 x10_1).f3), .int .i64 ((rd_T52 l0 x10_1).f4)] 52 (0, 0)) (kX BK105.out) hg (Kd.R_ne HO140.out BK105.out (by decide))); have _ := AM (hb); have _ := AM ((show Kd.C Kd.string w58 Ao50 y131.length y131 from by rw [Ny131.out]; exact Kd.C_take (m := (x12_3 : Int).toNat) ((Kd.R_reads' (Kd.R_after (ok := (fun _ => True)) (rX HO_9.out) hg hat)).2.2) KL53.out)); have _ := AM ((show Kd.C Kd.string w58 A57 y141.length y141 from by rw [Ny141.out, KA57.out]; exact Kd.C_drop (m := (x12_3 : Int).toNat) (c := co50) ((Kd.R_reads' (Kd.R_after (ok := (fun _ => True)) (rX HO_9.out) hg hat)).2.2) KL57.out ((Kd.R_reads' (Kd.R_after (ok := (fun _ => True)) (rX HO_9.out) hg hat)).2.1))); have _ := AM (ho); clear HO_9 BK105 HB HR134 HR144 HO140; rename_i HO_9 BK105 HB HR134 HR144 HO147; clear ho hb hg hat)))
              go_roundg k3
              case measure => have := HK1.out; have := HJ8.out; have := HK3.out; omega
              case rel => exact ⟨(y145), (wrap64 (x10_1 + 1)), (by first | rfl | (simp; done) | (simp [*]; done)), H', ⟨by have := HK1.out; have := HJ8.out; have := HK3.out; omega⟩, ⟨by (with_reducible repeat (first | apply rA | apply rN | apply rD)); exact Kd.R_mono HO147.out (fun _ hk => trivial)⟩, ⟨bX HB.out⟩⟩
             rw [if_neg c49] at H
             exact absurd H (by simp)
            rw [if_neg c46] at H
            exact absurd H (by simp)
           rw [if_neg c45] at H
           exact absurd H (by simp)
          rw [if_neg c44] at H
          exact absurd H (by simp)
         rw [if_neg c43] at H
         exact absurd H (by simp)
    rw [if_neg c8] at H
    exact absurd H (by simp)
   rw [if_neg c7] at H
   have c7b0 : decide (x10_1 < (l0.length : Int)) = false := decide_eq_false c7
   clear c7
   obtain rfl := Option.some.inj H
   go_wp2
   repeat (go_quiet (fail); try go_wp2)
   go_ret
   exact ⟨_, by first | rfl | (simp [*, errW_none, errW_some] <;> rfl), rX HO_9.out, bX HB.out⟩

end Go.Proofs.Ytmaliehmbodioaa.Q
