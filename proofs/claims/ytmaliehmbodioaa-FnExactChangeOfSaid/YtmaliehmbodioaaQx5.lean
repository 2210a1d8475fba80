/- Printed by a program of this session (wip/mp.py over the kit's print.py): functions of the translation as plain Lean functions, and that the machine's calls do what these say. -/
import Derived.Test.YtmaliehmbodioaaQx0
import Derived.Test.YtmaliehmbodioaaQx4
namespace Go.Proofs.Ytmaliehmbodioaa.Q
open Go.RowKit Go.Proofs.Ytmaliehmbodioaa.HB Go.Proofs.YtmaliehmbodioaaW.PrintWords Go.Proofs.YtmaliehmbodioaaW.PrintLast Go.Proofs.YtmaliehmbodioaaW.PrintMore
attribute [local go_sem] max2_int min2_int max_two min_two max_three min_three max_four min_four   -- for this text's walks alone
set_option linter.unusedVariables false
set_option linter.unusedSimpArgs false

/-! ### slices_Sort_int64_int64: function 86 -/

def slices_Sort_int64_int64.f (k : Nat) (l0 : List Int) : Option (List Int) := (bits_Len.f (IntKind.u64.wrap ((l0.length : Int)))).bind fun t101 => ((slices_pdqsortOrdered_int64.f k l0 0 (l0.length : Int) t101).bind fun t102 => (some t102))
theorem slices_Sort_int64_int64.mono : ∀ a0 k, LeO (slices_Sort_int64_int64.f k a0) (slices_Sort_int64_int64.f (k + 1) a0) := by
  intro a0 k
  unfold slices_Sort_int64_int64.f
  repeat' first
      | (with_reducible exact slices_pdqsortOrdered_int64.mono _ _ _ _ _)
      | (with_reducible exact LeO.refl _)
      | (with_reducible exact LeO.none _)
      | (with_reducible refine LeO.ite ?_ ?_)
      | (with_reducible refine LeO.bind ?_ (fun _ => ?_))
      | exact slices_pdqsortOrdered_int64.mono _ _ _ _ _
      | exact LeO.none _
      | refine LeO.ite ?_ ?_
      | refine LeO.bind ?_ (fun _ => ?_)
set_option maxHeartbeats 60000000 in
set_option maxRecDepth 100000 in
theorem slices_Sort_int64_int64.calls (k : Nat) (P0_ : Nat → Prop) (u9000_ : Value) (l0 : List Int) (r : List Int) (w0 w : World) (hB : Below w0.heap.size w0 w) (ho0 : Kd.R (Kd.int .i64) 2 w w0.heap.size P0_ u9000_ l0) (h : slices_Sort_int64_int64.f k l0 = some r) :
    Calls Try.prog 86 #[u9000_] w fun e w' => e = .returned (.tuple #[]) ∧ Kd.R (Kd.int .i64) 2 w' w0.heap.size (fun k_ => (P0_ k_ ∨ w.heap.size ≤ k_)) u9000_ r ∧ Below w0.heap.size w0 w' ∧ Kept w w' (fun k_ => P0_ k_) := by
 have HO0 := AM (show Kd.R (Kd.int .i64) 2 w w0.heap.size (fun k_ => (P0_ k_ ∨ w.heap.size ≤ k_)) u9000_ l0 from Kd.R_mono ho0 (fun k_ hk => (.inl hk)))
 have HK := AM (Kept.refl w (fun k_ => P0_ k_))
 have HW0 := AM hB.size
 have HB := AM hB
 clear hB
 have H : ((bits_Len.f (IntKind.u64.wrap ((l0.length : Int)))).bind fun t101 => ((slices_pdqsortOrdered_int64.f k l0 0 (l0.length : Int) t101).bind fun t102 => (some t102))) = some r := h
 clear h
 replace H := Option.bind_eq_some_iff.mp H
 obtain ⟨t101, A20, H⟩ := H
 replace H : ((slices_pdqsortOrdered_int64.f k l0 0 (l0.length : Int) t101).bind fun t102 => (some t102)) = some r := H
 have A2 := AM A20
 clear A20
 replace H := Option.bind_eq_some_iff.mp H
 obtain ⟨t102, A30, H⟩ := H
 replace H : (some t102) = some r := H
 have A3 := AM A30
 clear A30
 obtain rfl := Option.some.inj H
 obtain ⟨Ao4, co4, eo4⟩ := Kd.R_slice HO0.out
 subst eo4
 go_enter Try.func86, Try.ntmps86
 go_wp2_with (first | ((with_reducible refine gate_callee (f := 85) rfl ?_); refine goesL_ (some 9) rfl rfl Try.func85 (by kernel_rfl) rfl #[.int .u64 (IntKind.u64.wrap ((l0.length : Int)))] rfl (by (try simp only [mA, mB, mC]); first | done | rfl | (simp only [mD, mE]; rfl)) ?_; (with_reducible refine (bits_Len.calls (IntKind.u64.wrap ((l0.length : Int))) t101 _ A2.out).mono ?_); rintro e w' ⟨rfl, ⟨nd, rfl⟩⟩; refine ⟨_, rfl, ?_⟩) | ((with_reducible refine gate_callee (f := 98) rfl ?_); refine goesL_ (some 10) rfl rfl Try.func98 (by kernel_rfl) rfl #[.slice Ao4 l0.length co4, .int .i64 0, .int .i64 (l0.length : Int), .int .i64 t101] rfl (by (try simp only [mA, mB, mC]); first | done | rfl | (simp only [mD, mE]; rfl)) ?_; (with_reducible refine (slices_pdqsortOrdered_int64.calls k (fun k_ => some k_ = (.slice Ao4 l0.length co4 : Value).ownBlock) (.slice Ao4 l0.length co4) l0 0 (l0.length : Int) t101 t102 w0 _ ?side1 ?side2 A3.out).mono ?_); (case side1 => exact (bX HB.out)); (case side2 => exact Kd.R_tight rfl HO0.out); rintro e w5 ⟨rfl, hy0, hb, hkp⟩; refine ⟨_, rfl, ?_⟩; have _ := AM (Kd.R_reok rfl hy0 (fun k_ e_ => HO0.out.1 k_ e_)); have _ := AM (Kept.then_ (S := (fun k_ => P0_ k_)) (tX HK.out) hkp (fun k_ hs_ => (fun e_ => (HO0.out.1 k_ e_.symm)) hs_)); have _ := AM (hb); clear HO0 HK HB; rename_i HO0 HK HB; (try clear hb); (try clear hkp); (try clear hy0)))
 first | go_end0 | ((try simp only [Exit.inBlock, Exit.then]); refine bodyPost_ret (results_none rfl _ _ _) rfl ?_)
 exact ⟨by first | rfl | (simp [*, errW_none, errW_some] <;> rfl), rX HO0.out, bX HB.out, tX HK.out⟩

/-! ### impl_voters: function 83 -/

def impl_voters.l0 : Nat → Int → Int → Int → ByteArray → List Int → List (S52) → Int → Int → Option (List Int)
  | 0, _, _, _, _, _, _, _, _ => none
  | k + 1, x1, x2, x3, x4, x11, x14, x15, x16 => if x16 < x15 then (if 0 ≤ x16 then (if x16 < (x14.length : Int) then (if ((rd_T52 x14 x16).f0) = x1 then (if ((rd_T52 x14 x16).f1) = x2 then (if ((rd_T52 x14 x16).f2) = x3 then (if ((rd_T52 x14 x16).f3).toList = x4.toList then (if x11.length < 17592186044416 then (impl_voters.l0 k x1 x2 x3 x4 (x11 ++ [(rd_T52 x14 x16).f4]) x14 x15 (wrap64 (x16 + 1))) else (none)) else (impl_voters.l0 k x1 x2 x3 x4 x11 x14 x15 (wrap64 (x16 + 1)))) else (impl_voters.l0 k x1 x2 x3 x4 x11 x14 x15 (wrap64 (x16 + 1)))) else (impl_voters.l0 k x1 x2 x3 x4 x11 x14 x15 (wrap64 (x16 + 1)))) else (impl_voters.l0 k x1 x2 x3 x4 x11 x14 x15 (wrap64 (x16 + 1)))) else (none)) else (none)) else ((slices_Sort_int64_int64.f k x11).bind fun t106 => (some t106))
def impl_voters.f (k : Nat) (l0 : List (S52)) (a1 : Int) (a2 : Int) (a3 : Int) (a4 : ByteArray) : Option (List Int) := impl_voters.l0 k a1 a2 a3 a4 ([] : List Int) l0 (l0.length : Int) 0
theorem impl_voters.mono_l : ∀ k, (∀ y0 y1 y2 y3 y4 y5 y6 y7, LeO (impl_voters.l0 k y0 y1 y2 y3 y4 y5 y6 y7) (impl_voters.l0 (k + 1) y0 y1 y2 y3 y4 y5 y6 y7))
  | 0 => fun _ _ _ _ _ _ _ _ r h => by simp [impl_voters.l0] at h
  | k + 1 => by
    have ih0 := impl_voters.mono_l k
    · intro y0 y1 y2 y3 y4 y5 y6 y7
      unfold impl_voters.l0
      repeat' first
      | (with_reducible exact ih0 _ _ _ _ _ _ _ _)
      | (with_reducible exact slices_Sort_int64_int64.mono _ _)
      | (with_reducible exact LeO.refl _)
      | (with_reducible exact LeO.none _)
      | (with_reducible refine LeO.ite ?_ ?_)
      | (with_reducible refine LeO.bind ?_ (fun _ => ?_))
      | exact ih0 _ _ _ _ _ _ _ _
      | exact slices_Sort_int64_int64.mono _ _
      | exact LeO.none _
      | refine LeO.ite ?_ ?_
      | refine LeO.bind ?_ (fun _ => ?_)
theorem impl_voters.mono : ∀ a0 a1 a2 a3 a4 k, LeO (impl_voters.f k a0 a1 a2 a3 a4) (impl_voters.f (k + 1) a0 a1 a2 a3 a4) := by
  intro a0 a1 a2 a3 a4 k
  have ih0 := impl_voters.mono_l k
  unfold impl_voters.f
  repeat' first
      | (with_reducible exact ih0 _ _ _ _ _ _ _ _)
      | (with_reducible exact slices_Sort_int64_int64.mono _ _)
      | (with_reducible exact LeO.refl _)
      | (with_reducible exact LeO.none _)
      | (with_reducible refine LeO.ite ?_ ?_)
      | (with_reducible refine LeO.bind ?_ (fun _ => ?_))
      | exact ih0 _ _ _ _ _ _ _ _
      | exact slices_Sort_int64_int64.mono _ _
      | exact LeO.none _
      | refine LeO.ite ?_ ?_
      | refine LeO.bind ?_ (fun _ => ?_)
set_option maxHeartbeats 60000000 in
set_option maxRecDepth 100000 in
theorem impl_voters.calls (k : Nat) (A0 : Option Addr) (c0 : Nat) (l0 : List (S52)) (a1 : Int) (a2 : Int) (a3 : Int) (a4 : ByteArray) (r : List Int) (w : World) (hr0 : Kd.C k52 w A0 l0.length l0) (hc0 : l0.length ≤ c0) (h : impl_voters.f k l0 a1 a2 a3 a4 = some r) :
    Calls Try.prog 83 #[.slice A0 l0.length c0, .int .i64 a1, .int .i64 a2, .int .i64 a3, .string a4] w fun e w' => ∃ v0_ : Value, e = .returned (v0_) ∧ Kd.R (Kd.int .i64) 2 w' w.heap.size (fun _ => True) v0_ r ∧ Below w.heap.size w w' := by
 have hu52 := Try.underlying52
 have HR0 := AM hr0
 have HC0 := AM hc0
 clear hr0 hc0
 have HB := AM (Below.refl w.heap.size w)
 have H : (impl_voters.l0 k a1 a2 a3 a4 ([] : List Int) l0 (l0.length : Int) 0) = some r := h
 clear h
 have H' := AM H
 clear H
 go_enter Try.func83, Try.ntmps83
 go_wp2
 go_loopg [11, 16] k (fun kq v11 v16 w' => ∃ (x11_1 : List Int) (x16_1 : Int), v16 = .int .i64 x16_1 ∧ Aside0 (impl_voters.l0 kq a1 a2 a3 a4 x11_1 l0 (l0.length : Int) x16_1 = some r) ∧ Aside0 (kq ≤ k) ∧ Aside0 (Kd.R (Kd.int .i64) 2 w' w.heap.size (fun _ => True) v11 x11_1) ∧ Aside0 (Below w.heap.size w w'))
 case atStart => exact ⟨(([] : List Int)), (0), (by first | rfl | (simp; done) | (simp [*]; done)), H', ⟨Nat.le_refl _⟩, ⟨by first | exact Kd.R_nil _ _ _ _ _ | exact Kd.N_nil _ _ _ _ _ | exact Kd.V_nil _ _ _ _ _ | exact Kd.Q_nil _ _ _ _ _ | exact Kd.S_nil _ _ _ _ _⟩, ⟨bX HB.out⟩⟩
 case round =>
  clear H'
  try clear p2
  obtain ⟨x11_1, x16_1, rfl, HA, HK1, HO_11, HB⟩ := hrel
  cases gk with
  | zero => exact absurd HA.out (by simp [impl_voters.l0])
  | succ k1 =>
   have H := HA.out
   clear HA
   simp only [impl_voters.l0] at H
   by_cases c6 : x16_1 < (l0.length : Int)
   ·
    rw [if_pos c6] at H
    have c6b0 : decide (x16_1 < (l0.length : Int)) = true := decide_eq_true c6
    clear c6
    by_cases c7 : 0 ≤ x16_1
    ·
     rw [if_pos c7] at H
     have c7b0 : decide (0 ≤ x16_1) = true := decide_eq_true c7
     clear c7
     by_cases c8 : x16_1 < (l0.length : Int)
     ·
      rw [if_pos c8] at H
      have c8b0 : decide (x16_1 < (l0.length : Int)) = true := decide_eq_true c8
      clear c8
      by_cases c9 : ((rd_T52 l0 x16_1).f0) = a1
      ·
       rw [if_pos c9] at H
       have c9b0 : (((rd_T52 l0 x16_1).f0) == a1) = true := beq_iff_eq.mpr c9
       have c9b1 : (((rd_T52 l0 x16_1).f0) != a1) = false := bne_eq_false_iff_eq.mpr c9
       clear c9
       by_cases c10 : ((rd_T52 l0 x16_1).f1) = a2
       ·
        rw [if_pos c10] at H
        have c10b0 : (((rd_T52 l0 x16_1).f1) == a2) = true := beq_iff_eq.mpr c10
        have c10b1 : (((rd_T52 l0 x16_1).f1) != a2) = false := bne_eq_false_iff_eq.mpr c10
        clear c10
        by_cases c11 : ((rd_T52 l0 x16_1).f2) = a3
        ·
         rw [if_pos c11] at H
         have c11b0 : (((rd_T52 l0 x16_1).f2) == a3) = true := beq_iff_eq.mpr c11
         have c11b1 : (((rd_T52 l0 x16_1).f2) != a3) = false := bne_eq_false_iff_eq.mpr c11
         clear c11
         by_cases c12 : ((rd_T52 l0 x16_1).f3).toList = a4.toList
         ·
          rw [if_pos c12] at H
          have c12b0 : (((rd_T52 l0 x16_1).f3).toList == a4.toList) = true := beq_iff_eq.mpr c12
          have c12b1 : (((rd_T52 l0 x16_1).f3).toList != a4.toList) = false := bne_eq_false_iff_eq.mpr c12
          clear c12
          by_cases c13 : x11_1.length < 17592186044416
          ·
           rw [if_pos c13] at H
           have LMc13 := AM c13
           clear c13
           obtain ⟨y103, hy103⟩ : ∃ y_ : List Int, y_ = (x11_1 ++ [(rd_T52 l0 x16_1).f4]) := ⟨_, rfl⟩
           replace H : (impl_voters.l0 k1 a1 a2 a3 a4 y103 l0 (l0.length : Int) (wrap64 (x16_1 + 1))) = some r := by first | (rw [hy103]; with_reducible exact H) | (have H2_ := (Option.bind_some _ _).symm.trans H; rw [hy103]; with_reducible exact H2_) | (have H2_ := (Option.bind_some _ _).symm.trans H; with_reducible exact H2_) | with_reducible exact H | (rw [hy103]; exact H) | exact H
           have Ny103 := AM hy103
           clear hy103
           have H' := AM H
           clear H
           have p101 : 0 ≤ (x16_1 : Int) := of_decide_eq_true (by assumption)
           have q101 : x16_1 < (l0.length : Int) := of_decide_eq_true (by assumption)
           obtain ⟨ad101, e101, hx101_0, hx101_1, hx101_2, hx101_3, hx101_4⟩ := at_T52 HR0.out x16_1 p101 q101
           cases e101
           replace hx101_0 := pw_cell_below HB.out hx101_0
           replace hx101_1 := pw_cell_below HB.out hx101_1
           replace hx101_2 := pw_cell_below HB.out hx101_2
           replace hx101_3 := pw_cell_below HB.out hx101_3
           replace hx101_4 := pw_cell_below HB.out hx101_4
           replace p101 := eq_true p101
           replace q101 := eq_true q101
           go_wp2_with (first | ((with_reducible refine gate_dst (N := 13) rfl ?_); refine box_event (by rfl) (N := 13) (by rfl) (cs := #[.int .i64 0, .int .i64 0, .int .i64 0, .string (⟨#[]⟩ : ByteArray), .int .i64 0]) (t := 52) (by first | (go_simp; done) | (go_simp; rfl)) ?_; intro gb102 hg w14 hbox hb; have _ := AM (Kd.R_below (rX HO_11.out) hb); have _ := AM (below_step (bX HB.out) hb); have _ := AM (hbox); have n3_ := AM ((by rw [hg]; exact (bZ (bX HB.out)) : w.heap.size ≤ gb102)); clear HO_11 HB; rename_i HO_11 HB BK102; have GW102 := n3_; have GE102 := n3_; clear n3_; clear hb hbox hg; have hcz15 := q5 BK102.out; have hfz15 := fZ BK102.out) | ((with_reducible refine gate_builtin (b := .append) (xs := #[.tmp 42, .tmp 45]) rfl ?_); at_builtin; refine Kd.R_append (Kd.int .i64) (w0 := w) w.heap.size rfl (.tmp 42) (.tmp 45) 70 2 (.int .i64 0) 8 rfl Try.underlying70 info2 rfl (by decide) (by omega) u11 x11_1 ((rd_T52 l0 x16_1).f4) [.int .i64 ((rd_T52 l0 x16_1).f4)] (fun _ => True) (fun _ => False) rfl (by first | (go_simp; done) | (go_simp; rfl)) ?aP (fun _ hk => hk.elim) ?aF ?aO ?aB ?aS ?aL ?_; (case aP => exact rfl); (case aB => exact (bX HB.out)); (case aF => exact (fun _ _ => trivial)); (case aO => exact (by (with_reducible repeat (first | apply rA | apply rN | apply rD)); exact Kd.R_mono (Kd.R_far (p := ⟨gb102, 4, none⟩) (Kd.R_far (p := ⟨gb102, 3, none⟩) (Kd.R_far (p := ⟨gb102, 2, none⟩) (Kd.R_far (p := ⟨gb102, 1, none⟩) (Kd.R_far (p := ⟨gb102, 0, none⟩) (Kd.R_types HO_11.out BK102.out (by decide)) (fun _ hk => hk.2) (.int .i64 ((rd_T52 l0 x16_1).f0))) (fun _ hk => hk.2) (.int .i64 ((rd_T52 l0 x16_1).f1))) (fun _ hk => hk.2) (.int .i64 ((rd_T52 l0 x16_1).f2))) (fun _ hk => hk.2) (.string ((rd_T52 l0 x16_1).f3))) (fun _ hk => hk.2) (.int .i64 ((rd_T52 l0 x16_1).f4))) (fun _ hk => trivial))); (case aS => exact (bZ (bX HB.out))); (case aL => have := LMc13.out; omega); intro v104 w16 ho hb hg hat; rw [← Ny103.out] at ho; have _ := AM (blk_grown (g := gb102) (o := .cells #[.int .i64 ((rd_T52 l0 x16_1).f0), .int .i64 ((rd_T52 l0 x16_1).f1), .int .i64 ((rd_T52 l0 x16_1).f2), .string ((rd_T52 l0 x16_1).f3), .int .i64 ((rd_T52 l0 x16_1).f4)] 52 (0, 0)) (by refine kP (cs := #[.int .i64 ((rd_T52 l0 x16_1).f0), .int .i64 ((rd_T52 l0 x16_1).f1), .int .i64 ((rd_T52 l0 x16_1).f2), .string ((rd_T52 l0 x16_1).f3), .int .i64 0]) 4 ?_; refine kP (cs := #[.int .i64 ((rd_T52 l0 x16_1).f0), .int .i64 ((rd_T52 l0 x16_1).f1), .int .i64 ((rd_T52 l0 x16_1).f2), .string (⟨#[]⟩ : ByteArray), .int .i64 0]) 3 ?_; refine kP (cs := #[.int .i64 ((rd_T52 l0 x16_1).f0), .int .i64 ((rd_T52 l0 x16_1).f1), .int .i64 0, .string (⟨#[]⟩ : ByteArray), .int .i64 0]) 2 ?_; refine kP (cs := #[.int .i64 ((rd_T52 l0 x16_1).f0), .int .i64 0, .int .i64 0, .string (⟨#[]⟩ : ByteArray), .int .i64 0]) 1 ?_; refine kP (cs := #[.int .i64 0, .int .i64 0, .int .i64 0, .string (⟨#[]⟩ : ByteArray), .int .i64 0]) 0 ?_; (with_reducible repeat (first | apply kN | apply kD | apply kA)); exact BK102.out) hg (Kd.R_ne HO_11.out BK102.out (by decide))); have _ := AM (hb); have _ := AM (ho); clear BK102 HB HO_11; rename_i BK102 HB HO105; clear ho hb hg hat))
           go_roundg k1
           case measure => have := HK1.out; omega
           case rel => exact ⟨(y103), (wrap64 (x16_1 + 1)), (by first | rfl | (simp; done) | (simp [*]; done)), H', ⟨by have := HK1.out; omega⟩, ⟨rX HO105.out⟩, ⟨bX HB.out⟩⟩
          rw [if_neg c13] at H
          exact absurd H (by simp)
         rw [if_neg c12] at H
         have c12b0 : (((rd_T52 l0 x16_1).f3).toList == a4.toList) = false := beq_eq_false_iff_ne.mpr c12
         have c12b1 : (((rd_T52 l0 x16_1).f3).toList != a4.toList) = true := bne_iff_ne.mpr c12
         have H' := AM H
         clear H
         have p101 : 0 ≤ (x16_1 : Int) := of_decide_eq_true (by assumption)
         have q101 : x16_1 < (l0.length : Int) := of_decide_eq_true (by assumption)
         obtain ⟨ad101, e101, hx101_0, hx101_1, hx101_2, hx101_3, hx101_4⟩ := at_T52 HR0.out x16_1 p101 q101
         cases e101
         replace hx101_0 := pw_cell_below HB.out hx101_0
         replace hx101_1 := pw_cell_below HB.out hx101_1
         replace hx101_2 := pw_cell_below HB.out hx101_2
         replace hx101_3 := pw_cell_below HB.out hx101_3
         replace hx101_4 := pw_cell_below HB.out hx101_4
         replace p101 := eq_true p101
         replace q101 := eq_true q101
         go_wp2_with (first | ((with_reducible refine gate_dst (N := 13) rfl ?_); refine box_event (by rfl) (N := 13) (by rfl) (cs := #[.int .i64 0, .int .i64 0, .int .i64 0, .string (⟨#[]⟩ : ByteArray), .int .i64 0]) (t := 52) (by first | (go_simp; done) | (go_simp; rfl)) ?_; intro gb102 hg w17 hbox hb; have _ := AM (Kd.R_below (rX HO_11.out) hb); have _ := AM (below_step (bX HB.out) hb); have _ := AM (hbox); have n3_ := AM ((by rw [hg]; exact (bZ (bX HB.out)) : w.heap.size ≤ gb102)); clear HO_11 HB; rename_i HO_11 HB BK102; have GW102 := n3_; have GE102 := n3_; clear n3_; clear hb hbox hg; have hcz18 := q5 BK102.out; have hfz18 := fZ BK102.out))
         go_roundg k1
         case measure => have := HK1.out; omega
         case rel => exact ⟨(x11_1), (wrap64 (x16_1 + 1)), (by first | rfl | (simp; done) | (simp [*]; done)), H', ⟨by have := HK1.out; omega⟩, ⟨by (with_reducible repeat (first | apply rA | apply rN | apply rD)); exact Kd.R_mono (Kd.R_far (p := ⟨gb102, 4, none⟩) (Kd.R_far (p := ⟨gb102, 3, none⟩) (Kd.R_far (p := ⟨gb102, 2, none⟩) (Kd.R_far (p := ⟨gb102, 1, none⟩) (Kd.R_far (p := ⟨gb102, 0, none⟩) (Kd.R_types HO_11.out BK102.out (by decide)) (fun _ hk => hk.2) (.int .i64 ((rd_T52 l0 x16_1).f0))) (fun _ hk => hk.2) (.int .i64 ((rd_T52 l0 x16_1).f1))) (fun _ hk => hk.2) (.int .i64 ((rd_T52 l0 x16_1).f2))) (fun _ hk => hk.2) (.string ((rd_T52 l0 x16_1).f3))) (fun _ hk => hk.2) (.int .i64 ((rd_T52 l0 x16_1).f4))) (fun _ hk => trivial)⟩, ⟨bX HB.out⟩⟩
        rw [if_neg c11] at H
        have c11b0 : (((rd_T52 l0 x16_1).f2) == a3) = false := beq_eq_false_iff_ne.mpr c11
        have c11b1 : (((rd_T52 l0 x16_1).f2) != a3) = true := bne_iff_ne.mpr c11
        have H' := AM H
        clear H
        have p101 : 0 ≤ (x16_1 : Int) := of_decide_eq_true (by assumption)
        have q101 : x16_1 < (l0.length : Int) := of_decide_eq_true (by assumption)
        obtain ⟨ad101, e101, hx101_0, hx101_1, hx101_2, hx101_3, hx101_4⟩ := at_T52 HR0.out x16_1 p101 q101
        cases e101
        replace hx101_0 := pw_cell_below HB.out hx101_0
        replace hx101_1 := pw_cell_below HB.out hx101_1
        replace hx101_2 := pw_cell_below HB.out hx101_2
        replace hx101_3 := pw_cell_below HB.out hx101_3
        replace hx101_4 := pw_cell_below HB.out hx101_4
        replace p101 := eq_true p101
        replace q101 := eq_true q101
        go_wp2_with (first | ((with_reducible refine gate_dst (N := 13) rfl ?_); refine box_event (by rfl) (N := 13) (by rfl) (cs := #[.int .i64 0, .int .i64 0, .int .i64 0, .string (⟨#[]⟩ : ByteArray), .int .i64 0]) (t := 52) (by first | (go_simp; done) | (go_simp; rfl)) ?_; intro gb102 hg w19 hbox hb; have _ := AM (Kd.R_below (rX HO_11.out) hb); have _ := AM (below_step (bX HB.out) hb); have _ := AM (hbox); have n3_ := AM ((by rw [hg]; exact (bZ (bX HB.out)) : w.heap.size ≤ gb102)); clear HO_11 HB; rename_i HO_11 HB BK102; have GW102 := n3_; have GE102 := n3_; clear n3_; clear hb hbox hg; have hcz20 := q5 BK102.out; have hfz20 := fZ BK102.out))
        go_roundg k1
        case measure => have := HK1.out; omega
        case rel => exact ⟨(x11_1), (wrap64 (x16_1 + 1)), (by first | rfl | (simp; done) | (simp [*]; done)), H', ⟨by have := HK1.out; omega⟩, ⟨by (with_reducible repeat (first | apply rA | apply rN | apply rD)); exact Kd.R_mono (Kd.R_far (p := ⟨gb102, 4, none⟩) (Kd.R_far (p := ⟨gb102, 3, none⟩) (Kd.R_far (p := ⟨gb102, 2, none⟩) (Kd.R_far (p := ⟨gb102, 1, none⟩) (Kd.R_far (p := ⟨gb102, 0, none⟩) (Kd.R_types HO_11.out BK102.out (by decide)) (fun _ hk => hk.2) (.int .i64 ((rd_T52 l0 x16_1).f0))) (fun _ hk => hk.2) (.int .i64 ((rd_T52 l0 x16_1).f1))) (fun _ hk => hk.2) (.int .i64 ((rd_T52 l0 x16_1).f2))) (fun _ hk => hk.2) (.string ((rd_T52 l0 x16_1).f3))) (fun _ hk => hk.2) (.int .i64 ((rd_T52 l0 x16_1).f4))) (fun _ hk => trivial)⟩, ⟨bX HB.out⟩⟩
       rw [if_neg c10] at H
       have c10b0 : (((rd_T52 l0 x16_1).f1) == a2) = false := beq_eq_false_iff_ne.mpr c10
       have c10b1 : (((rd_T52 l0 x16_1).f1) != a2) = true := bne_iff_ne.mpr c10
       have H' := AM H
       clear H
       have p101 : 0 ≤ (x16_1 : Int) := of_decide_eq_true (by assumption)
       have q101 : x16_1 < (l0.length : Int) := of_decide_eq_true (by assumption)
       obtain ⟨ad101, e101, hx101_0, hx101_1, hx101_2, hx101_3, hx101_4⟩ := at_T52 HR0.out x16_1 p101 q101
       cases e101
       replace hx101_0 := pw_cell_below HB.out hx101_0
       replace hx101_1 := pw_cell_below HB.out hx101_1
       replace hx101_2 := pw_cell_below HB.out hx101_2
       replace hx101_3 := pw_cell_below HB.out hx101_3
       replace hx101_4 := pw_cell_below HB.out hx101_4
       replace p101 := eq_true p101
       replace q101 := eq_true q101
       go_wp2_with (first | ((with_reducible refine gate_dst (N := 13) rfl ?_); refine box_event (by rfl) (N := 13) (by rfl) (cs := #[.int .i64 0, .int .i64 0, .int .i64 0, .string (⟨#[]⟩ : ByteArray), .int .i64 0]) (t := 52) (by first | (go_simp; done) | (go_simp; rfl)) ?_; intro gb102 hg w21 hbox hb; have _ := AM (Kd.R_below (rX HO_11.out) hb); have _ := AM (below_step (bX HB.out) hb); have _ := AM (hbox); have n3_ := AM ((by rw [hg]; exact (bZ (bX HB.out)) : w.heap.size ≤ gb102)); clear HO_11 HB; rename_i HO_11 HB BK102; have GW102 := n3_; have GE102 := n3_; clear n3_; clear hb hbox hg; have hcz22 := q5 BK102.out; have hfz22 := fZ BK102.out))
       go_roundg k1
       case measure => have := HK1.out; omega
       case rel => exact ⟨(x11_1), (wrap64 (x16_1 + 1)), (by first | rfl | (simp; done) | (simp [*]; done)), H', ⟨by have := HK1.out; omega⟩, ⟨by (with_reducible repeat (first | apply rA | apply rN | apply rD)); exact Kd.R_mono (Kd.R_far (p := ⟨gb102, 4, none⟩) (Kd.R_far (p := ⟨gb102, 3, none⟩) (Kd.R_far (p := ⟨gb102, 2, none⟩) (Kd.R_far (p := ⟨gb102, 1, none⟩) (Kd.R_far (p := ⟨gb102, 0, none⟩) (Kd.R_types HO_11.out BK102.out (by decide)) (fun _ hk => hk.2) (.int .i64 ((rd_T52 l0 x16_1).f0))) (fun _ hk => hk.2) (.int .i64 ((rd_T52 l0 x16_1).f1))) (fun _ hk => hk.2) (.int .i64 ((rd_T52 l0 x16_1).f2))) (fun _ hk => hk.2) (.string ((rd_T52 l0 x16_1).f3))) (fun _ hk => hk.2) (.int .i64 ((rd_T52 l0 x16_1).f4))) (fun _ hk => trivial)⟩, ⟨bX HB.out⟩⟩
      rw [if_neg c9] at H
      have c9b0 : (((rd_T52 l0 x16_1).f0) == a1) = false := beq_eq_false_iff_ne.mpr c9
      have c9b1 : (((rd_T52 l0 x16_1).f0) != a1) = true := bne_iff_ne.mpr c9
      have H' := AM H
      clear H
      have p101 : 0 ≤ (x16_1 : Int) := of_decide_eq_true (by assumption)
      have q101 : x16_1 < (l0.length : Int) := of_decide_eq_true (by assumption)
      obtain ⟨ad101, e101, hx101_0, hx101_1, hx101_2, hx101_3, hx101_4⟩ := at_T52 HR0.out x16_1 p101 q101
      cases e101
      replace hx101_0 := pw_cell_below HB.out hx101_0
      replace hx101_1 := pw_cell_below HB.out hx101_1
      replace hx101_2 := pw_cell_below HB.out hx101_2
      replace hx101_3 := pw_cell_below HB.out hx101_3
      replace hx101_4 := pw_cell_below HB.out hx101_4
      replace p101 := eq_true p101
      replace q101 := eq_true q101
      go_wp2_with (first | ((with_reducible refine gate_dst (N := 13) rfl ?_); refine box_event (by rfl) (N := 13) (by rfl) (cs := #[.int .i64 0, .int .i64 0, .int .i64 0, .string (⟨#[]⟩ : ByteArray), .int .i64 0]) (t := 52) (by first | (go_simp; done) | (go_simp; rfl)) ?_; intro gb102 hg w23 hbox hb; have _ := AM (Kd.R_below (rX HO_11.out) hb); have _ := AM (below_step (bX HB.out) hb); have _ := AM (hbox); have n3_ := AM ((by rw [hg]; exact (bZ (bX HB.out)) : w.heap.size ≤ gb102)); clear HO_11 HB; rename_i HO_11 HB BK102; have GW102 := n3_; have GE102 := n3_; clear n3_; clear hb hbox hg; have hcz24 := q5 BK102.out; have hfz24 := fZ BK102.out))
      go_roundg k1
      case measure => have := HK1.out; omega
      case rel => exact ⟨(x11_1), (wrap64 (x16_1 + 1)), (by first | rfl | (simp; done) | (simp [*]; done)), H', ⟨by have := HK1.out; omega⟩, ⟨by (with_reducible repeat (first | apply rA | apply rN | apply rD)); exact Kd.R_mono (Kd.R_far (p := ⟨gb102, 4, none⟩) (Kd.R_far (p := ⟨gb102, 3, none⟩) (Kd.R_far (p := ⟨gb102, 2, none⟩) (Kd.R_far (p := ⟨gb102, 1, none⟩) (Kd.R_far (p := ⟨gb102, 0, none⟩) (Kd.R_types HO_11.out BK102.out (by decide)) (fun _ hk => hk.2) (.int .i64 ((rd_T52 l0 x16_1).f0))) (fun _ hk => hk.2) (.int .i64 ((rd_T52 l0 x16_1).f1))) (fun _ hk => hk.2) (.int .i64 ((rd_T52 l0 x16_1).f2))) (fun _ hk => hk.2) (.string ((rd_T52 l0 x16_1).f3))) (fun _ hk => hk.2) (.int .i64 ((rd_T52 l0 x16_1).f4))) (fun _ hk => trivial)⟩, ⟨bX HB.out⟩⟩
     rw [if_neg c8] at H
     exact absurd H (by simp)
    rw [if_neg c7] at H
    exact absurd H (by simp)
   rw [if_neg c6] at H
   have c6b0 : decide (x16_1 < (l0.length : Int)) = false := decide_eq_false c6
   clear c6
   replace H := Option.bind_eq_some_iff.mp H
   obtain ⟨t106, A250, H⟩ := H
   replace H : (some t106) = some r := H
   have A25 := AM A250
   clear A250
   obtain rfl := Option.some.inj H
   obtain ⟨Ao26, co26, eo26⟩ := Kd.R_slice HO_11.out
   subst eo26
   go_wp2_with (first | ((with_reducible refine gate_callee (f := 86) rfl ?_); refine goesL_ (some 49) rfl rfl Try.func86 (by kernel_rfl) rfl #[.slice Ao26 x11_1.length co26] rfl (by (try simp only [mA, mB, mC]); first | done | rfl | (simp only [mD, mE]; rfl)) ?_; (with_reducible refine (slices_Sort_int64_int64.calls k1 (fun k_ => some k_ = (.slice Ao26 x11_1.length co26 : Value).ownBlock) (.slice Ao26 x11_1.length co26) x11_1 t106 w _ ?side1 ?side2 A25.out).mono ?_); (case side1 => exact (bX HB.out)); (case side2 => exact Kd.R_tight rfl HO_11.out); rintro e w27 ⟨rfl, hy0, hb, hkp⟩; refine ⟨_, rfl, ?_⟩; have _ := AM (Kd.R_reok rfl hy0 (fun k_ e_ => HO_11.out.1 k_ e_)); have _ := AM (hb); clear HO_11 HB; rename_i HO_11 HB; (try clear hb); (try clear hkp); (try clear hy0)))
   go_ret
   exact ⟨_, by first | rfl | (simp [*, errW_none, errW_some] <;> rfl), rX HO_11.out, bX HB.out⟩

/-! ### impl_proofOf: function 78 -/

def impl_proofOf.f (k : Nat) (l0 : List (S52)) (a1 : Int) (a2 : Int) (a3 : ByteArray) : Option (Int × Int × ByteArray × List Int) := (impl_voters.f k l0 2 a1 a2 a3).bind fun t102 => (if (t102.length : Int) < 3 then (some (0, 0, (⟨#[]⟩ : ByteArray), ([] : List Int))) else (some (a1, a2, a3, t102)))
theorem impl_proofOf.mono : ∀ a0 a1 a2 a3 k, LeO (impl_proofOf.f k a0 a1 a2 a3) (impl_proofOf.f (k + 1) a0 a1 a2 a3) := by
  intro a0 a1 a2 a3 k
  unfold impl_proofOf.f
  repeat' first
      | (with_reducible exact impl_voters.mono _ _ _ _ _ _)
      | (with_reducible exact LeO.refl _)
      | (with_reducible exact LeO.none _)
      | (with_reducible refine LeO.ite ?_ ?_)
      | (with_reducible refine LeO.bind ?_ (fun _ => ?_))
      | exact impl_voters.mono _ _ _ _ _ _
      | exact LeO.none _
      | refine LeO.ite ?_ ?_
      | refine LeO.bind ?_ (fun _ => ?_)
set_option maxHeartbeats 60000000 in
set_option maxRecDepth 100000 in
theorem impl_proofOf.calls (k : Nat) (A0 : Option Addr) (c0 : Nat) (l0 : List (S52)) (a1 : Int) (a2 : Int) (a3 : ByteArray) (r1 : Int) (r2 : Int) (r3 : ByteArray) (r4 : List Int) (w : World) (hr0 : Kd.C k52 w A0 l0.length l0) (hc0 : l0.length ≤ c0) (h : impl_proofOf.f k l0 a1 a2 a3 = some (r1, r2, r3, r4)) :
    Calls Try.prog 78 #[.slice A0 l0.length c0, .int .i64 a1, .int .i64 a2, .string a3] w fun e w' => ∃ v3_ : Value, e = .returned (.agg #[.int .i64 r1, .int .i64 r2, .string r3, v3_]) ∧ Kd.R (Kd.int .i64) 2 w' w.heap.size (fun _ => True) v3_ r4 ∧ Below w.heap.size w w' := by
 have hu72 := Try.underlying72
 have HR0 := AM hr0
 have HC0 := AM hc0
 clear hr0 hc0
 have HB := AM (Below.refl w.heap.size w)
 have H : ((impl_voters.f k l0 2 a1 a2 a3).bind fun t102 => (if (t102.length : Int) < 3 then (some (0, 0, (⟨#[]⟩ : ByteArray), ([] : List Int))) else (some (a1, a2, a3, t102)))) = some (r1, r2, r3, r4) := h
 clear h
 replace H := Option.bind_eq_some_iff.mp H
 obtain ⟨t102, A50, H⟩ := H
 replace H : (if (t102.length : Int) < 3 then (some (0, 0, (⟨#[]⟩ : ByteArray), ([] : List Int))) else (some (a1, a2, a3, t102))) = some (r1, r2, r3, r4) := H
 have A5 := AM A50
 clear A50
 by_cases c6 : (t102.length : Int) < 3
 ·
  rw [if_pos c6] at H
  have c6b0 : decide ((t102.length : Int) < 3) = true := decide_eq_true c6
  have c6b1 : decide (t102.length < 3) = true := decide_eq_true (by omega)
  clear c6
  simp only [Option.some.injEq, Prod.mk.injEq] at H
  obtain ⟨rfl, rfl, rfl, rfl⟩ := H
  go_enter Try.func78, Try.ntmps78
  go_wp2_with (first | ((with_reducible refine gate_dst (N := 8) rfl ?_); refine box_event (by rfl) (N := 8) (by rfl) (cs := #[.int .i64 0, .int .i64 0, .string (⟨#[]⟩ : ByteArray), .slice none 0 0]) (t := 72) (by first | (go_simp; done) | (go_simp; rfl)) ?_; intro gb101 hg w7 hbox hb; have _ := AM (below_step (bX HB.out) hb); have _ := AM (hbox); have n2_ := AM ((by rw [hg]; exact (bZ (bX HB.out)) : w.heap.size ≤ gb101)); clear HB; rename_i HB BK101; have GW101 := n2_; have GE101 := n2_; clear n2_; clear hb hbox hg) | ((with_reducible refine gate_callee (f := 83) rfl ?_); refine goesL_ (some 14) rfl rfl Try.func83 (by kernel_rfl) rfl #[.slice A0 l0.length c0, .int .i64 2, .int .i64 a1, .int .i64 a2, .string a3] rfl (by (try simp only [mA, mB, mC]); first | done | rfl | (simp only [mD, mE]; rfl)) ?_; (with_reducible refine (impl_voters.calls k _ _ l0 2 a1 a2 a3 t102 _ ?side1 ?side2 A5.out).mono ?_); (case side1 => repeat (first | exact (cB HR0.out HB.out) | (with_reducible first | apply cA | apply cN | apply cD))); (case side2 => exact HC0.out); rintro e w8 ⟨v103, rfl, ho0, hb⟩; refine ⟨_, rfl, ?_⟩; have _ := AM (Kd.R_lower ho0 (bZ (bX HB.out))); have _ := AM (nB BK101.out hb); have _ := AM (below_step (bX HB.out) hb); clear BK101 HB; rename_i HO104 BK101 HB; (try clear hb); (try clear hk); (try clear ho0); obtain ⟨Ao9, co9, eo9⟩ := Kd.R_slice HO104.out; subst eo9; have hcz10 := q4 BK101.out; have hfz10 := fZ BK101.out))
  refine bodyPost_ret (results_cell_row rfl _ _ gb101 72 #[.int .i64 0, .int .i64 0, .string (⟨#[]⟩ : ByteArray), .slice none 0 0] (0, 0) _ rfl (by refine kP (cs := #[.int .i64 0, .int .i64 0, .string (⟨#[]⟩ : ByteArray), .slice none 0 0]) 3 ?_; refine kP (cs := #[.int .i64 0, .int .i64 0, .string (⟨#[]⟩ : ByteArray), .slice none 0 0]) 2 ?_; refine kP (cs := #[.int .i64 0, .int .i64 0, .string (⟨#[]⟩ : ByteArray), .slice none 0 0]) 1 ?_; refine kP (cs := #[.int .i64 0, .int .i64 0, .string (⟨#[]⟩ : ByteArray), .slice none 0 0]) 0 ?_; (with_reducible repeat (first | apply kN | apply kD | apply kA)); exact BK101.out) Try.underlying72 rfl (by kernel_rfl)) rfl ?_
  exact ⟨_, by first | rfl | (simp [*, errW_none, errW_some] <;> rfl), by first | exact Kd.R_nil _ _ _ _ _ | exact Kd.N_nil _ _ _ _ _ | exact Kd.V_nil _ _ _ _ _ | exact Kd.Q_nil _ _ _ _ _ | exact Kd.S_nil _ _ _ _ _, bX HB.out⟩
 rw [if_neg c6] at H
 have c6b0 : decide ((t102.length : Int) < 3) = false := decide_eq_false c6
 have c6b1 : decide (t102.length < 3) = false := decide_eq_false (by omega)
 clear c6
 simp only [Option.some.injEq, Prod.mk.injEq] at H
 obtain ⟨rfl, rfl, rfl, rfl⟩ := H
 go_enter Try.func78, Try.ntmps78
 go_wp2_with (first | ((with_reducible refine gate_dst (N := 8) rfl ?_); refine box_event (by rfl) (N := 8) (by rfl) (cs := #[.int .i64 0, .int .i64 0, .string (⟨#[]⟩ : ByteArray), .slice none 0 0]) (t := 72) (by first | (go_simp; done) | (go_simp; rfl)) ?_; intro gb101 hg w11 hbox hb; have _ := AM (below_step (bX HB.out) hb); have _ := AM (hbox); have n2_ := AM ((by rw [hg]; exact (bZ (bX HB.out)) : w.heap.size ≤ gb101)); clear HB; rename_i HB BK101; have GW101 := n2_; have GE101 := n2_; clear n2_; clear hb hbox hg) | ((with_reducible refine gate_callee (f := 83) rfl ?_); refine goesL_ (some 14) rfl rfl Try.func83 (by kernel_rfl) rfl #[.slice A0 l0.length c0, .int .i64 2, .int .i64 a1, .int .i64 a2, .string a3] rfl (by (try simp only [mA, mB, mC]); first | done | rfl | (simp only [mD, mE]; rfl)) ?_; (with_reducible refine (impl_voters.calls k _ _ l0 2 a1 a2 a3 t102 _ ?side1 ?side2 A5.out).mono ?_); (case side1 => repeat (first | exact (cB HR0.out HB.out) | (with_reducible first | apply cA | apply cN | apply cD))); (case side2 => exact HC0.out); rintro e w12 ⟨v103, rfl, ho0, hb⟩; refine ⟨_, rfl, ?_⟩; have _ := AM (Kd.R_lower ho0 (bZ (bX HB.out))); have _ := AM (nB BK101.out hb); have _ := AM (below_step (bX HB.out) hb); clear BK101 HB; rename_i HO104 BK101 HB; (try clear hb); (try clear hk); (try clear ho0); obtain ⟨Ao13, co13, eo13⟩ := Kd.R_slice HO104.out; subst eo13; have hcz14 := q4 BK101.out; have hfz14 := fZ BK101.out))
 refine bodyPost_ret (results_cell_row rfl _ _ gb101 72 #[.int .i64 a1, .int .i64 a2, .string a3, .slice Ao13 t102.length co13] (0, 0) _ rfl (by refine kP (cs := #[.int .i64 a1, .int .i64 a2, .string a3, .slice none 0 0]) 3 ?_; refine kP (cs := #[.int .i64 a1, .int .i64 a2, .string (⟨#[]⟩ : ByteArray), .slice none 0 0]) 2 ?_; refine kP (cs := #[.int .i64 a1, .int .i64 0, .string (⟨#[]⟩ : ByteArray), .slice none 0 0]) 1 ?_; refine kP (cs := #[.int .i64 0, .int .i64 0, .string (⟨#[]⟩ : ByteArray), .slice none 0 0]) 0 ?_; (with_reducible repeat (first | apply kN | apply kD | apply kA)); exact BK101.out) Try.underlying72 rfl (by kernel_rfl)) rfl ?_
 exact ⟨_, by first | rfl | (simp [*, errW_none, errW_some] <;> rfl), by (with_reducible repeat (first | apply rA | apply rN | apply rD)); exact Rf4 HO104.out BK101.out (by decide) (fun _ hk => trivial), bX HB.out⟩

/-! ### impl_provedIn: function 69 -/

def impl_provedIn.l0 : Nat → List (S52) → Int → Int → List ByteArray → Int → Int → Option (Int × Int × ByteArray × List Int)
  | 0, _, _, _, _, _, _ => none
  | k + 1, x0, x1, x2, x13, x14, x15 => if x15 < x14 then (if 0 ≤ x15 then (if x15 < (x13.length : Int) then ((impl_proofOf.f k x0 x1 x2 (rdOf ByteArray.empty x13 x15)).bind fun bt106 => (if bt106.2.1 = 0 then (impl_provedIn.l0 k x0 x1 x2 x13 x14 (wrap64 (x15 + 1))) else (some (bt106.1, bt106.2.1, bt106.2.2.1, bt106.2.2.2)))) else (none)) else (none)) else (some (0, 0, (⟨#[]⟩ : ByteArray), ([] : List Int)))
def impl_provedIn.f (k : Nat) (l0 : List (S52)) (a1 : Int) (a2 : Int) : Option (Int × Int × ByteArray × List Int) := (impl_opsOf.f k l0 2 a1 a2).bind fun t102 => (impl_provedIn.l0 k l0 a1 a2 t102 (t102.length : Int) 0)
theorem impl_provedIn.mono_l : ∀ k, (∀ y0 y1 y2 y3 y4 y5, LeO (impl_provedIn.l0 k y0 y1 y2 y3 y4 y5) (impl_provedIn.l0 (k + 1) y0 y1 y2 y3 y4 y5))
  | 0 => fun _ _ _ _ _ _ r h => by simp [impl_provedIn.l0] at h
  | k + 1 => by
    have ih0 := impl_provedIn.mono_l k
    · intro y0 y1 y2 y3 y4 y5
      unfold impl_provedIn.l0
      repeat' first
      | (with_reducible exact ih0 _ _ _ _ _ _)
      | (with_reducible exact impl_opsOf.mono _ _ _ _ _)
      | (with_reducible exact impl_proofOf.mono _ _ _ _ _)
      | (with_reducible exact LeO.refl _)
      | (with_reducible exact LeO.none _)
      | (with_reducible refine LeO.ite ?_ ?_)
      | (with_reducible refine LeO.bind ?_ (fun _ => ?_))
      | exact ih0 _ _ _ _ _ _
      | exact impl_opsOf.mono _ _ _ _ _
      | exact impl_proofOf.mono _ _ _ _ _
      | exact LeO.none _
      | refine LeO.ite ?_ ?_
      | refine LeO.bind ?_ (fun _ => ?_)
theorem impl_provedIn.mono : ∀ a0 a1 a2 k, LeO (impl_provedIn.f k a0 a1 a2) (impl_provedIn.f (k + 1) a0 a1 a2) := by
  intro a0 a1 a2 k
  have ih0 := impl_provedIn.mono_l k
  unfold impl_provedIn.f
  repeat' first
      | (with_reducible exact ih0 _ _ _ _ _ _)
      | (with_reducible exact impl_opsOf.mono _ _ _ _ _)
      | (with_reducible exact impl_proofOf.mono _ _ _ _ _)
      | (with_reducible exact LeO.refl _)
      | (with_reducible exact LeO.none _)
      | (with_reducible refine LeO.ite ?_ ?_)
      | (with_reducible refine LeO.bind ?_ (fun _ => ?_))
      | exact ih0 _ _ _ _ _ _
      | exact impl_opsOf.mono _ _ _ _ _
      | exact impl_proofOf.mono _ _ _ _ _
      | exact LeO.none _
      | refine LeO.ite ?_ ?_
      | refine LeO.bind ?_ (fun _ => ?_)
set_option maxHeartbeats 60000000 in
set_option maxRecDepth 100000 in
theorem impl_provedIn.calls (k : Nat) (A0 : Option Addr) (c0 : Nat) (l0 : List (S52)) (a1 : Int) (a2 : Int) (r1 : Int) (r2 : Int) (r3 : ByteArray) (r4 : List Int) (w : World) (hr0 : Kd.C k52 w A0 l0.length l0) (hc0 : l0.length ≤ c0) (h : impl_provedIn.f k l0 a1 a2 = some (r1, r2, r3, r4)) :
    Calls Try.prog 69 #[.slice A0 l0.length c0, .int .i64 a1, .int .i64 a2] w fun e w' => ∃ v3_ : Value, e = .returned (.agg #[.int .i64 r1, .int .i64 r2, .string r3, v3_]) ∧ Kd.R (Kd.int .i64) 2 w' w.heap.size (fun _ => True) v3_ r4 ∧ Below w.heap.size w w' := by
 have hu72 := Try.underlying72
 have HR0 := AM hr0
 have HC0 := AM hc0
 clear hr0 hc0
 have HB := AM (Below.refl w.heap.size w)
 have H : ((impl_opsOf.f k l0 2 a1 a2).bind fun t102 => (impl_provedIn.l0 k l0 a1 a2 t102 (t102.length : Int) 0)) = some (r1, r2, r3, r4) := h
 clear h
 replace H := Option.bind_eq_some_iff.mp H
 obtain ⟨t102, A40, H⟩ := H
 replace H : (impl_provedIn.l0 k l0 a1 a2 t102 (t102.length : Int) 0) = some (r1, r2, r3, r4) := H
 have A4 := AM A40
 clear A40
 have H' := AM H
 clear H
 go_enter Try.func69, Try.ntmps69
 go_wp2_with (first | ((with_reducible refine gate_dst (N := 6) rfl ?_); refine box_event (by rfl) (N := 6) (by rfl) (cs := #[.int .i64 0, .int .i64 0, .string (⟨#[]⟩ : ByteArray), .slice none 0 0]) (t := 72) (by first | (go_simp; done) | (go_simp; rfl)) ?_; intro gb101 hg w5 hbox hb; have _ := AM (below_step (bX HB.out) hb); have _ := AM (hbox); have n2_ := AM ((by rw [hg]; exact (bZ (bX HB.out)) : w.heap.size ≤ gb101)); clear HB; rename_i HB BK101; have GW101 := n2_; have GE101 := n2_; clear n2_; clear hb hbox hg) | ((with_reducible refine gate_callee (f := 77) rfl ?_); refine goesL_ (some 13) rfl rfl Try.func77 (by kernel_rfl) rfl #[.slice A0 l0.length c0, .int .i64 2, .int .i64 a1, .int .i64 a2] rfl (by (try simp only [mA, mB, mC]); first | done | rfl | (simp only [mD, mE]; rfl)) ?_; (with_reducible refine (impl_opsOf.calls k _ _ l0 2 a1 a2 t102 _ ?side1 ?side2 A4.out).mono ?_); (case side1 => repeat (first | exact (cB HR0.out HB.out) | (with_reducible first | apply cA | apply cN | apply cD))); (case side2 => exact HC0.out); rintro e w6 ⟨v103, rfl, ho0, hb⟩; refine ⟨_, rfl, ?_⟩; have _ := AM (Kd.R_lower ho0 (bZ (bX HB.out))); have _ := AM (nB BK101.out hb); have _ := AM (below_step (bX HB.out) hb); clear BK101 HB; rename_i HO104 BK101 HB; (try clear hb); (try clear hk); (try clear ho0); obtain ⟨Ao7, co7, eo7⟩ := Kd.R_slice HO104.out; subst eo7))
 go_loopg [15] k (fun kq v15 w' => ∃ (x15_1 : Int) (x102000_1 : Int) (x102001_1 : Int) (x102002_1 : ByteArray), v15 = .int .i64 x15_1 ∧ Aside0 (impl_provedIn.l0 kq l0 a1 a2 t102 (t102.length : Int) x15_1 = some (r1, r2, r3, r4)) ∧ Aside0 (kq ≤ k) ∧ Aside0 (Kd.R Kd.string 9 w' w.heap.size (fun _ => True) (.slice Ao7 t102.length co7) t102) ∧ Aside0 (w'.heap[gb101]? = some (.cells #[.int .i64 x102000_1, .int .i64 x102001_1, .string x102002_1, (.slice none 0 0)] 72 (0, 0))) ∧ Aside0 (Below w.heap.size w w'))
 case atStart => exact ⟨(0), (0), (0), ((⟨#[]⟩ : ByteArray)), (by first | rfl | (simp; done) | (simp [*]; done)), H', ⟨Nat.le_refl _⟩, ⟨rX HO104.out⟩, ⟨kX BK101.out⟩, ⟨bX HB.out⟩⟩
 case round =>
  clear H'
  (try clear p2); (try clear c6); (try clear c7)
  obtain ⟨x15_1, x102000_1, x102001_1, x102002_1, rfl, HA, HK1, HO_13, BK101, HB⟩ := hrel
  cases gk with
  | zero => exact absurd HA.out (by simp [impl_provedIn.l0])
  | succ k1 =>
   have H := HA.out
   clear HA
   simp only [impl_provedIn.l0] at H
   by_cases c8 : x15_1 < (t102.length : Int)
   ·
    rw [if_pos c8] at H
    have c8b0 : decide (x15_1 < (t102.length : Int)) = true := decide_eq_true c8
    clear c8
    by_cases c9 : 0 ≤ x15_1
    ·
     rw [if_pos c9] at H
     have c9b0 : decide (0 ≤ x15_1) = true := decide_eq_true c9
     clear c9
     by_cases c10 : x15_1 < (t102.length : Int)
     ·
      rw [if_pos c10] at H
      have c10b0 : decide (x15_1 < (t102.length : Int)) = true := decide_eq_true c10
      clear c10
      replace H := Option.bind_eq_some_iff.mp H
      obtain ⟨⟨t106, t107, t108, t109⟩, A110, H⟩ := H
      try dsimp only at H
      have A11 := AM A110
      clear A110
      by_cases c12 : t107 = 0
      ·
       rw [if_pos c12] at H
       have c12b0 : (t107 == 0) = true := beq_iff_eq.mpr c12
       have c12b1 : (t107 != 0) = false := bne_eq_false_iff_eq.mpr c12
       clear c12
       have H' := AM H
       clear H
       have p105 : 0 ≤ (x15_1 : Int) := of_decide_eq_true (by assumption)
       have q105 : x15_1 < (t102.length : Int) := of_decide_eq_true (by assumption)
       obtain ⟨ad105, e105, hx105_0⟩ := Kd.at_string (Kd.R_reads' HO_13.out).2.2 x15_1 p105 q105
       cases e105
       replace p105 := eq_true p105
       replace q105 := eq_true q105
       go_wp2_with (first | ((with_reducible refine gate_callee (f := 78) rfl ?_); refine goesL_ (some 23) rfl rfl Try.func78 (by kernel_rfl) rfl #[.slice A0 l0.length c0, .int .i64 a1, .int .i64 a2, .string (rdOf ByteArray.empty t102 x15_1)] rfl (by (try simp only [mA, mB, mC]); first | done | rfl | (simp only [mD, mE]; rfl)) ?_; (with_reducible refine (impl_proofOf.calls k1 _ _ l0 a1 a2 (rdOf ByteArray.empty t102 x15_1) t106 t107 t108 t109 _ ?side1 ?side2 A11.out).mono ?_); (case side1 => repeat (first | exact (cB HR0.out HB.out) | (with_reducible first | apply cA | apply cN | apply cD))); (case side2 => exact HC0.out); rintro e w13 ⟨v110, rfl, ho0, hb⟩; refine ⟨_, rfl, ?_⟩; have _ := AM (Kd.R_below (rX HO_13.out) hb); have _ := AM (Kd.R_lower ho0 (bZ (bX HB.out))); have _ := AM (nB BK101.out hb); have _ := AM (below_step (bX HB.out) hb); clear HO_13 BK101 HB; rename_i HO_13 HO111 BK101 HB; (try clear hb); (try clear hk); (try clear ho0)) | ((with_reducible refine gate_dst (N := 9) rfl ?_); refine box_event (by rfl) (N := 9) (by rfl) (cs := #[.int .i64 0, .int .i64 0, .string (⟨#[]⟩ : ByteArray), .slice none 0 0]) (t := 72) (by first | (go_simp; done) | (go_simp; rfl)) ?_; intro gb112 hg w14 hbox hb; have _ := AM (Kd.R_below (rX HO_13.out) hb); have _ := AM (Kd.R_below (rX HO111.out) hb); have _ := AM (nB BK101.out hb); have _ := AM (below_step (bX HB.out) hb); have _ := AM (hbox); have n5_ := AM ((by rw [hg]; exact (bZ (bX HB.out)) : w.heap.size ≤ gb112)); have _ := AM (lX hg BK101.out); have _ := AM (lX hg BK101.out).symm; clear HO_13 HO111 BK101 HB; rename_i HO_13 HO111 BK101 HB BK112 NB101_112 NB112_101; have GW112 := n5_; have GE112 := n5_; clear n5_; clear hb hbox hg; have hnb15 := NB112_101.out; have hnc15 := NB101_112.out; have hcz16 := q4 BK112.out; have hfz16 := fZ BK112.out; obtain ⟨Ao17, co17, eo17⟩ := Kd.R_slice HO111.out; subst eo17))
       go_roundg k1
       case measure => have := HK1.out; omega
       case rel => exact ⟨(wrap64 (x15_1 + 1)), (x102000_1), (x102001_1), (x102002_1), (by first | rfl | (simp; done) | (simp [*]; done)), H', ⟨by have := HK1.out; omega⟩, ⟨by (with_reducible repeat (first | apply rA | apply rN | apply rD)); exact Rf4 HO_13.out BK112.out (by decide) (fun _ hk => trivial)⟩, ⟨by (iterate 4 refine kF NB101_112.out ?_); (with_reducible repeat (first | apply kN | apply kD | apply kA)); exact BK101.out⟩, ⟨bX HB.out⟩⟩
      rw [if_neg c12] at H
      have c12b0 : (t107 == 0) = false := beq_eq_false_iff_ne.mpr c12
      have c12b1 : (t107 != 0) = true := bne_iff_ne.mpr c12
      simp only [Option.some.injEq, Prod.mk.injEq] at H
      obtain ⟨rfl, rfl, rfl, rfl⟩ := H
      have p105 : 0 ≤ (x15_1 : Int) := of_decide_eq_true (by assumption)
      have q105 : x15_1 < (t102.length : Int) := of_decide_eq_true (by assumption)
      obtain ⟨ad105, e105, hx105_0⟩ := Kd.at_string (Kd.R_reads' HO_13.out).2.2 x15_1 p105 q105
      cases e105
      replace p105 := eq_true p105
      replace q105 := eq_true q105
      go_wp2_with (first | ((with_reducible refine gate_callee (f := 78) rfl ?_); refine goesL_ (some 23) rfl rfl Try.func78 (by kernel_rfl) rfl #[.slice A0 l0.length c0, .int .i64 a1, .int .i64 a2, .string (rdOf ByteArray.empty t102 x15_1)] rfl (by (try simp only [mA, mB, mC]); first | done | rfl | (simp only [mD, mE]; rfl)) ?_; (with_reducible refine (impl_proofOf.calls k1 _ _ l0 a1 a2 (rdOf ByteArray.empty t102 x15_1) t106 t107 t108 t109 _ ?side1 ?side2 A11.out).mono ?_); (case side1 => repeat (first | exact (cB HR0.out HB.out) | (with_reducible first | apply cA | apply cN | apply cD))); (case side2 => exact HC0.out); rintro e w18 ⟨v110, rfl, ho0, hb⟩; refine ⟨_, rfl, ?_⟩; have _ := AM (Kd.R_below (rX HO_13.out) hb); have _ := AM (Kd.R_lower ho0 (bZ (bX HB.out))); have _ := AM (nB BK101.out hb); have _ := AM (below_step (bX HB.out) hb); clear HO_13 BK101 HB; rename_i HO_13 HO111 BK101 HB; (try clear hb); (try clear hk); (try clear ho0)) | ((with_reducible refine gate_dst (N := 9) rfl ?_); refine box_event (by rfl) (N := 9) (by rfl) (cs := #[.int .i64 0, .int .i64 0, .string (⟨#[]⟩ : ByteArray), .slice none 0 0]) (t := 72) (by first | (go_simp; done) | (go_simp; rfl)) ?_; intro gb112 hg w19 hbox hb; have _ := AM (Kd.R_below (rX HO_13.out) hb); have _ := AM (Kd.R_below (rX HO111.out) hb); have _ := AM (nB BK101.out hb); have _ := AM (below_step (bX HB.out) hb); have _ := AM (hbox); have n5_ := AM ((by rw [hg]; exact (bZ (bX HB.out)) : w.heap.size ≤ gb112)); have _ := AM (lX hg BK101.out); have _ := AM (lX hg BK101.out).symm; clear HO_13 HO111 BK101 HB; rename_i HO_13 HO111 BK101 HB BK112 NB101_112 NB112_101; have GW112 := n5_; have GE112 := n5_; clear n5_; clear hb hbox hg; have hnb20 := NB112_101.out; have hnc20 := NB101_112.out; have hcz21 := q4 BK112.out; have hfz21 := fZ BK112.out; obtain ⟨Ao22, co22, eo22⟩ := Kd.R_slice HO111.out; subst eo22; have hcz23 := q4 BK101.out; have hfz23 := fZ BK101.out))
      refine bodyPost_ret (results_cell_row rfl _ _ gb101 72 #[.int .i64 t106, .int .i64 t107, .string t108, .slice Ao22 t109.length co22] (0, 0) _ rfl (by refine kP (cs := #[.int .i64 t106, .int .i64 t107, .string t108, .slice none 0 0]) 3 ?_; refine kP (cs := #[.int .i64 t106, .int .i64 t107, .string x102002_1, .slice none 0 0]) 2 ?_; refine kP (cs := #[.int .i64 t106, .int .i64 x102001_1, .string x102002_1, .slice none 0 0]) 1 ?_; refine kP (cs := #[.int .i64 x102000_1, .int .i64 x102001_1, .string x102002_1, .slice none 0 0]) 0 ?_; (iterate 4 refine kF NB101_112.out ?_); (with_reducible repeat (first | apply kN | apply kD | apply kA)); exact BK101.out) Try.underlying72 rfl (by kernel_rfl)) rfl ?_
      exact ⟨_, by first | rfl | (simp [*, errW_none, errW_some] <;> rfl), by (with_reducible repeat (first | apply rA | apply rN | apply rD)); exact Kd.R_mono (Kd.R_far (p := ⟨gb101, 3, none⟩) (Kd.R_far (p := ⟨gb101, 2, none⟩) (Kd.R_far (p := ⟨gb101, 1, none⟩) (Kd.R_far (p := ⟨gb101, 0, none⟩) (Kd.R_far (p := ⟨gb112, 3, none⟩) (Kd.R_far (p := ⟨gb112, 2, none⟩) (Kd.R_far (p := ⟨gb112, 1, none⟩) (Kd.R_far (p := ⟨gb112, 0, none⟩) (Kd.R_types (Kd.R_types HO111.out BK112.out (by decide)) BK101.out (by decide)) (fun _ hk => hk.1.2) (.int .i64 t106)) (fun _ hk => hk.1.2) (.int .i64 t107)) (fun _ hk => hk.1.2) (.string t108)) (fun _ hk => hk.1.2) (.slice Ao22 t109.length co22)) (fun _ hk => hk.2) (.int .i64 t106)) (fun _ hk => hk.2) (.int .i64 t107)) (fun _ hk => hk.2) (.string t108)) (fun _ hk => hk.2) (.slice Ao22 t109.length co22)) (fun _ hk => trivial), bX HB.out⟩
     rw [if_neg c10] at H
     exact absurd H (by simp)
    rw [if_neg c9] at H
    exact absurd H (by simp)
   rw [if_neg c8] at H
   have c8b0 : decide (x15_1 < (t102.length : Int)) = false := decide_eq_false c8
   clear c8
   simp only [Option.some.injEq, Prod.mk.injEq] at H
   obtain ⟨rfl, rfl, rfl, rfl⟩ := H
   have hcz24 := q4 BK101.out
   have hfz24 := fZ BK101.out
   go_wp2
   refine bodyPost_ret (results_cell_row rfl _ _ gb101 72 #[.int .i64 0, .int .i64 0, .string (⟨#[]⟩ : ByteArray), .slice none 0 0] (0, 0) _ rfl (by refine kP (cs := #[.int .i64 0, .int .i64 0, .string (⟨#[]⟩ : ByteArray), .slice none 0 0]) 3 ?_; refine kP (cs := #[.int .i64 0, .int .i64 0, .string x102002_1, .slice none 0 0]) 2 ?_; refine kP (cs := #[.int .i64 0, .int .i64 x102001_1, .string x102002_1, .slice none 0 0]) 1 ?_; refine kP (cs := #[.int .i64 x102000_1, .int .i64 x102001_1, .string x102002_1, .slice none 0 0]) 0 ?_; (with_reducible repeat (first | apply kN | apply kD | apply kA)); exact BK101.out) Try.underlying72 rfl (by kernel_rfl)) rfl ?_
   exact ⟨_, by first | rfl | (simp [*, errW_none, errW_some] <;> rfl), by first | exact Kd.R_nil _ _ _ _ _ | exact Kd.N_nil _ _ _ _ _ | exact Kd.V_nil _ _ _ _ _ | exact Kd.Q_nil _ _ _ _ _ | exact Kd.S_nil _ _ _ _ _, bX HB.out⟩

/-! ### impl_prepared: function 51 -/

def impl_prepared.l0 : Nat → List (S52) → Int → Int → Option (Int × Int × ByteArray × List Int)
  | 0, _, _, _ => none
  | k + 1, x0, x1, x7 => if x7 ≥ 0 then ((impl_provedIn.f k x0 x7 x1).bind fun bt102 => (if bt102.2.1 = 0 then (impl_prepared.l0 k x0 x1 (wrap64 (x7 - 1))) else (some (bt102.1, bt102.2.1, bt102.2.2.1, bt102.2.2.2)))) else (some (0, 0, (⟨#[]⟩ : ByteArray), ([] : List Int)))
def impl_prepared.f (k : Nat) (l0 : List (S52)) (a1 : Int) (a2 : Int) : Option (Int × Int × ByteArray × List Int) := impl_prepared.l0 k l0 a1 a2
theorem impl_prepared.mono_l : ∀ k, (∀ y0 y1 y2, LeO (impl_prepared.l0 k y0 y1 y2) (impl_prepared.l0 (k + 1) y0 y1 y2))
  | 0 => fun _ _ _ r h => by simp [impl_prepared.l0] at h
  | k + 1 => by
    have ih0 := impl_prepared.mono_l k
    · intro y0 y1 y2
      unfold impl_prepared.l0
      repeat' first
      | (with_reducible exact ih0 _ _ _)
      | (with_reducible exact impl_provedIn.mono _ _ _ _)
      | (with_reducible exact LeO.refl _)
      | (with_reducible exact LeO.none _)
      | (with_reducible refine LeO.ite ?_ ?_)
      | (with_reducible refine LeO.bind ?_ (fun _ => ?_))
      | exact ih0 _ _ _
      | exact impl_provedIn.mono _ _ _ _
      | exact LeO.none _
      | refine LeO.ite ?_ ?_
      | refine LeO.bind ?_ (fun _ => ?_)
theorem impl_prepared.mono : ∀ a0 a1 a2 k, LeO (impl_prepared.f k a0 a1 a2) (impl_prepared.f (k + 1) a0 a1 a2) := by
  intro a0 a1 a2 k
  have ih0 := impl_prepared.mono_l k
  unfold impl_prepared.f
  repeat' first
      | (with_reducible exact ih0 _ _ _)
      | (with_reducible exact impl_provedIn.mono _ _ _ _)
      | (with_reducible exact LeO.refl _)
      | (with_reducible exact LeO.none _)
      | (with_reducible refine LeO.ite ?_ ?_)
      | (with_reducible refine LeO.bind ?_ (fun _ => ?_))
      | exact ih0 _ _ _
      | exact impl_provedIn.mono _ _ _ _
      | exact LeO.none _
      | refine LeO.ite ?_ ?_
      | refine LeO.bind ?_ (fun _ => ?_)
set_option maxHeartbeats 60000000 in
set_option maxRecDepth 100000 in
theorem impl_prepared.calls (k : Nat) (A0 : Option Addr) (c0 : Nat) (l0 : List (S52)) (a1 : Int) (a2 : Int) (r1 : Int) (r2 : Int) (r3 : ByteArray) (r4 : List Int) (w : World) (hr0 : Kd.C k52 w A0 l0.length l0) (hc0 : l0.length ≤ c0) (h : impl_prepared.f k l0 a1 a2 = some (r1, r2, r3, r4)) :
    Calls Try.prog 51 #[.slice A0 l0.length c0, .int .i64 a1, .int .i64 a2] w fun e w' => ∃ v3_ : Value, e = .returned (.agg #[.int .i64 r1, .int .i64 r2, .string r3, v3_]) ∧ Kd.R (Kd.int .i64) 2 w' w.heap.size (fun _ => True) v3_ r4 ∧ Below w.heap.size w w' := by
 have hu72 := Try.underlying72
 have HR0 := AM hr0
 have HC0 := AM hc0
 clear hr0 hc0
 have HB := AM (Below.refl w.heap.size w)
 have H : (impl_prepared.l0 k l0 a1 a2) = some (r1, r2, r3, r4) := h
 clear h
 have H' := AM H
 clear H
 go_enter Try.func51, Try.ntmps51
 go_wp2_with (first | ((with_reducible refine gate_dst (N := 6) rfl ?_); refine box_event (by rfl) (N := 6) (by rfl) (cs := #[.int .i64 0, .int .i64 0, .string (⟨#[]⟩ : ByteArray), .slice none 0 0]) (t := 72) (by first | (go_simp; done) | (go_simp; rfl)) ?_; intro gb101 hg w4 hbox hb; have _ := AM (below_step (bX HB.out) hb); have _ := AM (hbox); have n2_ := AM ((by rw [hg]; exact (bZ (bX HB.out)) : w.heap.size ≤ gb101)); clear HB; rename_i HB BK101; have GW101 := n2_; have GE101 := n2_; clear n2_; clear hb hbox hg))
 go_loopg [7] k (fun kq v7 w' => ∃ (x7_1 : Int) (x102000_1 : Int) (x102001_1 : Int) (x102002_1 : ByteArray), v7 = .int .i64 x7_1 ∧ Aside0 (impl_prepared.l0 kq l0 a1 x7_1 = some (r1, r2, r3, r4)) ∧ Aside0 (kq ≤ k) ∧ Aside0 (w'.heap[gb101]? = some (.cells #[.int .i64 x102000_1, .int .i64 x102001_1, .string x102002_1, (.slice none 0 0)] 72 (0, 0))) ∧ Aside0 (Below w.heap.size w w'))
 case atStart => exact ⟨(a2), (0), (0), ((⟨#[]⟩ : ByteArray)), (by first | rfl | (simp; done) | (simp [*]; done)), H', ⟨Nat.le_refl _⟩, ⟨kX BK101.out⟩, ⟨bX HB.out⟩⟩
 case round =>
  clear H'
  try clear p2
  obtain ⟨x7_1, x102000_1, x102001_1, x102002_1, rfl, HA, HK1, BK101, HB⟩ := hrel
  cases gk with
  | zero => exact absurd HA.out (by simp [impl_prepared.l0])
  | succ k1 =>
   have H := HA.out
   clear HA
   simp only [impl_prepared.l0] at H
   by_cases c5 : x7_1 ≥ 0
   ·
    rw [if_pos c5] at H
    have c5b0 : decide (0 ≤ x7_1) = true := decide_eq_true c5
    clear c5
    replace H := Option.bind_eq_some_iff.mp H
    obtain ⟨⟨t102, t103, t104, t105⟩, A60, H⟩ := H
    try dsimp only at H
    have A6 := AM A60
    clear A60
    by_cases c7 : t103 = 0
    ·
     rw [if_pos c7] at H
     have c7b0 : (t103 == 0) = true := beq_iff_eq.mpr c7
     have c7b1 : (t103 != 0) = false := bne_eq_false_iff_eq.mpr c7
     clear c7
     have H' := AM H
     clear H
     go_wp2_with (first | ((with_reducible refine gate_callee (f := 69) rfl ?_); refine goesL_ (some 17) rfl rfl Try.func69 (by kernel_rfl) rfl #[.slice A0 l0.length c0, .int .i64 x7_1, .int .i64 a1] rfl (by (try simp only [mA, mB, mC]); first | done | rfl | (simp only [mD, mE]; rfl)) ?_; (with_reducible refine (impl_provedIn.calls k1 _ _ l0 x7_1 a1 t102 t103 t104 t105 _ ?side1 ?side2 A6.out).mono ?_); (case side1 => repeat (first | exact (cB HR0.out HB.out) | (with_reducible first | apply cA | apply cN | apply cD))); (case side2 => exact HC0.out); rintro e w8 ⟨v106, rfl, ho0, hb⟩; refine ⟨_, rfl, ?_⟩; have _ := AM (Kd.R_lower ho0 (bZ (bX HB.out))); have _ := AM (nB BK101.out hb); have _ := AM (below_step (bX HB.out) hb); clear BK101 HB; rename_i HO107 BK101 HB; (try clear hb); (try clear hk); (try clear ho0)) | ((with_reducible refine gate_dst (N := 8) rfl ?_); refine box_event (by rfl) (N := 8) (by rfl) (cs := #[.int .i64 0, .int .i64 0, .string (⟨#[]⟩ : ByteArray), .slice none 0 0]) (t := 72) (by first | (go_simp; done) | (go_simp; rfl)) ?_; intro gb108 hg w9 hbox hb; have _ := AM (Kd.R_below (rX HO107.out) hb); have _ := AM (nB BK101.out hb); have _ := AM (below_step (bX HB.out) hb); have _ := AM (hbox); have n4_ := AM ((by rw [hg]; exact (bZ (bX HB.out)) : w.heap.size ≤ gb108)); have _ := AM (lX hg BK101.out); have _ := AM (lX hg BK101.out).symm; clear HO107 BK101 HB; rename_i HO107 BK101 HB BK108 NB101_108 NB108_101; have GW108 := n4_; have GE108 := n4_; clear n4_; clear hb hbox hg; have hnb10 := NB108_101.out; have hnc10 := NB101_108.out; have hcz11 := q4 BK108.out; have hfz11 := fZ BK108.out; obtain ⟨Ao12, co12, eo12⟩ := Kd.R_slice HO107.out; subst eo12))
     go_roundg k1
     case measure => have := HK1.out; omega
     case rel => exact ⟨(wrap64 (x7_1 - 1)), (x102000_1), (x102001_1), (x102002_1), (by first | rfl | (simp; done) | (simp [*]; done)), H', ⟨by have := HK1.out; omega⟩, ⟨by (iterate 4 refine kF NB101_108.out ?_); (with_reducible repeat (first | apply kN | apply kD | apply kA)); exact BK101.out⟩, ⟨bX HB.out⟩⟩
    rw [if_neg c7] at H
    have c7b0 : (t103 == 0) = false := beq_eq_false_iff_ne.mpr c7
    have c7b1 : (t103 != 0) = true := bne_iff_ne.mpr c7
    simp only [Option.some.injEq, Prod.mk.injEq] at H
    obtain ⟨rfl, rfl, rfl, rfl⟩ := H
    go_wp2_with (first | ((with_reducible refine gate_callee (f := 69) rfl ?_); refine goesL_ (some 17) rfl rfl Try.func69 (by kernel_rfl) rfl #[.slice A0 l0.length c0, .int .i64 x7_1, .int .i64 a1] rfl (by (try simp only [mA, mB, mC]); first | done | rfl | (simp only [mD, mE]; rfl)) ?_; (with_reducible refine (impl_provedIn.calls k1 _ _ l0 x7_1 a1 t102 t103 t104 t105 _ ?side1 ?side2 A6.out).mono ?_); (case side1 => repeat (first | exact (cB HR0.out HB.out) | (with_reducible first | apply cA | apply cN | apply cD))); (case side2 => exact HC0.out); rintro e w13 ⟨v106, rfl, ho0, hb⟩; refine ⟨_, rfl, ?_⟩; have _ := AM (Kd.R_lower ho0 (bZ (bX HB.out))); have _ := AM (nB BK101.out hb); have _ := AM (below_step (bX HB.out) hb); clear BK101 HB; rename_i HO107 BK101 HB; (try clear hb); (try clear hk); (try clear ho0)) | ((with_reducible refine gate_dst (N := 8) rfl ?_); refine box_event (by rfl) (N := 8) (by rfl) (cs := #[.int .i64 0, .int .i64 0, .string (⟨#[]⟩ : ByteArray), .slice none 0 0]) (t := 72) (by first | (go_simp; done) | (go_simp; rfl)) ?_; intro gb108 hg w14 hbox hb; have _ := AM (Kd.R_below (rX HO107.out) hb); have _ := AM (nB BK101.out hb); have _ := AM (below_step (bX HB.out) hb); have _ := AM (hbox); have n4_ := AM ((by rw [hg]; exact (bZ (bX HB.out)) : w.heap.size ≤ gb108)); have _ := AM (lX hg BK101.out); have _ := AM (lX hg BK101.out).symm; clear HO107 BK101 HB; rename_i HO107 BK101 HB BK108 NB101_108 NB108_101; have GW108 := n4_; have GE108 := n4_; clear n4_; clear hb hbox hg; have hnb15 := NB108_101.out; have hnc15 := NB101_108.out; have hcz16 := q4 BK108.out; have hfz16 := fZ BK108.out; obtain ⟨Ao17, co17, eo17⟩ := Kd.R_slice HO107.out; subst eo17; have hcz18 := q4 BK101.out; have hfz18 := fZ BK101.out))
    refine bodyPost_ret (results_cell_row rfl _ _ gb101 72 #[.int .i64 t102, .int .i64 t103, .string t104, .slice Ao17 t105.length co17] (0, 0) _ rfl (by refine kP (cs := #[.int .i64 t102, .int .i64 t103, .string t104, .slice none 0 0]) 3 ?_; refine kP (cs := #[.int .i64 t102, .int .i64 t103, .string x102002_1, .slice none 0 0]) 2 ?_; refine kP (cs := #[.int .i64 t102, .int .i64 x102001_1, .string x102002_1, .slice none 0 0]) 1 ?_; refine kP (cs := #[.int .i64 x102000_1, .int .i64 x102001_1, .string x102002_1, .slice none 0 0]) 0 ?_; (iterate 4 refine kF NB101_108.out ?_); (with_reducible repeat (first | apply kN | apply kD | apply kA)); exact BK101.out) Try.underlying72 rfl (by kernel_rfl)) rfl ?_
    exact ⟨_, by first | rfl | (simp [*, errW_none, errW_some] <;> rfl), by (with_reducible repeat (first | apply rA | apply rN | apply rD)); exact Kd.R_mono (Kd.R_far (p := ⟨gb101, 3, none⟩) (Kd.R_far (p := ⟨gb101, 2, none⟩) (Kd.R_far (p := ⟨gb101, 1, none⟩) (Kd.R_far (p := ⟨gb101, 0, none⟩) (Kd.R_far (p := ⟨gb108, 3, none⟩) (Kd.R_far (p := ⟨gb108, 2, none⟩) (Kd.R_far (p := ⟨gb108, 1, none⟩) (Kd.R_far (p := ⟨gb108, 0, none⟩) (Kd.R_types (Kd.R_types HO107.out BK108.out (by decide)) BK101.out (by decide)) (fun _ hk => hk.1.2) (.int .i64 t102)) (fun _ hk => hk.1.2) (.int .i64 t103)) (fun _ hk => hk.1.2) (.string t104)) (fun _ hk => hk.1.2) (.slice Ao17 t105.length co17)) (fun _ hk => hk.2) (.int .i64 t102)) (fun _ hk => hk.2) (.int .i64 t103)) (fun _ hk => hk.2) (.string t104)) (fun _ hk => hk.2) (.slice Ao17 t105.length co17)) (fun _ hk => trivial), bX HB.out⟩
   rw [if_neg c5] at H
   have c5b0 : decide (0 ≤ x7_1) = false := decide_eq_false c5
   clear c5
   simp only [Option.some.injEq, Prod.mk.injEq] at H
   obtain ⟨rfl, rfl, rfl, rfl⟩ := H
   have hcz19 := q4 BK101.out
   have hfz19 := fZ BK101.out
   go_wp2
   refine bodyPost_ret (results_cell_row rfl _ _ gb101 72 #[.int .i64 0, .int .i64 0, .string (⟨#[]⟩ : ByteArray), .slice none 0 0] (0, 0) _ rfl (by refine kP (cs := #[.int .i64 0, .int .i64 0, .string (⟨#[]⟩ : ByteArray), .slice none 0 0]) 3 ?_; refine kP (cs := #[.int .i64 0, .int .i64 0, .string x102002_1, .slice none 0 0]) 2 ?_; refine kP (cs := #[.int .i64 0, .int .i64 x102001_1, .string x102002_1, .slice none 0 0]) 1 ?_; refine kP (cs := #[.int .i64 x102000_1, .int .i64 x102001_1, .string x102002_1, .slice none 0 0]) 0 ?_; (with_reducible repeat (first | apply kN | apply kD | apply kA)); exact BK101.out) Try.underlying72 rfl (by kernel_rfl)) rfl ?_
   exact ⟨_, by first | rfl | (simp [*, errW_none, errW_some] <;> rfl), by first | exact Kd.R_nil _ _ _ _ _ | exact Kd.N_nil _ _ _ _ _ | exact Kd.V_nil _ _ _ _ _ | exact Kd.Q_nil _ _ _ _ _ | exact Kd.S_nil _ _ _ _ _, bX HB.out⟩

/-! ### impl_changeOf: function 32 -/

def impl_changeOf.l0 : Nat → List (S52) → Int → Int → Int → Int → List (S72) → Option (Int × Int × (List (S72)))
  | 0, _, _, _, _, _, _ => none
  | k + 1, x0, x2, x8, x103000, x103001, x103002 => if x8 ≤ 6 then ((impl_prepared.f k x0 x8 (wrap64 (x2 - 1))).bind fun bt103 => (if bt103.2.1 = 0 then (impl_changeOf.l0 k x0 x2 (wrap64 (x8 + 1)) x103000 x103001 x103002) else (if x103002.length < 2513169434916 then (impl_changeOf.l0 k x0 x2 (wrap64 (x8 + 1)) x103000 x103001 (x103002 ++ [(⟨bt103.1, bt103.2.1, bt103.2.2.1, bt103.2.2.2⟩ : S72)])) else (none)))) else (some (x103000, x103001, x103002))
def impl_changeOf.f (k : Nat) (l0 : List (S52)) (a1 : Int) (a2 : Int) : Option (Int × Int × (List (S72))) := impl_changeOf.l0 k l0 a2 1 a1 a2 ([] : List (S72))
theorem impl_changeOf.mono_l : ∀ k, (∀ y0 y1 y2 y3 y4 y5, LeO (impl_changeOf.l0 k y0 y1 y2 y3 y4 y5) (impl_changeOf.l0 (k + 1) y0 y1 y2 y3 y4 y5))
  | 0 => fun _ _ _ _ _ _ r h => by simp [impl_changeOf.l0] at h
  | k + 1 => by
    have ih0 := impl_changeOf.mono_l k
    · intro y0 y1 y2 y3 y4 y5
      unfold impl_changeOf.l0
      repeat' first
      | (with_reducible exact ih0 _ _ _ _ _ _)
      | (with_reducible exact impl_prepared.mono _ _ _ _)
      | (with_reducible exact LeO.refl _)
      | (with_reducible exact LeO.none _)
      | (with_reducible refine LeO.ite ?_ ?_)
      | (with_reducible refine LeO.bind ?_ (fun _ => ?_))
      | exact ih0 _ _ _ _ _ _
      | exact impl_prepared.mono _ _ _ _
      | exact LeO.none _
      | refine LeO.ite ?_ ?_
      | refine LeO.bind ?_ (fun _ => ?_)
theorem impl_changeOf.mono : ∀ a0 a1 a2 k, LeO (impl_changeOf.f k a0 a1 a2) (impl_changeOf.f (k + 1) a0 a1 a2) := by
  intro a0 a1 a2 k
  have ih0 := impl_changeOf.mono_l k
  unfold impl_changeOf.f
  repeat' first
      | (with_reducible exact ih0 _ _ _ _ _ _)
      | (with_reducible exact impl_prepared.mono _ _ _ _)
      | (with_reducible exact LeO.refl _)
      | (with_reducible exact LeO.none _)
      | (with_reducible refine LeO.ite ?_ ?_)
      | (with_reducible refine LeO.bind ?_ (fun _ => ?_))
      | exact ih0 _ _ _ _ _ _
      | exact impl_prepared.mono _ _ _ _
      | exact LeO.none _
      | refine LeO.ite ?_ ?_
      | refine LeO.bind ?_ (fun _ => ?_)
set_option maxHeartbeats 60000000 in
set_option maxRecDepth 100000 in
theorem impl_changeOf.calls (k : Nat) (A0 : Option Addr) (c0 : Nat) (l0 : List (S52)) (a1 : Int) (a2 : Int) (r1 : Int) (r2 : Int) (r3 : List (S72)) (w : World) (hr0 : Kd.C k52 w A0 l0.length l0) (hc0 : l0.length ≤ c0) (h : impl_changeOf.f k l0 a1 a2 = some (r1, r2, r3)) :
    Calls Try.prog 32 #[.slice A0 l0.length c0, .int .i64 a1, .int .i64 a2] w fun e w' => ∃ v2_ : Value, e = .returned (.agg #[.int .i64 r1, .int .i64 r2, v2_]) ∧ Kd.S k72 72 w' w.heap.size (fun _ => True) v2_ r3 ∧ Below w.heap.size w w' := by
 have hu26 := Try.underlying26
 have hu72 := Try.underlying72
 have HR0 := AM hr0
 have HC0 := AM hc0
 clear hr0 hc0
 have HB := AM (Below.refl w.heap.size w)
 have H : (impl_changeOf.l0 k l0 a2 1 a1 a2 ([] : List (S72))) = some (r1, r2, r3) := h
 clear h
 have H' := AM H
 clear H
 go_enter Try.func32, Try.ntmps32
 go_wp2_with (first | ((with_reducible refine gate_dst (N := 6) rfl ?_); refine box_event (by rfl) (N := 6) (by rfl) (cs := #[.int .i64 0, .int .i64 0, .slice none 0 0]) (t := 26) (by first | (go_simp; done) | (go_simp; rfl)) ?_; intro gb101 hg w4 hbox hb; have _ := AM (below_step (bX HB.out) hb); have _ := AM (hbox); have n2_ := AM ((by rw [hg]; exact (bZ (bX HB.out)) : w.heap.size ≤ gb101)); clear HB; rename_i HB BK101; have GW101 := n2_; have GE101 := n2_; clear n2_; clear hb hbox hg) | ((with_reducible refine gate_dst (N := 7) rfl ?_); refine box_event (by rfl) (N := 7) (by rfl) (cs := #[.int .i64 0, .int .i64 0, .slice none 0 0]) (t := 26) (by first | (go_simp; done) | (go_simp; rfl)) ?_; intro gb102 hg w5 hbox hb; have _ := AM (nB BK101.out hb); have _ := AM (below_step (bX HB.out) hb); have _ := AM (hbox); have n3_ := AM ((by rw [hg]; exact (bZ (bX HB.out)) : w.heap.size ≤ gb102)); have _ := AM (lX hg BK101.out); have _ := AM (lX hg BK101.out).symm; clear BK101 HB; rename_i BK101 HB BK102 NB101_102 NB102_101; have GW102 := n3_; have GE102 := n3_; clear n3_; clear hb hbox hg; have hnb6 := NB102_101.out; have hnc6 := NB101_102.out; have hcz7 := q3 BK102.out; have hfz7 := fZ BK102.out))
 go_loopg [8] k (fun kq v8 w' => ∃ (x8_1 : Int) (x103002_1 : List (S72)) (u103002 : Value), v8 = .int .i64 x8_1 ∧ Aside0 (impl_changeOf.l0 kq l0 a2 x8_1 a1 a2 x103002_1 = some (r1, r2, r3)) ∧ Aside0 (kq ≤ k) ∧ Aside0 (Kd.S k72 72 w' w.heap.size (fun _ => True) u103002 x103002_1) ∧ Aside0 (w'.heap[gb101]? = some (.cells #[.int .i64 0, .int .i64 0, (.slice none 0 0)] 26 (0, 0))) ∧ Aside0 (w'.heap[gb102]? = some (.cells #[.int .i64 a1, .int .i64 a2, u103002] 26 (0, 0))) ∧ Aside0 (Below w.heap.size w w'))
 case atStart => exact ⟨(1), (([] : List (S72))), (.slice none 0 0), (by first | rfl | (simp; done) | (simp [*]; done)), H', ⟨Nat.le_refl _⟩, ⟨by first | exact Kd.S_nil _ _ _ _ _ | exact Kd.N_nil _ _ _ _ _ | exact Kd.V_nil _ _ _ _ _ | exact Kd.Q_nil _ _ _ _ _ | exact Kd.R_nil _ _ _ _ _⟩, ⟨by (iterate 3 refine kF NB101_102.out ?_); (with_reducible repeat (first | apply kN | apply kD | apply kA)); exact BK101.out⟩, ⟨by refine kP (cs := #[.int .i64 a1, .int .i64 a2, .slice none 0 0]) 2 ?_; refine kP (cs := #[.int .i64 a1, .int .i64 0, .slice none 0 0]) 1 ?_; refine kP (cs := #[.int .i64 0, .int .i64 0, .slice none 0 0]) 0 ?_; (with_reducible repeat (first | apply kN | apply kD | apply kA)); exact BK102.out⟩, ⟨bX HB.out⟩⟩
 case round =>
  clear H'
  (try clear p2); (try clear c3); (try clear c6); (try clear hcz7); (try clear hfz7)
  obtain ⟨x8_1, x103002_1, u103002, rfl, HA, HK1, HO_103002, BK101, BK102, HB⟩ := hrel
  cases gk with
  | zero => exact absurd HA.out (by simp [impl_changeOf.l0])
  | succ k1 =>
   have H := HA.out
   clear HA
   simp only [impl_changeOf.l0] at H
   by_cases c8 : x8_1 ≤ 6
   ·
    rw [if_pos c8] at H
    have c8b0 : decide (x8_1 ≤ 6) = true := decide_eq_true c8
    clear c8
    replace H := Option.bind_eq_some_iff.mp H
    obtain ⟨⟨t103, t104, t105, t106⟩, A90, H⟩ := H
    try dsimp only at H
    have A9 := AM A90
    clear A90
    by_cases c10 : t104 = 0
    ·
     rw [if_pos c10] at H
     have c10b0 : (t104 == 0) = true := beq_iff_eq.mpr c10
     have c10b1 : (t104 != 0) = false := bne_eq_false_iff_eq.mpr c10
     clear c10
     have H' := AM H
     clear H
     go_wp2_with (first | ((with_reducible refine gate_callee (f := 51) rfl ?_); refine goesL_ (some 21) rfl rfl Try.func51 (by kernel_rfl) rfl #[.slice A0 l0.length c0, .int .i64 x8_1, .int .i64 (wrap64 (a2 - 1))] rfl (by (try simp only [mA, mB, mC]); first | done | rfl | (simp only [mD, mE]; rfl)) ?_; (with_reducible refine (impl_prepared.calls k1 _ _ l0 x8_1 (wrap64 (a2 - 1)) t103 t104 t105 t106 _ ?side1 ?side2 A9.out).mono ?_); (case side1 => repeat (first | exact (cB HR0.out HB.out) | (with_reducible first | apply cA | apply cN | apply cD))); (case side2 => exact HC0.out); rintro e w11 ⟨v107, rfl, ho0, hb⟩; refine ⟨_, rfl, ?_⟩; have _ := AM (Kd.S_elder' (by (with_reducible repeat (first | apply Kd.S_alloc | apply Kd.S_drewN | apply Kd.S_drew)); exact HO_103002.out) (Kd.R_base ho0) hb); have _ := AM (Kd.R_lower ho0 (bZ (bX HB.out))); have _ := AM (nB BK101.out hb); have _ := AM (nB BK102.out hb); have _ := AM (below_step (bX HB.out) hb); clear HO_103002 BK101 BK102 HB; rename_i HO_103002 HO108 BK101 BK102 HB; (try clear hb); (try clear hk); (try clear ho0)) | ((with_reducible refine gate_dst (N := 9) rfl ?_); refine box_event (by rfl) (N := 9) (by rfl) (cs := #[.int .i64 0, .int .i64 0, .string (⟨#[]⟩ : ByteArray), .slice none 0 0]) (t := 72) (by first | (go_simp; done) | (go_simp; rfl)) ?_; intro gb109 hg w12 hbox hb; have _ := AM (Kd.S_below (Kd.S_elderB (by (with_reducible repeat (first | apply Kd.S_alloc | apply Kd.S_drewN | apply Kd.S_drew)); exact HO_103002.out) gb109 (Nat.le_of_eq hg.symm)) hb); have _ := AM (Kd.R_below (rX HO108.out) hb); have _ := AM (nB BK101.out hb); have _ := AM (nB BK102.out hb); have _ := AM (below_step (bX HB.out) hb); have _ := AM (hbox); have n6_ := AM ((by rw [hg]; exact (bZ (bX HB.out)) : w.heap.size ≤ gb109)); have _ := AM (lX hg BK101.out); have _ := AM (lX hg BK101.out).symm; have _ := AM (lX hg BK102.out); have _ := AM (lX hg BK102.out).symm; clear HO_103002 HO108 BK101 BK102 HB; rename_i HO_103002 HO108 BK101 BK102 HB BK109 NB101_109 NB109_101 NB102_109 NB109_102; have GW109 := n6_; have GE109 := n6_; clear n6_; clear hb hbox hg; have hnb13 := NB109_101.out; have hnc13 := NB101_109.out; have hnb14 := NB109_102.out; have hnc14 := NB102_109.out; have hcz15 := q4 BK109.out; have hfz15 := fZ BK109.out; obtain ⟨Ao16, co16, eo16⟩ := Kd.R_slice HO108.out; subst eo16))
     go_roundg k1
     case measure => have := HK1.out; omega
     case rel => exact ⟨(wrap64 (x8_1 + 1)), (x103002_1), (u103002), (by first | rfl | (simp; done) | (simp [*]; done)), H', ⟨by have := HK1.out; omega⟩, ⟨by (with_reducible repeat (first | apply Kd.S_alloc | apply Kd.S_drewN | apply Kd.S_drew)); exact Kd.S_mono (Kd.S_far (p := ⟨gb109, 3, none⟩) (Kd.S_far (p := ⟨gb109, 2, none⟩) (Kd.S_far (p := ⟨gb109, 1, none⟩) (Kd.S_far (p := ⟨gb109, 0, none⟩) (Kd.S_mono HO_103002.out (fun k_ hk => (⟨hk, hk.2⟩ : _ ∧ k_ ≠ gb109))) (fun _ hk => hk.2) (.int .i64 t103)) (fun _ hk => hk.2) (.int .i64 t104)) (fun _ hk => hk.2) (.string t105)) (fun _ hk => hk.2) (.slice Ao16 t106.length co16)) (fun _ hk => trivial)⟩, ⟨by (iterate 4 refine kF NB101_109.out ?_); (with_reducible repeat (first | apply kN | apply kD | apply kA)); exact BK101.out⟩, ⟨by (iterate 4 refine kF NB102_109.out ?_); (with_reducible repeat (first | apply kN | apply kD | apply kA)); exact BK102.out⟩, ⟨bX HB.out⟩⟩
    rw [if_neg c10] at H
    have c10b0 : (t104 == 0) = false := beq_eq_false_iff_ne.mpr c10
    have c10b1 : (t104 != 0) = true := bne_iff_ne.mpr c10
    by_cases c17 : x103002_1.length < 2513169434916
    ·
     rw [if_pos c17] at H
     have LMc17 := AM c17
     clear c17
     obtain ⟨y110, hy110⟩ : ∃ y_ : List (S72), y_ = (x103002_1 ++ [(⟨t103, t104, t105, t106⟩ : S72)]) := ⟨_, rfl⟩
     replace H : (impl_changeOf.l0 k1 l0 a2 (wrap64 (x8_1 + 1)) a1 a2 y110) = some (r1, r2, r3) := by first | (rw [hy110]; with_reducible exact H) | (have H2_ := (Option.bind_some _ _).symm.trans H; rw [hy110]; with_reducible exact H2_) | (have H2_ := (Option.bind_some _ _).symm.trans H; with_reducible exact H2_) | with_reducible exact H | (rw [hy110]; exact H) | exact H
     have Ny110 := AM hy110
     clear hy110
     have H' := AM H
     clear H
     go_wp2_with (first | ((with_reducible refine gate_callee (f := 51) rfl ?_); refine goesL_ (some 21) rfl rfl Try.func51 (by kernel_rfl) rfl #[.slice A0 l0.length c0, .int .i64 x8_1, .int .i64 (wrap64 (a2 - 1))] rfl (by (try simp only [mA, mB, mC]); first | done | rfl | (simp only [mD, mE]; rfl)) ?_; (with_reducible refine (impl_prepared.calls k1 _ _ l0 x8_1 (wrap64 (a2 - 1)) t103 t104 t105 t106 _ ?side1 ?side2 A9.out).mono ?_); (case side1 => repeat (first | exact (cB HR0.out HB.out) | (with_reducible first | apply cA | apply cN | apply cD))); (case side2 => exact HC0.out); rintro e w18 ⟨v107, rfl, ho0, hb⟩; refine ⟨_, rfl, ?_⟩; have _ := AM (Kd.S_elder' (by (with_reducible repeat (first | apply Kd.S_alloc | apply Kd.S_drewN | apply Kd.S_drew)); exact HO_103002.out) (Kd.R_base ho0) hb); have _ := AM (Kd.R_lower ho0 (bZ (bX HB.out))); have _ := AM (nB BK101.out hb); have _ := AM (nB BK102.out hb); have _ := AM (below_step (bX HB.out) hb); clear HO_103002 BK101 BK102 HB; rename_i HO_103002 HO108 BK101 BK102 HB; (try clear hb); (try clear hk); (try clear ho0)) | ((with_reducible refine gate_dst (N := 9) rfl ?_); refine box_event (by rfl) (N := 9) (by rfl) (cs := #[.int .i64 0, .int .i64 0, .string (⟨#[]⟩ : ByteArray), .slice none 0 0]) (t := 72) (by first | (go_simp; done) | (go_simp; rfl)) ?_; intro gb109 hg w19 hbox hb; have _ := AM (Kd.S_below (Kd.S_elderB (by (with_reducible repeat (first | apply Kd.S_alloc | apply Kd.S_drewN | apply Kd.S_drew)); exact HO_103002.out) gb109 (Nat.le_of_eq hg.symm)) hb); have _ := AM (Kd.R_below (rX HO108.out) hb); have _ := AM (nB BK101.out hb); have _ := AM (nB BK102.out hb); have _ := AM (below_step (bX HB.out) hb); have _ := AM (hbox); have n6_ := AM ((by rw [hg]; exact (bZ (bX HB.out)) : w.heap.size ≤ gb109)); have _ := AM (lX hg BK101.out); have _ := AM (lX hg BK101.out).symm; have _ := AM (lX hg BK102.out); have _ := AM (lX hg BK102.out).symm; clear HO_103002 HO108 BK101 BK102 HB; rename_i HO_103002 HO108 BK101 BK102 HB BK109 NB101_109 NB109_101 NB102_109 NB109_102; have GW109 := n6_; have GE109 := n6_; clear n6_; clear hb hbox hg; have hnb20 := NB109_101.out; have hnc20 := NB101_109.out; have hnb21 := NB109_102.out; have hnc21 := NB102_109.out; have hcz22 := q4 BK109.out; have hfz22 := fZ BK109.out; obtain ⟨Ao23, co23, eo23⟩ := Kd.R_slice HO108.out; subst eo23) | ((with_reducible refine gate_store (t := 72) (p := 9) rfl ?_); refine store_event (t := 72) (p := 9) (v := ?vo_w24) (w1 := ((((w19.setCell ⟨gb109, 0, none⟩ (.int .i64 t103)).setCell ⟨gb109, 1, none⟩ (.int .i64 t104)).setCell ⟨gb109, 2, none⟩ (.string t105)).setCell ⟨gb109, 3, none⟩ (.slice Ao23 t106.length co23))) ?hg ?ho ?hn ?hr ?_; (case ho => rfl); (case hg => rfl); (case hn => rfl); (case hr => first | (go_simp; done) | (go_simp; rfl)); intro w24 hw; have _ : Aside0 (Kd.S k72 72 w24 w.heap.size (fun k_ => some k_ ≠ (.slice Ao23 t106.length co23 : Value).ownBlock ∧ k_ ≠ gb109) u103002 x103002_1) := ⟨(by rw [hw]; exact (by (with_reducible repeat (first | apply Kd.S_alloc | apply Kd.S_drewN | apply Kd.S_drew)); exact Kd.S_mono (Kd.S_far (p := ⟨gb109, 3, none⟩) (Kd.S_far (p := ⟨gb109, 2, none⟩) (Kd.S_far (p := ⟨gb109, 1, none⟩) (Kd.S_far (p := ⟨gb109, 0, none⟩) (Kd.S_mono HO_103002.out (fun k_ hk => (⟨hk, hk.2⟩ : _ ∧ k_ ≠ gb109))) (fun _ hk => hk.2) (.int .i64 t103)) (fun _ hk => hk.2) (.int .i64 t104)) (fun _ hk => hk.2) (.string t105)) (fun _ hk => hk.2) (.slice Ao23 t106.length co23)) (fun _ hk => ⟨hk.1.1.2, hk.1.2⟩)))⟩; have _ : Aside0 (Kd.R (Kd.int .i64) 2 w24 w.heap.size (fun _ => True) (.slice Ao23 t106.length co23) t106) := ⟨(by rw [hw]; exact (by (with_reducible repeat (first | apply rA | apply rN | apply rD)); exact Rf4 HO108.out BK109.out (by decide) (fun _ hk => trivial)))⟩; have _ : Aside0 (w24.heap[gb101]? = some (.cells #[.int .i64 0, .int .i64 0, .slice none 0 0] 26 (0, 0))) := ⟨(by rw [hw]; exact (by (iterate 4 refine kF NB101_109.out ?_); (with_reducible repeat (first | apply kN | apply kD | apply kA)); exact BK101.out))⟩; have _ : Aside0 (w24.heap[gb102]? = some (.cells #[.int .i64 a1, .int .i64 a2, u103002] 26 (0, 0))) := ⟨(by rw [hw]; exact (by (iterate 4 refine kF NB102_109.out ?_); (with_reducible repeat (first | apply kN | apply kD | apply kA)); exact BK102.out))⟩; have _ : Aside0 (w24.heap[gb109]? = some (.cells #[.int .i64 t103, .int .i64 t104, .string t105, .slice Ao23 t106.length co23] 72 (0, 0))) := ⟨(by rw [hw]; exact (by refine kP (cs := #[.int .i64 t103, .int .i64 t104, .string t105, .slice none 0 0]) 3 ?_; refine kP (cs := #[.int .i64 t103, .int .i64 t104, .string (⟨#[]⟩ : ByteArray), .slice none 0 0]) 2 ?_; refine kP (cs := #[.int .i64 t103, .int .i64 0, .string (⟨#[]⟩ : ByteArray), .slice none 0 0]) 1 ?_; refine kP (cs := #[.int .i64 0, .int .i64 0, .string (⟨#[]⟩ : ByteArray), .slice none 0 0]) 0 ?_; (with_reducible repeat (first | apply kN | apply kD | apply kA)); exact BK109.out))⟩; have _ : Aside0 (Below w.heap.size w w24) := ⟨(by rw [hw]; exact (bX HB.out))⟩; clear hw HO_103002 HO108 BK101 BK102 BK109 HB; rename_i HO_103002 HO108 BK101 BK102 BK109 HB; have hcz25 := q4 BK109.out; have hfz25 := fZ BK109.out; have hnb26 := NB102_101.out; have hnc26 := NB101_102.out; have hcz27 := q3 BK102.out; have hfz27 := fZ BK102.out) | ((with_reducible refine gate_builtin (b := .append) (xs := #[.tmp 26, .tmp 28]) rfl ?_); at_builtin; refine Kd.S_append k72 (w0 := w) w.heap.size rfl (.tmp 26) (.tmp 28) 24 72 (.agg #[(.int .i64 0), (.int .i64 0), (.string ⟨#[]⟩), (.slice none 0 0)]) 56 rfl Try.underlying24 info72 rfl (by decide) (by omega) u103002 x103002_1 (⟨t103, t104, t105, t106⟩ : S72) [.int .i64 t103, .int .i64 t104, .string t105, .slice Ao23 t106.length co23] (fun k_ => k_ ≠ gb109) (fun k_ => some k_ = (.slice Ao23 t106.length co23 : Value).ownBlock) rfl rfl ?aP (fun k_ hk_ => ((Kd.R_mono (ok' := fun k_ => ((fun k_ => k_ ≠ gb109)) k_ ∧ some k_ ≠ (u103002 : Value).ownBlock) (Kd.R_types (Kd.R_apart' (HO108.out) (Kd.S_typed HO_103002.out) (by decide)) BK109.out (by decide)) (fun k_ hk => ⟨hk.2, hk.1.2⟩))).1 k_ hk_.symm) ?aF ?aO ?aB ?aS ?aL ?_; (case aP => exact k72_mkM _ _ _ (⟨t103, t104, t105, t106⟩ : S72) (Kd.R_mono (Kd.R_tight rfl (Kd.R_mono (ok' := fun k_ => ((fun k_ => k_ ≠ gb109)) k_ ∧ some k_ ≠ (u103002 : Value).ownBlock) (Kd.R_types (Kd.R_apart' (HO108.out) (Kd.S_typed HO_103002.out) (by decide)) BK109.out (by decide)) (fun k_ hk => ⟨hk.2, hk.1.2⟩))) (fun _ h_ => h_))); (case aB => exact (bX HB.out)); (case aF => exact (fun k_ hk => Kd.freshB (g := gb109) (o := .cells #[.int .i64 t103, .int .i64 t104, .string t105, .slice Ao23 t106.length co23] 72 (0, 0)) (kX BK109.out) k_ hk)); (case aO => exact (by (with_reducible repeat (first | apply Kd.S_alloc | apply Kd.S_drewN | apply Kd.S_drew)); exact Kd.S_mono HO_103002.out (fun k_ hk => ⟨hk.2, fun e_ => hk.1 e_⟩))); (case aS => exact (bZ (bX HB.out))); (case aL => have := LMc17.out; omega); intro v111 w28 ho hb hg hat; rw [← Ny110.out] at ho; have _ := AM (blk_grown (g := gb101) (o := .cells #[.int .i64 0, .int .i64 0, .slice none 0 0] 26 (0, 0)) (kX BK101.out) hg (Kd.S_ne HO_103002.out BK101.out (by decide))); have _ := AM (blk_grown (g := gb102) (o := .cells #[.int .i64 a1, .int .i64 a2, u103002] 26 (0, 0)) (kX BK102.out) hg (Kd.S_ne HO_103002.out BK102.out (by decide))); have _ := AM (blk_grown (g := gb109) (o := .cells #[.int .i64 t103, .int .i64 t104, .string t105, .slice Ao23 t106.length co23] 72 (0, 0)) (kX BK109.out) hg (Kd.S_away HO_103002.out (fun _ hk => hk.2))); have _ := AM (hb); have _ := AM (ho); clear BK101 BK102 BK109 HB HO_103002 HO108; rename_i BK101 BK102 BK109 HB HO112; clear ho hb hg hat; obtain ⟨Ao29, co29, eo29⟩ := Kd.S_slice HO112.out; subst eo29; have hcz30 := q3 BK102.out; have hfz30 := fZ BK102.out))
     go_roundg k1
     case measure => have := HK1.out; omega
     case rel => exact ⟨(wrap64 (x8_1 + 1)), (y110), (.slice Ao29 y110.length co29), (by first | rfl | (simp; done) | (simp [*]; done)), H', ⟨by have := HK1.out; omega⟩, ⟨by (with_reducible repeat (first | apply Kd.S_alloc | apply Kd.S_drewN | apply Kd.S_drew)); exact Kd.S_mono (Kd.S_far (p := ⟨gb102, 2, none⟩) (Kd.S_types HO112.out BK102.out (by decide)) (fun _ hk => hk.2) (.slice Ao29 y110.length co29)) (fun _ hk => trivial)⟩, ⟨by refine kF NB101_102.out ?_; (with_reducible repeat (first | apply kN | apply kD | apply kA)); exact BK101.out⟩, ⟨by refine kP (cs := #[.int .i64 a1, .int .i64 a2, u103002]) 2 ?_; (with_reducible repeat (first | apply kN | apply kD | apply kA)); exact BK102.out⟩, ⟨bX HB.out⟩⟩
    rw [if_neg c17] at H
    exact absurd H (by simp)
   rw [if_neg c8] at H
   have c8b0 : decide (x8_1 ≤ 6) = false := decide_eq_false c8
   clear c8
   simp only [Option.some.injEq, Prod.mk.injEq] at H
   obtain ⟨rfl, rfl, rfl⟩ := H
   have hnb31 := NB102_101.out
   have hnc31 := NB101_102.out
   have hcz32 := q3 BK102.out
   have hfz32 := fZ BK102.out
   have hcz33 := q3 BK101.out
   have hfz33 := fZ BK101.out
   obtain ⟨Ao34, co34, eo34⟩ := Kd.S_slice HO_103002.out
   subst eo34
   go_wp2
   refine bodyPost_ret (results_cell_row rfl _ _ gb101 26 #[.int .i64 a1, .int .i64 a2, .slice Ao34 x103002_1.length co34] (0, 0) _ rfl (by refine kP (cs := #[.int .i64 a1, .int .i64 a2, .slice none 0 0]) 2 ?_; refine kP (cs := #[.int .i64 a1, .int .i64 0, .slice none 0 0]) 1 ?_; refine kP (cs := #[.int .i64 0, .int .i64 0, .slice none 0 0]) 0 ?_; (with_reducible repeat (first | apply kN | apply kD | apply kA)); exact BK101.out) Try.underlying26 rfl (by kernel_rfl)) rfl ?_
   exact ⟨_, by first | rfl | (simp [*, errW_none, errW_some] <;> rfl), by (with_reducible repeat (first | apply Kd.S_alloc | apply Kd.S_drewN | apply Kd.S_drew)); exact Kd.S_mono (Kd.S_far (p := ⟨gb101, 2, none⟩) (Kd.S_far (p := ⟨gb101, 1, none⟩) (Kd.S_far (p := ⟨gb101, 0, none⟩) (Kd.S_types HO_103002.out BK101.out (by decide)) (fun _ hk => hk.2) (.int .i64 a1)) (fun _ hk => hk.2) (.int .i64 a2)) (fun _ hk => hk.2) (.slice Ao34 x103002_1.length co34)) (fun _ hk => trivial), bX HB.out⟩

/-! ### impl_ChangeOf: function 8 -/

def impl_ChangeOf.f (k : Nat) (l0 : List (S52)) (a1 : Int) (a2 : Int) : Option (Int × Int × (List (S72))) := (impl_areVotes.f k l0).bind fun t102 => (if t102 = true then ((impl_isReplica.f a1).bind fun t103 => (if t103 = true then ((impl_isView.f a2 1).bind fun t104 => (if t104 = true then ((impl_changeOf.f k l0 a1 a2).bind fun bt105 => (some (bt105.1, bt105.2.1, bt105.2.2))) else (some (0, 0, ([] : List (S72)))))) else (some (0, 0, ([] : List (S72)))))) else (some (0, 0, ([] : List (S72)))))
theorem impl_ChangeOf.mono : ∀ a0 a1 a2 k, LeO (impl_ChangeOf.f k a0 a1 a2) (impl_ChangeOf.f (k + 1) a0 a1 a2) := by
  intro a0 a1 a2 k
  unfold impl_ChangeOf.f
  repeat' first
      | (with_reducible exact impl_areVotes.mono _ _)
      | (with_reducible exact impl_changeOf.mono _ _ _ _)
      | (with_reducible exact LeO.refl _)
      | (with_reducible exact LeO.none _)
      | (with_reducible refine LeO.ite ?_ ?_)
      | (with_reducible refine LeO.bind ?_ (fun _ => ?_))
      | exact impl_areVotes.mono _ _
      | exact impl_changeOf.mono _ _ _ _
      | exact LeO.none _
      | refine LeO.ite ?_ ?_
      | refine LeO.bind ?_ (fun _ => ?_)
set_option maxHeartbeats 60000000 in
set_option maxRecDepth 100000 in
theorem impl_ChangeOf.calls (k : Nat) (A0 : Option Addr) (c0 : Nat) (l0 : List (S52)) (a1 : Int) (a2 : Int) (r1 : Int) (r2 : Int) (r3 : List (S72)) (w : World) (hr0 : Kd.C k52 w A0 l0.length l0) (hc0 : l0.length ≤ c0) (h : impl_ChangeOf.f k l0 a1 a2 = some (r1, r2, r3)) :
    Calls Try.prog 8 #[.slice A0 l0.length c0, .int .i64 a1, .int .i64 a2] w fun e w' => ∃ v2_ : Value, e = .returned (.agg #[.int .i64 r1, .int .i64 r2, v2_]) ∧ Kd.S k72 72 w' w.heap.size (fun _ => True) v2_ r3 ∧ Below w.heap.size w w' := by
 have hu26 := Try.underlying26
 have HR0 := AM hr0
 have HC0 := AM hc0
 clear hr0 hc0
 have HB := AM (Below.refl w.heap.size w)
 have H : ((impl_areVotes.f k l0).bind fun t102 => (if t102 = true then ((impl_isReplica.f a1).bind fun t103 => (if t103 = true then ((impl_isView.f a2 1).bind fun t104 => (if t104 = true then ((impl_changeOf.f k l0 a1 a2).bind fun bt105 => (some (bt105.1, bt105.2.1, bt105.2.2))) else (some (0, 0, ([] : List (S72)))))) else (some (0, 0, ([] : List (S72)))))) else (some (0, 0, ([] : List (S72)))))) = some (r1, r2, r3) := h
 clear h
 replace H := Option.bind_eq_some_iff.mp H
 obtain ⟨t102, A40, H⟩ := H
 replace H : (if t102 = true then ((impl_isReplica.f a1).bind fun t103 => (if t103 = true then ((impl_isView.f a2 1).bind fun t104 => (if t104 = true then ((impl_changeOf.f k l0 a1 a2).bind fun bt105 => (some (bt105.1, bt105.2.1, bt105.2.2))) else (some (0, 0, ([] : List (S72)))))) else (some (0, 0, ([] : List (S72)))))) else (some (0, 0, ([] : List (S72))))) = some (r1, r2, r3) := H
 have A4 := AM A40
 clear A40
 by_cases c5 : t102 = true
 ·
  subst c5
  have H1 : ((impl_isReplica.f a1).bind fun t103 => (if t103 = true then ((impl_isView.f a2 1).bind fun t104 => (if t104 = true then ((impl_changeOf.f k l0 a1 a2).bind fun bt105 => (some (bt105.1, bt105.2.1, bt105.2.2))) else (some (0, 0, ([] : List (S72)))))) else (some (0, 0, ([] : List (S72)))))) = some (r1, r2, r3) := by rw [if_pos rfl] at H; exact H
  clear H
  have H := H1
  clear H1
  replace H := Option.bind_eq_some_iff.mp H
  obtain ⟨t103, A60, H⟩ := H
  replace H : (if t103 = true then ((impl_isView.f a2 1).bind fun t104 => (if t104 = true then ((impl_changeOf.f k l0 a1 a2).bind fun bt105 => (some (bt105.1, bt105.2.1, bt105.2.2))) else (some (0, 0, ([] : List (S72)))))) else (some (0, 0, ([] : List (S72))))) = some (r1, r2, r3) := H
  have A6 := AM A60
  clear A60
  by_cases c7 : t103 = true
  ·
   subst c7
   have H1 : ((impl_isView.f a2 1).bind fun t104 => (if t104 = true then ((impl_changeOf.f k l0 a1 a2).bind fun bt105 => (some (bt105.1, bt105.2.1, bt105.2.2))) else (some (0, 0, ([] : List (S72)))))) = some (r1, r2, r3) := by rw [if_pos rfl] at H; exact H
   clear H
   have H := H1
   clear H1
   replace H := Option.bind_eq_some_iff.mp H
   obtain ⟨t104, A80, H⟩ := H
   replace H : (if t104 = true then ((impl_changeOf.f k l0 a1 a2).bind fun bt105 => (some (bt105.1, bt105.2.1, bt105.2.2))) else (some (0, 0, ([] : List (S72))))) = some (r1, r2, r3) := H
   have A8 := AM A80
   clear A80
   by_cases c9 : t104 = true
   ·
    subst c9
    have H1 : ((impl_changeOf.f k l0 a1 a2).bind fun bt105 => (some (bt105.1, bt105.2.1, bt105.2.2))) = some (r1, r2, r3) := by rw [if_pos rfl] at H; exact H
    clear H
    have H := H1
    clear H1
    replace H := Option.bind_eq_some_iff.mp H
    obtain ⟨⟨t105, t106, t107⟩, A100, H⟩ := H
    try dsimp only at H
    have A10 := AM A100
    clear A100
    simp only [Option.some.injEq, Prod.mk.injEq] at H
    obtain ⟨rfl, rfl, rfl⟩ := H
    go_enter Try.func8, Try.ntmps8
    go_wp2_with (first | ((with_reducible refine gate_dst (N := 6) rfl ?_); refine box_event (by rfl) (N := 6) (by rfl) (cs := #[.int .i64 0, .int .i64 0, .slice none 0 0]) (t := 26) (by first | (go_simp; done) | (go_simp; rfl)) ?_; intro gb101 hg w11 hbox hb; have _ := AM (below_step (bX HB.out) hb); have _ := AM (hbox); have n2_ := AM ((by rw [hg]; exact (bZ (bX HB.out)) : w.heap.size ≤ gb101)); clear HB; rename_i HB BK101; have GW101 := n2_; have GE101 := n2_; clear n2_; clear hb hbox hg) | ((with_reducible refine gate_callee (f := 29) rfl ?_); refine goesL_ (some 8) rfl rfl Try.func29 (by kernel_rfl) rfl #[.slice A0 l0.length c0] rfl (by (try simp only [mA, mB, mC]); first | done | rfl | (simp only [mD, mE]; rfl)) ?_; (with_reducible refine (impl_areVotes.calls k _ _ l0 true _ ?side1 ?side2 A4.out).mono ?_); (case side1 => repeat (first | exact (cB HR0.out HB.out) | (with_reducible first | apply cA | apply cN | apply cD))); (case side2 => exact HC0.out); rintro e w12 ⟨rfl, hb⟩; refine ⟨_, rfl, ?_⟩; have _ := AM (nB BK101.out hb); have _ := AM (below_step (bX HB.out) hb); clear BK101 HB; rename_i BK101 HB; (try clear hb); (try clear hk)) | (go_at_call 30; (with_reducible refine (impl_isReplica.calls a1 true _ A6.out).mono ?_); rintro e w' ⟨rfl, ⟨nd, rfl⟩⟩; (try (rw [drewN_self w12]; generalize hq_ : World.drewN w12 _ = w12; have _ : Aside0 (w12.heap[gb101]? = some (.cells #[.int .i64 0, .int .i64 0, .slice none 0 0] 26 (0, 0))) := ⟨by rw [← hq_]; exact (kX BK101.out)⟩; have _ : Aside0 (Below w.heap.size w w12) := ⟨by rw [← hq_]; exact (bX HB.out)⟩; clear BK101 HB hq_; rename_i BK101 HB; have hczu101 := q3 BK101.out; have hfzu101 := fZ BK101.out))) | (go_at_call 31; (with_reducible refine (impl_isView.calls a2 1 true _ A8.out).mono ?_); rintro e w' ⟨rfl, ⟨nd, rfl⟩⟩; (try (rw [drewN_self w12]; generalize hq_ : World.drewN w12 _ = w12; have _ : Aside0 (w12.heap[gb101]? = some (.cells #[.int .i64 0, .int .i64 0, .slice none 0 0] 26 (0, 0))) := ⟨by rw [← hq_]; exact (kX BK101.out)⟩; have _ : Aside0 (Below w.heap.size w w12) := ⟨by rw [← hq_]; exact (bX HB.out)⟩; clear BK101 HB hq_; rename_i BK101 HB; have hczu101 := q3 BK101.out; have hfzu101 := fZ BK101.out))) | ((with_reducible refine gate_callee (f := 32) rfl ?_); refine goesL_ (some 24) rfl rfl Try.func32 (by kernel_rfl) rfl #[.slice A0 l0.length c0, .int .i64 a1, .int .i64 a2] rfl (by (try simp only [mA, mB, mC]); first | done | rfl | (simp only [mD, mE]; rfl)) ?_; (with_reducible refine (impl_changeOf.calls k _ _ l0 a1 a2 t105 t106 t107 _ ?side1 ?side2 A10.out).mono ?_); (case side1 => repeat (first | exact (cB HR0.out HB.out) | (with_reducible first | apply cA | apply cN | apply cD))); (case side2 => exact HC0.out); rintro e w13 ⟨v108, rfl, ho0, hb⟩; refine ⟨_, rfl, ?_⟩; have _ := AM (Kd.S_lower ho0 (bZ (bX HB.out))); have _ := AM (nB BK101.out hb); have _ := AM (below_step (bX HB.out) hb); clear BK101 HB; rename_i HO109 BK101 HB; (try clear hb); (try clear hk); (try clear ho0); have hcz14 := q3 BK101.out; have hfz14 := fZ BK101.out; obtain ⟨Ao15, co15, eo15⟩ := Kd.S_slice HO109.out; subst eo15))
    refine bodyPost_ret (results_cell_row rfl _ _ gb101 26 #[.int .i64 t105, .int .i64 t106, .slice Ao15 t107.length co15] (0, 0) _ rfl (by refine kP (cs := #[.int .i64 t105, .int .i64 t106, .slice none 0 0]) 2 ?_; refine kP (cs := #[.int .i64 t105, .int .i64 0, .slice none 0 0]) 1 ?_; refine kP (cs := #[.int .i64 0, .int .i64 0, .slice none 0 0]) 0 ?_; (with_reducible repeat (first | apply kN | apply kD | apply kA)); exact BK101.out) Try.underlying26 rfl (by kernel_rfl)) rfl ?_
    exact ⟨_, by first | rfl | (simp [*, errW_none, errW_some] <;> rfl), by (with_reducible repeat (first | apply Kd.S_alloc | apply Kd.S_drewN | apply Kd.S_drew)); exact Kd.S_mono (Kd.S_far (p := ⟨gb101, 2, none⟩) (Kd.S_far (p := ⟨gb101, 1, none⟩) (Kd.S_far (p := ⟨gb101, 0, none⟩) (Kd.S_types HO109.out BK101.out (by decide)) (fun _ hk => hk.2) (.int .i64 t105)) (fun _ hk => hk.2) (.int .i64 t106)) (fun _ hk => hk.2) (.slice Ao15 t107.length co15)) (fun _ hk => trivial), bX HB.out⟩
   replace c9 := Bool.eq_false_iff.mpr c9
   subst c9
   have H1 : (some (0, 0, ([] : List (S72)))) = some (r1, r2, r3) := by rw [if_neg (show ¬ (false = true) by decide)] at H; exact H
   clear H
   have H := H1
   clear H1
   simp only [Option.some.injEq, Prod.mk.injEq] at H
   obtain ⟨rfl, rfl, rfl⟩ := H
   go_enter Try.func8, Try.ntmps8
   go_wp2_with (first | ((with_reducible refine gate_dst (N := 6) rfl ?_); refine box_event (by rfl) (N := 6) (by rfl) (cs := #[.int .i64 0, .int .i64 0, .slice none 0 0]) (t := 26) (by first | (go_simp; done) | (go_simp; rfl)) ?_; intro gb101 hg w16 hbox hb; have _ := AM (below_step (bX HB.out) hb); have _ := AM (hbox); have n2_ := AM ((by rw [hg]; exact (bZ (bX HB.out)) : w.heap.size ≤ gb101)); clear HB; rename_i HB BK101; have GW101 := n2_; have GE101 := n2_; clear n2_; clear hb hbox hg) | ((with_reducible refine gate_callee (f := 29) rfl ?_); refine goesL_ (some 8) rfl rfl Try.func29 (by kernel_rfl) rfl #[.slice A0 l0.length c0] rfl (by (try simp only [mA, mB, mC]); first | done | rfl | (simp only [mD, mE]; rfl)) ?_; (with_reducible refine (impl_areVotes.calls k _ _ l0 true _ ?side1 ?side2 A4.out).mono ?_); (case side1 => repeat (first | exact (cB HR0.out HB.out) | (with_reducible first | apply cA | apply cN | apply cD))); (case side2 => exact HC0.out); rintro e w17 ⟨rfl, hb⟩; refine ⟨_, rfl, ?_⟩; have _ := AM (nB BK101.out hb); have _ := AM (below_step (bX HB.out) hb); clear BK101 HB; rename_i BK101 HB; (try clear hb); (try clear hk)) | (go_at_call 30; (with_reducible refine (impl_isReplica.calls a1 true _ A6.out).mono ?_); rintro e w' ⟨rfl, ⟨nd, rfl⟩⟩; (try (rw [drewN_self w17]; generalize hq_ : World.drewN w17 _ = w17; have _ : Aside0 (w17.heap[gb101]? = some (.cells #[.int .i64 0, .int .i64 0, .slice none 0 0] 26 (0, 0))) := ⟨by rw [← hq_]; exact (kX BK101.out)⟩; have _ : Aside0 (Below w.heap.size w w17) := ⟨by rw [← hq_]; exact (bX HB.out)⟩; clear BK101 HB hq_; rename_i BK101 HB; have hczu101 := q3 BK101.out; have hfzu101 := fZ BK101.out))) | (go_at_call 31; (with_reducible refine (impl_isView.calls a2 1 false _ A8.out).mono ?_); rintro e w' ⟨rfl, ⟨nd, rfl⟩⟩; (try (rw [drewN_self w17]; generalize hq_ : World.drewN w17 _ = w17; have _ : Aside0 (w17.heap[gb101]? = some (.cells #[.int .i64 0, .int .i64 0, .slice none 0 0] 26 (0, 0))) := ⟨by rw [← hq_]; exact (kX BK101.out)⟩; have _ : Aside0 (Below w.heap.size w w17) := ⟨by rw [← hq_]; exact (bX HB.out)⟩; clear BK101 HB hq_; rename_i BK101 HB; have hczu101 := q3 BK101.out; have hfzu101 := fZ BK101.out)); have hcz18 := q3 BK101.out; have hfz18 := fZ BK101.out))
   refine bodyPost_ret (results_cell_row rfl _ _ gb101 26 #[.int .i64 0, .int .i64 0, .slice none 0 0] (0, 0) _ rfl (by refine kP (cs := #[.int .i64 0, .int .i64 0, .slice none 0 0]) 2 ?_; refine kP (cs := #[.int .i64 0, .int .i64 0, .slice none 0 0]) 1 ?_; refine kP (cs := #[.int .i64 0, .int .i64 0, .slice none 0 0]) 0 ?_; (with_reducible repeat (first | apply kN | apply kD | apply kA)); exact BK101.out) Try.underlying26 rfl (by kernel_rfl)) rfl ?_
   exact ⟨_, by first | rfl | (simp [*, errW_none, errW_some] <;> rfl), by first | exact Kd.S_nil _ _ _ _ _ | exact Kd.N_nil _ _ _ _ _ | exact Kd.V_nil _ _ _ _ _ | exact Kd.Q_nil _ _ _ _ _ | exact Kd.R_nil _ _ _ _ _, bX HB.out⟩
  replace c7 := Bool.eq_false_iff.mpr c7
  subst c7
  have H1 : (some (0, 0, ([] : List (S72)))) = some (r1, r2, r3) := by rw [if_neg (show ¬ (false = true) by decide)] at H; exact H
  clear H
  have H := H1
  clear H1
  simp only [Option.some.injEq, Prod.mk.injEq] at H
  obtain ⟨rfl, rfl, rfl⟩ := H
  go_enter Try.func8, Try.ntmps8
  go_wp2_with (first | ((with_reducible refine gate_dst (N := 6) rfl ?_); refine box_event (by rfl) (N := 6) (by rfl) (cs := #[.int .i64 0, .int .i64 0, .slice none 0 0]) (t := 26) (by first | (go_simp; done) | (go_simp; rfl)) ?_; intro gb101 hg w19 hbox hb; have _ := AM (below_step (bX HB.out) hb); have _ := AM (hbox); have n2_ := AM ((by rw [hg]; exact (bZ (bX HB.out)) : w.heap.size ≤ gb101)); clear HB; rename_i HB BK101; have GW101 := n2_; have GE101 := n2_; clear n2_; clear hb hbox hg) | ((with_reducible refine gate_callee (f := 29) rfl ?_); refine goesL_ (some 8) rfl rfl Try.func29 (by kernel_rfl) rfl #[.slice A0 l0.length c0] rfl (by (try simp only [mA, mB, mC]); first | done | rfl | (simp only [mD, mE]; rfl)) ?_; (with_reducible refine (impl_areVotes.calls k _ _ l0 true _ ?side1 ?side2 A4.out).mono ?_); (case side1 => repeat (first | exact (cB HR0.out HB.out) | (with_reducible first | apply cA | apply cN | apply cD))); (case side2 => exact HC0.out); rintro e w20 ⟨rfl, hb⟩; refine ⟨_, rfl, ?_⟩; have _ := AM (nB BK101.out hb); have _ := AM (below_step (bX HB.out) hb); clear BK101 HB; rename_i BK101 HB; (try clear hb); (try clear hk)) | (go_at_call 30; (with_reducible refine (impl_isReplica.calls a1 false _ A6.out).mono ?_); rintro e w' ⟨rfl, ⟨nd, rfl⟩⟩; (try (rw [drewN_self w20]; generalize hq_ : World.drewN w20 _ = w20; have _ : Aside0 (w20.heap[gb101]? = some (.cells #[.int .i64 0, .int .i64 0, .slice none 0 0] 26 (0, 0))) := ⟨by rw [← hq_]; exact (kX BK101.out)⟩; have _ : Aside0 (Below w.heap.size w w20) := ⟨by rw [← hq_]; exact (bX HB.out)⟩; clear BK101 HB hq_; rename_i BK101 HB; have hczu101 := q3 BK101.out; have hfzu101 := fZ BK101.out)); have hcz21 := q3 BK101.out; have hfz21 := fZ BK101.out))
  refine bodyPost_ret (results_cell_row rfl _ _ gb101 26 #[.int .i64 0, .int .i64 0, .slice none 0 0] (0, 0) _ rfl (by refine kP (cs := #[.int .i64 0, .int .i64 0, .slice none 0 0]) 2 ?_; refine kP (cs := #[.int .i64 0, .int .i64 0, .slice none 0 0]) 1 ?_; refine kP (cs := #[.int .i64 0, .int .i64 0, .slice none 0 0]) 0 ?_; (with_reducible repeat (first | apply kN | apply kD | apply kA)); exact BK101.out) Try.underlying26 rfl (by kernel_rfl)) rfl ?_
  exact ⟨_, by first | rfl | (simp [*, errW_none, errW_some] <;> rfl), by first | exact Kd.S_nil _ _ _ _ _ | exact Kd.N_nil _ _ _ _ _ | exact Kd.V_nil _ _ _ _ _ | exact Kd.Q_nil _ _ _ _ _ | exact Kd.R_nil _ _ _ _ _, bX HB.out⟩
 replace c5 := Bool.eq_false_iff.mpr c5
 subst c5
 have H1 : (some (0, 0, ([] : List (S72)))) = some (r1, r2, r3) := by rw [if_neg (show ¬ (false = true) by decide)] at H; exact H
 clear H
 have H := H1
 clear H1
 simp only [Option.some.injEq, Prod.mk.injEq] at H
 obtain ⟨rfl, rfl, rfl⟩ := H
 go_enter Try.func8, Try.ntmps8
 go_wp2_with (first | ((with_reducible refine gate_dst (N := 6) rfl ?_); refine box_event (by rfl) (N := 6) (by rfl) (cs := #[.int .i64 0, .int .i64 0, .slice none 0 0]) (t := 26) (by first | (go_simp; done) | (go_simp; rfl)) ?_; intro gb101 hg w22 hbox hb; have _ := AM (below_step (bX HB.out) hb); have _ := AM (hbox); have n2_ := AM ((by rw [hg]; exact (bZ (bX HB.out)) : w.heap.size ≤ gb101)); clear HB; rename_i HB BK101; have GW101 := n2_; have GE101 := n2_; clear n2_; clear hb hbox hg) | ((with_reducible refine gate_callee (f := 29) rfl ?_); refine goesL_ (some 8) rfl rfl Try.func29 (by kernel_rfl) rfl #[.slice A0 l0.length c0] rfl (by (try simp only [mA, mB, mC]); first | done | rfl | (simp only [mD, mE]; rfl)) ?_; (with_reducible refine (impl_areVotes.calls k _ _ l0 false _ ?side1 ?side2 A4.out).mono ?_); (case side1 => repeat (first | exact (cB HR0.out HB.out) | (with_reducible first | apply cA | apply cN | apply cD))); (case side2 => exact HC0.out); rintro e w23 ⟨rfl, hb⟩; refine ⟨_, rfl, ?_⟩; have _ := AM (nB BK101.out hb); have _ := AM (below_step (bX HB.out) hb); clear BK101 HB; rename_i BK101 HB; (try clear hb); (try clear hk); have hcz24 := q3 BK101.out; have hfz24 := fZ BK101.out))
 refine bodyPost_ret (results_cell_row rfl _ _ gb101 26 #[.int .i64 0, .int .i64 0, .slice none 0 0] (0, 0) _ rfl (by refine kP (cs := #[.int .i64 0, .int .i64 0, .slice none 0 0]) 2 ?_; refine kP (cs := #[.int .i64 0, .int .i64 0, .slice none 0 0]) 1 ?_; refine kP (cs := #[.int .i64 0, .int .i64 0, .slice none 0 0]) 0 ?_; (with_reducible repeat (first | apply kN | apply kD | apply kA)); exact BK101.out) Try.underlying26 rfl (by kernel_rfl)) rfl ?_
 exact ⟨_, by first | rfl | (simp [*, errW_none, errW_some] <;> rfl), by first | exact Kd.S_nil _ _ _ _ _ | exact Kd.N_nil _ _ _ _ _ | exact Kd.V_nil _ _ _ _ _ | exact Kd.Q_nil _ _ _ _ _ | exact Kd.R_nil _ _ _ _ _, bX HB.out⟩

/-! ### laws_eqInt64S: function 70 -/

def laws_eqInt64S.l0 : Nat → List Int → List Int → Int → Option (Bool)
  | 0, _, _, _ => none
  | k + 1, x0, x1, x5 => if x5 < (x0.length : Int) then (if 0 ≤ x5 then (if x5 < (x1.length : Int) then (if (rd x0 x5) = (rd x1 x5) then (laws_eqInt64S.l0 k x0 x1 (wrap64 (x5 + 1))) else (some false)) else (none)) else (none)) else (some true)
def laws_eqInt64S.f (k : Nat) (l0 : List Int) (l1 : List Int) : Option (Bool) := if (l0.length : Int) = (l1.length : Int) then (laws_eqInt64S.l0 k l0 l1 0) else (some false)
theorem laws_eqInt64S.mono_l : ∀ k, (∀ y0 y1 y2, LeO (laws_eqInt64S.l0 k y0 y1 y2) (laws_eqInt64S.l0 (k + 1) y0 y1 y2))
  | 0 => fun _ _ _ r h => by simp [laws_eqInt64S.l0] at h
  | k + 1 => by
    have ih0 := laws_eqInt64S.mono_l k
    · intro y0 y1 y2
      unfold laws_eqInt64S.l0
      repeat' first
      | (with_reducible exact ih0 _ _ _)
      | (with_reducible exact LeO.refl _)
      | (with_reducible exact LeO.none _)
      | (with_reducible refine LeO.ite ?_ ?_)
      | (with_reducible refine LeO.bind ?_ (fun _ => ?_))
      | exact ih0 _ _ _
      | exact LeO.none _
      | refine LeO.ite ?_ ?_
      | refine LeO.bind ?_ (fun _ => ?_)
theorem laws_eqInt64S.mono : ∀ a0 a1 k, LeO (laws_eqInt64S.f k a0 a1) (laws_eqInt64S.f (k + 1) a0 a1) := by
  intro a0 a1 k
  have ih0 := laws_eqInt64S.mono_l k
  unfold laws_eqInt64S.f
  repeat' first
      | (with_reducible exact ih0 _ _ _)
      | (with_reducible exact LeO.refl _)
      | (with_reducible exact LeO.none _)
      | (with_reducible refine LeO.ite ?_ ?_)
      | (with_reducible refine LeO.bind ?_ (fun _ => ?_))
      | exact ih0 _ _ _
      | exact LeO.none _
      | refine LeO.ite ?_ ?_
      | refine LeO.bind ?_ (fun _ => ?_)
set_option maxHeartbeats 60000000 in
set_option maxRecDepth 100000 in
theorem laws_eqInt64S.calls (k : Nat) (A0 : Option Addr) (c0 : Nat) (l0 : List Int) (A1 : Option Addr) (c1 : Nat) (l1 : List Int) (r : Bool) (w : World) (hr0 : Kd.C (Kd.int .i64) w A0 l0.length l0) (hc0 : l0.length ≤ c0) (hr1 : Kd.C (Kd.int .i64) w A1 l1.length l1) (hc1 : l1.length ≤ c1) (h : laws_eqInt64S.f k l0 l1 = some r) :
    Calls Try.prog 70 #[.slice A0 l0.length c0, .slice A1 l1.length c1] w fun e w' => e = .returned (.bool r) ∧ Drawn0 w w' := by
 have HR0 := AM hr0
 have HC0 := AM hc0
 clear hr0 hc0
 have HR1 := AM hr1
 have HC1 := AM hc1
 clear hr1 hc1
 have H : (if (l0.length : Int) = (l1.length : Int) then (laws_eqInt64S.l0 k l0 l1 0) else (some false)) = some r := h
 clear h
 by_cases c3 : (l0.length : Int) = (l1.length : Int)
 ·
  rw [if_pos c3] at H
  have c3b0 : ((l0.length : Int) == (l1.length : Int)) = true := beq_iff_eq.mpr c3
  have c3b1 : ((l0.length : Int) != (l1.length : Int)) = false := bne_eq_false_iff_eq.mpr c3
  have c3b2 : (l0.length == l1.length) = true := by first | simpa using c3 | (simp at c3 ⊢; omega)
  clear c3
  have H' := AM H
  clear H
  go_enter Try.func70, Try.ntmps70
  go_wp2
  repeat (go_quiet (fail); try go_wp2)
  go_loopg [5] k (fun kq v5 w' => ∃ (x5_1 : Int), v5 = .int .i64 x5_1 ∧ Aside0 (laws_eqInt64S.l0 kq l0 l1 x5_1 = some r) ∧ Aside0 (kq ≤ k) ∧ Drawn0 w w')
  case atStart => exact ⟨(0), (by first | rfl | (simp; done) | (simp [*]; done)), H', ⟨Nat.le_refl _⟩, by repeat (first | exact Drawn0.refl _ | apply Drawn0.step)⟩
  case round =>
   clear H'
   (try clear c1); (try clear p2); (try clear c3); (try clear c3b0); (try clear c3b1); (try clear c3b2)
   obtain ⟨x5_1, rfl, HA, HK1, ⟨m1, rfl⟩⟩ := hrel
   cases gk with
   | zero => exact absurd HA.out (by simp [laws_eqInt64S.l0])
   | succ k1 =>
    have H := HA.out
    clear HA
    simp only [laws_eqInt64S.l0] at H
    by_cases c4 : x5_1 < (l0.length : Int)
    ·
     rw [if_pos c4] at H
     have c4b0 : decide (x5_1 < (l0.length : Int)) = true := decide_eq_true c4
     clear c4
     by_cases c5 : 0 ≤ x5_1
     ·
      rw [if_pos c5] at H
      have c5b0 : decide (0 ≤ x5_1) = true := decide_eq_true c5
      clear c5
      by_cases c6 : x5_1 < (l1.length : Int)
      ·
       rw [if_pos c6] at H
       have c6b0 : decide (x5_1 < (l1.length : Int)) = true := decide_eq_true c6
       clear c6
       by_cases c7 : (rd l0 x5_1) = (rd l1 x5_1)
       ·
        rw [if_pos c7] at H
        have c7b0 : ((rd l0 x5_1) == (rd l1 x5_1)) = true := beq_iff_eq.mpr c7
        have c7b1 : ((rd l0 x5_1) != (rd l1 x5_1)) = false := bne_eq_false_iff_eq.mpr c7
        clear c7
        have H' := AM H
        clear H
        have p101 : 0 ≤ (x5_1 : Int) := of_decide_eq_true (by assumption)
        have q101 : x5_1 < (l0.length : Int) := of_decide_eq_true (by assumption)
        obtain ⟨ad101, e101, hx101_0⟩ := Kd.at_int HR0.out x5_1 p101 q101
        cases e101
        replace p101 := eq_true p101
        replace q101 := eq_true q101
        have p102 : 0 ≤ (x5_1 : Int) := of_decide_eq_true (by assumption)
        have q102 : x5_1 < (l1.length : Int) := of_decide_eq_true (by assumption)
        obtain ⟨ad102, e102, hx102_0⟩ := Kd.at_int HR1.out x5_1 p102 q102
        cases e102
        replace p102 := eq_true p102
        replace q102 := eq_true q102
        go_wp2
        repeat (go_quiet (fail); try go_wp2)
        go_roundg k1
        case measure => have := HK1.out; omega
        case rel => exact ⟨(wrap64 (x5_1 + 1)), (by first | rfl | (simp; done) | (simp [*]; done)), H', ⟨by have := HK1.out; omega⟩, by repeat (first | exact Drawn0.refl _ | apply Drawn0.step)⟩
       rw [if_neg c7] at H
       have c7b0 : ((rd l0 x5_1) == (rd l1 x5_1)) = false := beq_eq_false_iff_ne.mpr c7
       have c7b1 : ((rd l0 x5_1) != (rd l1 x5_1)) = true := bne_iff_ne.mpr c7
       obtain rfl := Option.some.inj H
       have p101 : 0 ≤ (x5_1 : Int) := of_decide_eq_true (by assumption)
       have q101 : x5_1 < (l0.length : Int) := of_decide_eq_true (by assumption)
       obtain ⟨ad101, e101, hx101_0⟩ := Kd.at_int HR0.out x5_1 p101 q101
       cases e101
       replace p101 := eq_true p101
       replace q101 := eq_true q101
       have p102 : 0 ≤ (x5_1 : Int) := of_decide_eq_true (by assumption)
       have q102 : x5_1 < (l1.length : Int) := of_decide_eq_true (by assumption)
       obtain ⟨ad102, e102, hx102_0⟩ := Kd.at_int HR1.out x5_1 p102 q102
       cases e102
       replace p102 := eq_true p102
       replace q102 := eq_true q102
       go_wp2
       repeat (go_quiet (fail); try go_wp2)
       go_ret
       exact ⟨by first | rfl | (simp; done) | (simp [*]; done), by repeat (first | exact Drawn0.refl _ | apply Drawn0.step)⟩
      rw [if_neg c6] at H
      exact absurd H (by simp)
     rw [if_neg c5] at H
     exact absurd H (by simp)
    rw [if_neg c4] at H
    have c4b0 : decide (x5_1 < (l0.length : Int)) = false := decide_eq_false c4
    clear c4
    obtain rfl := Option.some.inj H
    go_wp2
    repeat (go_quiet (fail); try go_wp2)
    go_ret
    exact ⟨by first | rfl | (simp; done) | (simp [*]; done), by repeat (first | exact Drawn0.refl _ | apply Drawn0.step)⟩
 rw [if_neg c3] at H
 have c3b0 : ((l0.length : Int) == (l1.length : Int)) = false := beq_eq_false_iff_ne.mpr c3
 have c3b1 : ((l0.length : Int) != (l1.length : Int)) = true := bne_iff_ne.mpr c3
 have c3b2 : (l0.length == l1.length) = false := by first | simpa using c3 | (simp at c3 ⊢; omega)
 obtain rfl := Option.some.inj H
 go_enter Try.func70, Try.ntmps70
 go_wp2
 repeat (go_quiet (fail); try go_wp2)
 go_ret
 exact ⟨by first | rfl | (simp; done) | (simp [*]; done), by repeat (first | exact Drawn0.refl _ | apply Drawn0.step)⟩

end Go.Proofs.Ytmaliehmbodioaa.Q
