/- Printed by a program of this session (wip/mp.py over the kit's print.py): functions of the translation as plain Lean functions, and that the machine's calls do what these say. -/
import Derived.Test.YtgpgamapopnfcaaDoorQx0
import Derived.Test.YtgpgamapopnfcaaDoorQx5
import Derived.Test.YtgpgamapopnfcaaDoorQx17
namespace Go.Proofs.YtgpgamapopnfcaaDoor.Q
open Go.RowKit Go.Proofs.YtgpgamapopnfcaaDoor.HB Go.Proofs.YtgpgamapopnfcaaDoorW.PrintWords Go.Proofs.YtgpgamapopnfcaaDoorW.PrintLast Go.Proofs.YtgpgamapopnfcaaDoorW.PrintMore
attribute [local go_sem] max2_int min2_int max_two min_two max_three min_three max_four min_four   -- for this text's walks alone
set_option linter.unusedVariables false
set_option linter.unusedSimpArgs false

/-! ### spec_DrawVectorGood: function 21 -/

mutual
def spec_DrawVectorGood.j0 : Nat → ByteArray → Int → ByteArray → List ByteArray → Bool → List Int → Int → Int → Int → Option (ByteArray × Int × Int × ByteArray × List ByteArray)
  | 0, _, _, _, _, _, _, _, _, _ => none
  | k + 1, x8, x9, x10, x11, x32, x106000, x106001, x106002, x106003 => if x32 = true then ((spec_l01Src_n.f x106000 x106001 x106002 x106003 (x11.length : Int)).bind fun bt129 => (if 0 ≤ bt129.1 then (if bt129.1 < (x11.length : Int) then (spec_DrawVectorGood.j1 k x8 x9 x10 (x11.set (bt129.1 : Int).toNat (⟨#[120]⟩ : ByteArray)) x106000 bt129.2.1 bt129.2.2.1 bt129.2.2.2) else (none)) else (none))) else (spec_DrawVectorGood.j1 k x8 x9 x10 x11 x106000 x106001 x106002 x106003)
def spec_DrawVectorGood.j1 : Nat → ByteArray → Int → ByteArray → List ByteArray → List Int → Int → Int → Int → Option (ByteArray × Int × Int × ByteArray × List ByteArray)
  | 0, _, _, _, _, _, _, _, _ => none
  | k + 1, x8, x9, x10, x11, x106000, x106001, x106002, x106003 => (spec_l01Src_one.f x106000 x106001 x106002 x106003 12).bind fun bt134 => (if bt134.1 = true then (if x11.length < 8796093022208 then ((spec_l01Src_n.f x106000 bt134.2.1 bt134.2.2.1 bt134.2.2.2 5).bind fun bt141 => (some (x8, x9, bt141.1, x10, (x11 ++ [(⟨#[]⟩ : ByteArray)])))) else (none)) else ((spec_l01Src_n.f x106000 bt134.2.1 bt134.2.2.1 bt134.2.2.2 5).bind fun bt145 => (some (x8, x9, bt145.1, x10, x11))))
end
def spec_DrawVectorGood.f (k : Nat) (l0 : List Int) : Option (ByteArray × Int × Int × ByteArray × List ByteArray) := (spec_l01Source.f k l0).bind fun bt101 => ((spec_l01Src_l09Secret.f bt101.1 bt101.2.1 bt101.2.2.1 bt101.2.2.2).bind fun bt106 => ((spec_l01Src_n.f bt101.1 bt106.2.1 bt106.2.2.1 bt106.2.2.2 4).bind fun bt110 => ((spec_l01Src_n.f bt101.1 bt110.2.1 bt110.2.2.1 bt110.2.2.2 4).bind fun bt114 => ((spec_l01Src_bytes.f k bt101.1 bt114.2.1 bt114.2.2.1 bt114.2.2.2 bt114.1).bind fun bt118 => ((spec_Vector.f k bt106.1 bt110.1 bt118.1).bind fun t122 => ((spec_l01Src_one.f bt101.1 bt118.2.1 bt118.2.2.1 bt118.2.2.2 3).bind fun bt125 => (if bt125.1 = true then (spec_DrawVectorGood.j0 k bt106.1 bt110.1 bt118.1 t122 (decide ((t122.length : Int) > 0)) bt101.1 bt125.2.1 bt125.2.2.1 bt125.2.2.2) else (spec_DrawVectorGood.j0 k bt106.1 bt110.1 bt118.1 t122 false bt101.1 bt125.2.1 bt125.2.2.1 bt125.2.2.2))))))))
theorem spec_DrawVectorGood.mono_l : ∀ k, (∀ y0 y1 y2 y3 y4 y5 y6 y7 y8, LeO (spec_DrawVectorGood.j0 k y0 y1 y2 y3 y4 y5 y6 y7 y8) (spec_DrawVectorGood.j0 (k + 1) y0 y1 y2 y3 y4 y5 y6 y7 y8)) ∧ (∀ y0 y1 y2 y3 y4 y5 y6 y7, LeO (spec_DrawVectorGood.j1 k y0 y1 y2 y3 y4 y5 y6 y7) (spec_DrawVectorGood.j1 (k + 1) y0 y1 y2 y3 y4 y5 y6 y7))
  | 0 => ⟨fun _ _ _ _ _ _ _ _ _ r h => by simp [spec_DrawVectorGood.j0] at h, fun _ _ _ _ _ _ _ _ r h => by simp [spec_DrawVectorGood.j1] at h⟩
  | k + 1 => by
    obtain ⟨ih0, ih1⟩ := spec_DrawVectorGood.mono_l k
    refine ⟨?_, ?_⟩
    · intro y0 y1 y2 y3 y4 y5 y6 y7 y8
      unfold spec_DrawVectorGood.j0
      repeat' first
      | (with_reducible exact ih0 _ _ _ _ _ _ _ _ _)
      | (with_reducible exact ih1 _ _ _ _ _ _ _ _)
      | (with_reducible exact spec_Vector.mono _ _ _ _)
      | (with_reducible exact spec_l01Source.mono _ _)
      | (with_reducible exact spec_l01Src_bytes.mono _ _ _ _ _ _)
      | (with_reducible exact LeO.refl _)
      | (with_reducible exact LeO.none _)
      | (with_reducible refine LeO.ite ?_ ?_)
      | (with_reducible refine LeO.bind ?_ (fun _ => ?_))
      | exact ih0 _ _ _ _ _ _ _ _ _
      | exact ih1 _ _ _ _ _ _ _ _
      | exact spec_Vector.mono _ _ _ _
      | exact spec_l01Source.mono _ _
      | exact spec_l01Src_bytes.mono _ _ _ _ _ _
      | exact LeO.none _
      | refine LeO.ite ?_ ?_
      | refine LeO.bind ?_ (fun _ => ?_)
    · intro y0 y1 y2 y3 y4 y5 y6 y7
      unfold spec_DrawVectorGood.j1
      repeat' first
      | (with_reducible exact ih0 _ _ _ _ _ _ _ _ _)
      | (with_reducible exact ih1 _ _ _ _ _ _ _ _)
      | (with_reducible exact spec_Vector.mono _ _ _ _)
      | (with_reducible exact spec_l01Source.mono _ _)
      | (with_reducible exact spec_l01Src_bytes.mono _ _ _ _ _ _)
      | (with_reducible exact LeO.refl _)
      | (with_reducible exact LeO.none _)
      | (with_reducible refine LeO.ite ?_ ?_)
      | (with_reducible refine LeO.bind ?_ (fun _ => ?_))
      | exact ih0 _ _ _ _ _ _ _ _ _
      | exact ih1 _ _ _ _ _ _ _ _
      | exact spec_Vector.mono _ _ _ _
      | exact spec_l01Source.mono _ _
      | exact spec_l01Src_bytes.mono _ _ _ _ _ _
      | exact LeO.none _
      | refine LeO.ite ?_ ?_
      | refine LeO.bind ?_ (fun _ => ?_)
theorem spec_DrawVectorGood.mono : ∀ a0 k, LeO (spec_DrawVectorGood.f k a0) (spec_DrawVectorGood.f (k + 1) a0) := by
  intro a0 k
  obtain ⟨ih0, ih1⟩ := spec_DrawVectorGood.mono_l k
  unfold spec_DrawVectorGood.f
  repeat' first
      | (with_reducible exact ih0 _ _ _ _ _ _ _ _ _)
      | (with_reducible exact ih1 _ _ _ _ _ _ _ _)
      | (with_reducible exact spec_Vector.mono _ _ _ _)
      | (with_reducible exact spec_l01Source.mono _ _)
      | (with_reducible exact spec_l01Src_bytes.mono _ _ _ _ _ _)
      | (with_reducible exact LeO.refl _)
      | (with_reducible exact LeO.none _)
      | (with_reducible refine LeO.ite ?_ ?_)
      | (with_reducible refine LeO.bind ?_ (fun _ => ?_))
      | exact ih0 _ _ _ _ _ _ _ _ _
      | exact ih1 _ _ _ _ _ _ _ _
      | exact spec_Vector.mono _ _ _ _
      | exact spec_l01Source.mono _ _
      | exact spec_l01Src_bytes.mono _ _ _ _ _ _
      | exact LeO.none _
      | refine LeO.ite ?_ ?_
      | refine LeO.bind ?_ (fun _ => ?_)
theorem bI63_105_spec_DrawVectorGood {n : Nat} {w W W' : World} (h : Below n w W) (f : Below n w W → Below n w W' := by intro h_; repeat (first | (with_reducible first | exact h_ | apply bA | apply bN | apply bD | refine bS ?_ (IsS63.ge HI105.out) | refine bS ?_ (Aside0.out (by assumption))) | exact h_)) : Below n w W' := f h
theorem iX63_6_spec_DrawVectorGood {p q : Prop} (h : p) (f : p → q := by intro h_; repeat (first | (with_reducible first | exact h_ | apply IsS63.alloc | apply IsS63.drewN | apply IsS63.drew | apply IsS63.set_1 | apply IsS63.set_2 | apply IsS63.set_3 | refine IsS63.far ?_ (Aside0.out (by assumption)) _ | apply IsS63.far | exact Aside0.out (by assumption)) | exact h_)) : q := f h
set_option maxHeartbeats 60000000 in
set_option maxRecDepth 100000 in
theorem spec_DrawVectorGood.calls (k : Nat) (A0 : Option Addr) (c0 : Nat) (l0 : List Int) (r1 : ByteArray) (r2 : Int) (r3 : Int) (r4 : ByteArray) (r5 : List ByteArray) (w : World) (hr0 : Kd.C (Kd.int .u8) w A0 l0.length l0) (hc0 : l0.length ≤ c0) (h : spec_DrawVectorGood.f k l0 = some (r1, r2, r3, r4, r5)) :
    Calls Tryd.prog 21 #[.slice A0 l0.length c0] w fun e w' => ∃ v4_ : Value, e = .returned (.tuple #[.string r1, .int .i64 r2, .int .i64 r3, .string r4, v4_]) ∧ Kd.R Kd.string 9 w' w.heap.size (fun _ => True) v4_ r5 ∧ Below w.heap.size w w' := by
 have HR0 := AM hr0
 have HC0 := AM hc0
 clear hr0 hc0
 have HB := AM (Below.refl w.heap.size w)
 have H : ((spec_l01Source.f k l0).bind fun bt101 => ((spec_l01Src_l09Secret.f bt101.1 bt101.2.1 bt101.2.2.1 bt101.2.2.2).bind fun bt106 => ((spec_l01Src_n.f bt101.1 bt106.2.1 bt106.2.2.1 bt106.2.2.2 4).bind fun bt110 => ((spec_l01Src_n.f bt101.1 bt110.2.1 bt110.2.2.1 bt110.2.2.2 4).bind fun bt114 => ((spec_l01Src_bytes.f k bt101.1 bt114.2.1 bt114.2.2.1 bt114.2.2.2 bt114.1).bind fun bt118 => ((spec_Vector.f k bt106.1 bt110.1 bt118.1).bind fun t122 => ((spec_l01Src_one.f bt101.1 bt118.2.1 bt118.2.2.1 bt118.2.2.2 3).bind fun bt125 => (if bt125.1 = true then (spec_DrawVectorGood.j0 k bt106.1 bt110.1 bt118.1 t122 (decide ((t122.length : Int) > 0)) bt101.1 bt125.2.1 bt125.2.2.1 bt125.2.2.2) else (spec_DrawVectorGood.j0 k bt106.1 bt110.1 bt118.1 t122 false bt101.1 bt125.2.1 bt125.2.2.1 bt125.2.2.2))))))))) = some (r1, r2, r3, r4, r5) := h
 clear h
 replace H := Option.bind_eq_some_iff.mp H
 obtain ⟨⟨t101, t102, t103, t104⟩, A20, H⟩ := H
 try dsimp only at H
 have A2 := AM A20
 clear A20
 replace H := Option.bind_eq_some_iff.mp H
 obtain ⟨⟨t106, t107, t108, t109⟩, A30, H⟩ := H
 try dsimp only at H
 have A3 := AM A30
 clear A30
 replace H := Option.bind_eq_some_iff.mp H
 obtain ⟨⟨t110, t111, t112, t113⟩, A40, H⟩ := H
 try dsimp only at H
 have A4 := AM A40
 clear A40
 replace H := Option.bind_eq_some_iff.mp H
 obtain ⟨⟨t114, t115, t116, t117⟩, A50, H⟩ := H
 try dsimp only at H
 have A5 := AM A50
 clear A50
 replace H := Option.bind_eq_some_iff.mp H
 obtain ⟨⟨t118, t119, t120, t121⟩, A60, H⟩ := H
 try dsimp only at H
 have A6 := AM A60
 clear A60
 replace H := Option.bind_eq_some_iff.mp H
 obtain ⟨t122, A70, H⟩ := H
 replace H : ((spec_l01Src_one.f t101 t119 t120 t121 3).bind fun bt125 => (if bt125.1 = true then (spec_DrawVectorGood.j0 k t106 t110 t118 t122 (decide ((t122.length : Int) > 0)) t101 bt125.2.1 bt125.2.2.1 bt125.2.2.2) else (spec_DrawVectorGood.j0 k t106 t110 t118 t122 false t101 bt125.2.1 bt125.2.2.1 bt125.2.2.2))) = some (r1, r2, r3, r4, r5) := H
 have A7 := AM A70
 clear A70
 have HC8 := AM H
 clear H
 go_enter Tryd.func21, Tryd.ntmps21
 go_upto_region 6 with (first | ((with_reducible refine gate_callee (f := 39) rfl ?_); refine goesL_ (some 13) rfl rfl Tryd.func39 (by kernel_rfl) rfl #[.slice A0 l0.length c0] rfl (by (try simp only [mA, mB, mC]); first | done | rfl | (simp only [mD, mE]; rfl)) ?_; (with_reducible refine (spec_l01Source.calls k _ _ l0 t101 t102 t103 t104 w _ ?side1 ?side2 ?side3 A2.out).mono ?_); (case side1 => exact (bX HB.out)); (case side2 => exact HR0.out); (case side3 => exact HC0.out); rintro e w9 ⟨g105, rfl, hi, hb, hb2⟩; refine ⟨_, rfl, ?_⟩; have _ := AM (hb); have _ := AM (hi); clear HB; rename_i HB HI105; (try clear hb); (try clear hb2); (try clear hk); (try clear hi)) | ((with_reducible refine gate_callee (f := 40) rfl ?_); refine goesL_ (some 15) rfl rfl Tryd.func40 (by kernel_rfl) rfl #[.pointer (some ⟨g105, 0, none⟩)] rfl (by (try simp only [mA, mB, mC]); first | done | rfl | (simp only [mD, mE]; rfl)) ?_; (with_reducible refine (spec_l01Src_l09Secret.calls g105 t101 t102 t103 t104 t106 t107 t108 t109 w _ ?side1 ?side2 A3.out).mono ?_); (case side1 => exact (iX63_6_spec_DrawVectorGood HI105.out)); (case side2 => exact (bI63_105_spec_DrawVectorGood HB.out)); rintro e w10 ⟨rfl, hi, hb, hk⟩; refine ⟨_, rfl, ?_⟩; have _ := AM (hb); have _ := AM (hi); clear HB HI105; rename_i HB HI105; (try clear hb); (try clear hb2); (try clear hk); (try clear hi)) | ((with_reducible refine gate_callee (f := 41) rfl ?_); refine goesL_ (some 17) rfl rfl Tryd.func41 (by kernel_rfl) rfl #[.pointer (some ⟨g105, 0, none⟩), .int .i64 4] rfl (by (try simp only [mA, mB, mC]); first | done | rfl | (simp only [mD, mE]; rfl)) ?_; (with_reducible refine (spec_l01Src_n.calls g105 t101 t107 t108 t109 4 t110 t111 t112 t113 w _ ?side1 ?side2 A4.out).mono ?_); (case side1 => exact (iX63_6_spec_DrawVectorGood HI105.out)); (case side2 => exact (bI63_105_spec_DrawVectorGood HB.out)); rintro e w11 ⟨rfl, hi, hb, hk⟩; refine ⟨_, rfl, ?_⟩; have _ := AM (hb); have _ := AM (hi); clear HB HI105; rename_i HB HI105; (try clear hb); (try clear hb2); (try clear hk); (try clear hi)) | ((with_reducible refine gate_callee (f := 41) rfl ?_); refine goesL_ (some 20) rfl rfl Tryd.func41 (by kernel_rfl) rfl #[.pointer (some ⟨g105, 0, none⟩), .int .i64 4] rfl (by (try simp only [mA, mB, mC]); first | done | rfl | (simp only [mD, mE]; rfl)) ?_; (with_reducible refine (spec_l01Src_n.calls g105 t101 t111 t112 t113 4 t114 t115 t116 t117 w _ ?side1 ?side2 A5.out).mono ?_); (case side1 => exact (iX63_6_spec_DrawVectorGood HI105.out)); (case side2 => exact (bI63_105_spec_DrawVectorGood HB.out)); rintro e w12 ⟨rfl, hi, hb, hk⟩; refine ⟨_, rfl, ?_⟩; have _ := AM (hb); have _ := AM (hi); clear HB HI105; rename_i HB HI105; (try clear hb); (try clear hb2); (try clear hk); (try clear hi)) | ((with_reducible refine gate_callee (f := 42) rfl ?_); refine goesL_ (some 21) rfl rfl Tryd.func42 (by kernel_rfl) rfl #[.pointer (some ⟨g105, 0, none⟩), .int .i64 t114] rfl (by (try simp only [mA, mB, mC]); first | done | rfl | (simp only [mD, mE]; rfl)) ?_; (with_reducible refine (spec_l01Src_bytes.calls k g105 t101 t115 t116 t117 t114 t118 t119 t120 t121 w _ ?side1 ?side2 A6.out).mono ?_); (case side1 => exact (iX63_6_spec_DrawVectorGood HI105.out)); (case side2 => exact (bI63_105_spec_DrawVectorGood HB.out)); rintro e w13 ⟨rfl, hi, hb, hk⟩; refine ⟨_, rfl, ?_⟩; have _ := AM (hb); have _ := AM (hi); clear HB HI105; rename_i HB HI105; (try clear hb); (try clear hb2); (try clear hk); (try clear hi)) | ((with_reducible refine gate_callee (f := 9) rfl ?_); refine goesL_ (some 25) rfl rfl Tryd.func9 (by kernel_rfl) rfl #[.string t106, .int .i64 t110, .string t118] rfl (by (try simp only [mA, mB, mC]); first | done | rfl | (simp only [mD, mE]; rfl)) ?_; (with_reducible refine (spec_Vector.calls k t106 t110 t118 t122 _ A7.out).mono ?_); rintro e w14 ⟨v123, rfl, ho0, hb⟩; refine ⟨_, rfl, ?_⟩; have _ := AM (Kd.R_lower ho0 (bZ (bI63_105_spec_DrawVectorGood HB.out))); have _ := AM (IsS63.below (iX63_6_spec_DrawVectorGood HI105.out) hb); have _ := AM (below_step (bI63_105_spec_DrawVectorGood HB.out) hb); clear HI105 HB; rename_i HO124 HI105 HB; (try clear hb); (try clear hb2); (try clear hk); (try clear hi); (try clear ho0)))
 (try simp only [Act.put, List.setIfInBounds_toArray, List.set_cons_zero, List.set_cons_succ])
 go_cut [32] (fun v32 wc => ∃ (kq : Nat) (x32_7 : Bool) (x106001_7 : Int) (x106002_7 : Int) (x106003_7 : Int), v32 = .bool x32_7 ∧ Aside0 (spec_DrawVectorGood.j0 kq t106 t110 t118 t122 x32_7 t101 x106001_7 x106002_7 x106003_7 = some (r1, r2, r3, r4, r5)) ∧ Aside0 (kq ≤ k) ∧ Aside0 (Kd.R Kd.string 9 wc w.heap.size (fun _ => True) v123 t122) ∧ Aside0 (IsS63 w wc g105 t101 x106001_7 x106002_7 x106003_7) ∧ Aside0 (Below w.heap.size w wc))
 case first =>
  have H := HC8.out
  clear HC8
  replace H := Option.bind_eq_some_iff.mp H
  obtain ⟨⟨t125, t126, t127, t128⟩, A150, H⟩ := H
  try dsimp only at H
  have A15 := AM A150
  clear A150
  by_cases c16 : t125 = true
  ·
   subst c16
   have H1 : (spec_DrawVectorGood.j0 k t106 t110 t118 t122 (decide ((t122.length : Int) > 0)) t101 t126 t127 t128) = some (r1, r2, r3, r4, r5) := by rw [if_pos rfl] at H; exact H
   clear H
   have H := H1
   clear H1
   have H' := AM H
   clear H
   go_wp2_with (first | ((with_reducible refine gate_callee (f := 43) rfl ?_); refine goesL_ (some 27) rfl rfl Tryd.func43 (by kernel_rfl) rfl #[.pointer (some ⟨g105, 0, none⟩), .int .i64 3] rfl (by (try simp only [mA, mB, mC]); first | done | rfl | (simp only [mD, mE]; rfl)) ?_; (with_reducible refine (spec_l01Src_one.calls g105 t101 t119 t120 t121 3 true t126 t127 t128 w _ ?side1 ?side2 A15.out).mono ?_); (case side1 => exact (iX63_6_spec_DrawVectorGood HI105.out)); (case side2 => exact (bI63_105_spec_DrawVectorGood HB.out)); rintro e w17 ⟨rfl, hi, hb, hk⟩; refine ⟨_, rfl, ?_⟩; have _ := AM (Kd.R_mono (Kd.R_keep (IsS63.apart (show IsS63 w _ g105 t101 t119 t120 t121 from iX63_6_spec_DrawVectorGood HI105.out) (rX HO124.out) (by decide)) hk (fun _ h => h.2)) (fun _ h => h.1)); have _ := AM (hb); have _ := AM (hi); clear HO124 HB HI105; rename_i HO124 HB HI105; (try clear hb); (try clear hb2); (try clear hk); (try clear hi); obtain ⟨Ao18, co18, eo18⟩ := Kd.R_slice HO124.out; subst eo18))
   go_meet
   case rel => exact ⟨_, (decide ((t122.length : Int) > 0)), (t126), (t127), (t128), (by first | rfl | (simp; done) | (simp [*]; done)), H', ⟨by first | omega | exact Nat.le_refl _⟩, ⟨rX HO124.out⟩, ⟨iX63_6_spec_DrawVectorGood HI105.out⟩, ⟨bI63_105_spec_DrawVectorGood HB.out⟩⟩
  replace c16 := Bool.eq_false_iff.mpr c16
  subst c16
  have H1 : (spec_DrawVectorGood.j0 k t106 t110 t118 t122 false t101 t126 t127 t128) = some (r1, r2, r3, r4, r5) := by rw [if_neg (show ¬ (false = true) by decide)] at H; exact H
  clear H
  have H := H1
  clear H1
  have H' := AM H
  clear H
  go_wp2_with (first | ((with_reducible refine gate_callee (f := 43) rfl ?_); refine goesL_ (some 27) rfl rfl Tryd.func43 (by kernel_rfl) rfl #[.pointer (some ⟨g105, 0, none⟩), .int .i64 3] rfl (by (try simp only [mA, mB, mC]); first | done | rfl | (simp only [mD, mE]; rfl)) ?_; (with_reducible refine (spec_l01Src_one.calls g105 t101 t119 t120 t121 3 false t126 t127 t128 w _ ?side1 ?side2 A15.out).mono ?_); (case side1 => exact (iX63_6_spec_DrawVectorGood HI105.out)); (case side2 => exact (bI63_105_spec_DrawVectorGood HB.out)); rintro e w19 ⟨rfl, hi, hb, hk⟩; refine ⟨_, rfl, ?_⟩; have _ := AM (Kd.R_mono (Kd.R_keep (IsS63.apart (show IsS63 w _ g105 t101 t119 t120 t121 from iX63_6_spec_DrawVectorGood HI105.out) (rX HO124.out) (by decide)) hk (fun _ h => h.2)) (fun _ h => h.1)); have _ := AM (hb); have _ := AM (hi); clear HO124 HB HI105; rename_i HO124 HB HI105; (try clear hb); (try clear hb2); (try clear hk); (try clear hi)))
  go_meet
  case rel => exact ⟨_, (false), (t126), (t127), (t128), (by first | rfl | (simp; done) | (simp [*]; done)), H', ⟨by first | omega | exact Nat.le_refl _⟩, ⟨rX HO124.out⟩, ⟨iX63_6_spec_DrawVectorGood HI105.out⟩, ⟨bI63_105_spec_DrawVectorGood HB.out⟩⟩
 case rest =>
  clear HC8
  (try clear c1); (try clear c2); (try clear p2); (try clear c3); (try clear c4); (try clear c9); (try clear c16)
  obtain ⟨kq, x32_7, x106001_7, x106002_7, x106003_7, rfl, HA, HJ7, HO_11, HI105, HB⟩ := hcut
  cases kq with
  | zero => exact absurd HA.out (by simp [spec_DrawVectorGood.j0])
  | succ kj7 =>
   have H := HA.out
   clear HA
   simp only [spec_DrawVectorGood.j0] at H
   have HC20 := AM H
   clear H
   go_upto_if 32 with (fail)
   go_cut [] (fun wc => ∃ (kq : Nat) (x11_19 : List ByteArray) (x106001_19 : Int) (x106002_19 : Int) (x106003_19 : Int), Aside0 (spec_DrawVectorGood.j1 kq t106 t110 t118 x11_19 t101 x106001_19 x106002_19 x106003_19 = some (r1, r2, r3, r4, r5)) ∧ Aside0 (kq ≤ kj7) ∧ Aside0 (Kd.R Kd.string 9 wc w.heap.size (fun _ => True) v123 x11_19) ∧ Aside0 (IsS63 w wc g105 t101 x106001_19 x106002_19 x106003_19) ∧ Aside0 (Below w.heap.size w wc))
   case first =>
    have H := HC20.out
    clear HC20
    by_cases c21 : x32_7 = true
    ·
     subst c21
     have H1 : ((spec_l01Src_n.f t101 x106001_7 x106002_7 x106003_7 (t122.length : Int)).bind fun bt129 => (if 0 ≤ bt129.1 then (if bt129.1 < (t122.length : Int) then (spec_DrawVectorGood.j1 kj7 t106 t110 t118 (t122.set (bt129.1 : Int).toNat (⟨#[120]⟩ : ByteArray)) t101 bt129.2.1 bt129.2.2.1 bt129.2.2.2) else (none)) else (none))) = some (r1, r2, r3, r4, r5) := by rw [if_pos rfl] at H; exact H
     clear H
     have H := H1
     clear H1
     replace H := Option.bind_eq_some_iff.mp H
     obtain ⟨⟨t129, t130, t131, t132⟩, A220, H⟩ := H
     try dsimp only at H
     have A22 := AM A220
     clear A220
     by_cases c23 : 0 ≤ t129
     ·
      rw [if_pos c23] at H
      have c23b0 : decide (0 ≤ t129) = true := decide_eq_true c23
      clear c23
      (first | rw [c23b0] | (simp only [i64_w, i32_w]; rw [c23b0]) | skip)
      by_cases c24 : t129 < (t122.length : Int)
      ·
       rw [if_pos c24] at H
       have c24b0 : decide (t129 < (t122.length : Int)) = true := decide_eq_true c24
       clear c24
       obtain ⟨y133, hy133⟩ : ∃ y_ : List ByteArray, y_ = (t122.set (t129 : Int).toNat (⟨#[120]⟩ : ByteArray)) := ⟨_, rfl⟩
       replace H : (spec_DrawVectorGood.j1 kj7 t106 t110 t118 y133 t101 t130 t131 t132) = some (r1, r2, r3, r4, r5) := by first | (rw [hy133]; with_reducible exact H) | (have H2_ := (Option.bind_some _ _).symm.trans H; rw [hy133]; with_reducible exact H2_) | (have H2_ := (Option.bind_some _ _).symm.trans H; with_reducible exact H2_) | with_reducible exact H | (rw [hy133]; exact H) | exact H
       have Ny133 := AM hy133
       clear hy133
       have H' := AM H
       clear H
       obtain ⟨Ao26, co26, eo26⟩ := Kd.R_slice HO_11.out
       subst eo26
       go_wp2_with (first | ((with_reducible refine gate_callee (f := 41) rfl ?_); refine goesL_ (some 37) rfl rfl Tryd.func41 (by kernel_rfl) rfl #[.pointer (some ⟨g105, 0, none⟩), .int .i64 (t122.length : Int)] rfl (by (try simp only [mA, mB, mC]); first | done | rfl | (simp only [mD, mE]; rfl)) ?_; (with_reducible refine (spec_l01Src_n.calls g105 t101 x106001_7 x106002_7 x106003_7 (t122.length : Int) t129 t130 t131 t132 w _ ?side1 ?side2 A22.out).mono ?_); (case side1 => exact (iX63_6_spec_DrawVectorGood HI105.out)); (case side2 => exact (bI63_105_spec_DrawVectorGood HB.out)); rintro e w27 ⟨rfl, hi, hb, hk⟩; refine ⟨_, rfl, ?_⟩; have _ := AM (Kd.R_mono (Kd.R_keep (IsS63.apart (show IsS63 w _ g105 t101 x106001_7 x106002_7 x106003_7 from iX63_6_spec_DrawVectorGood HI105.out) (rX HO_11.out) (by decide)) hk (fun _ h => h.2)) (fun _ h => h.1)); have _ := AM (hb); have _ := AM (hi); clear HO_11 HB HI105; rename_i HO_11 HB HI105; (try clear hb); (try clear hb2); (try clear hk); (try clear hi); have p25 : 0 ≤ (t129 : Int) := of_decide_eq_true (by assumption); have q25 : (t129 : Int) < ((t122.length : Int) : Int) := of_decide_eq_true (by assumption); obtain ⟨go25, co25, eo25, gb25, gl25, cl25, HG25⟩ := Kd.R_form HO_11.out (by omega); (first | cases eo25 | (injection eo25 with ea_ en_ ec_; (first | subst ea_ | (injection ea_ with ea_; subst ea_)); subst ec_; clear en_)); have GB25 := AM gb25; have GG25 := AM HG25; clear gb25 gl25 HG25; obtain ⟨hx25_0, hf25_0⟩ := Kd.R_celln (⟨#[]⟩ : ByteArray) HO_11.out (t129 : Int) p25 q25; replace p25 := eq_true p25; replace q25 := eq_true q25; obtain ⟨hy28_, hz28_⟩ := Kd.R_celln (⟨#[]⟩ : ByteArray) HO_11.out (t129 : Int) (of_decide_eq_true (by assumption)) (of_decide_eq_true (by assumption)); have HP28 := Kd.R_putg HO_11.out (t129 : Int) (⟨#[120]⟩ : ByteArray)) | ((with_reducible refine gate_store (t := 9) (p := 38) rfl ?_); refine store_event (t := 9) (p := 38) (v := ?vo_w29) (w1 := (w27.setCell ⟨go25, (t129 : Int).toNat, none⟩ (.string (⟨#[120]⟩ : ByteArray)))) ?hg ?ho ?hn ?hr ?_; (case ho => rfl); (case hg => rfl); (case hn => rfl); (case hr => first | (go_simp; done) | (go_simp; rfl)); intro w29 hw; have hg : w27.grownBy w29 (some go25) := (by rw [hw]; exact HP28.2); have hp_ : Kd.R Kd.string 9 w29 w.heap.size (fun _ => True) (.slice (some ⟨go25, 0, none⟩) t122.length co26) y133 := (by rw [hw, Ny133.out]; exact HP28.1); clear HP28; have _ := AM (hp_); have _ := AM (IsS63.grown (iX63_6_spec_DrawVectorGood HI105.out) hg (IsS63.own_ne HI105.out HO_11.out (by decide))); have _ := AM ((by rw [hw]; exact bS (HB.out) GB25.out : Below w.heap.size w w29)); clear HO_11 HI105 HB; rename_i HO_11 HI105 HB; clear hg hw hp_))
       go_meet
       case rel => exact ⟨_, (y133), (t130), (t131), (t132), H', ⟨by have := HJ7.out; first | omega | exact Nat.le_refl _⟩, ⟨rX HO_11.out⟩, ⟨iX63_6_spec_DrawVectorGood HI105.out⟩, ⟨bI63_105_spec_DrawVectorGood HB.out⟩⟩
      rw [if_neg c24] at H
      exact absurd H (by simp)
     rw [if_neg c23] at H
     exact absurd H (by simp)
    replace c21 := Bool.eq_false_iff.mpr c21
    subst c21
    have H1 : (spec_DrawVectorGood.j1 kj7 t106 t110 t118 t122 t101 x106001_7 x106002_7 x106003_7) = some (r1, r2, r3, r4, r5) := by rw [if_neg (show ¬ (false = true) by decide)] at H; exact H
    clear H
    have H := H1
    clear H1
    have H' := AM H
    clear H
    go_wp2
    go_meet
    case rel => exact ⟨_, (t122), (x106001_7), (x106002_7), (x106003_7), H', ⟨by have := HJ7.out; first | omega | exact Nat.le_refl _⟩, ⟨rX HO_11.out⟩, ⟨iX63_6_spec_DrawVectorGood HI105.out⟩, ⟨bI63_105_spec_DrawVectorGood HB.out⟩⟩
   case rest =>
    clear HC20
    (try clear c1); (try clear c2); (try clear p2); (try clear q2); (try clear hx2); (try clear hf2); (try clear c3); (try clear c4); (try clear c9); (try clear c16); (try clear c21); (try clear c23); (try clear c23b0); (try clear c24); (try clear c24b0); (try clear p25); (try clear q25); (try clear hx25); (try clear hf25); (try clear hx25_0)
    obtain ⟨kq, x11_19, x106001_19, x106002_19, x106003_19, HA, HJ19, HO_11, HI105, HB⟩ := hcut
    cases kq with
    | zero => exact absurd HA.out (by simp [spec_DrawVectorGood.j1])
    | succ kj19 =>
     have H := HA.out
     clear HA
     simp only [spec_DrawVectorGood.j1] at H
     replace H := Option.bind_eq_some_iff.mp H
     obtain ⟨⟨t134, t135, t136, t137⟩, A300, H⟩ := H
     try dsimp only at H
     have A30 := AM A300
     clear A300
     by_cases c31 : t134 = true
     ·
      subst c31
      have H1 : (if x11_19.length < 8796093022208 then ((spec_l01Src_n.f t101 t135 t136 t137 5).bind fun bt141 => (some (t106, t110, bt141.1, t118, (x11_19 ++ [(⟨#[]⟩ : ByteArray)])))) else (none)) = some (r1, r2, r3, r4, r5) := by rw [if_pos rfl] at H; exact H
      clear H
      have H := H1
      clear H1
      by_cases c32 : x11_19.length < 8796093022208
      ·
       rw [if_pos c32] at H
       have LMc32 := AM c32
       clear c32
       obtain ⟨y138, hy138⟩ : ∃ y_ : List ByteArray, y_ = (x11_19 ++ [(⟨#[]⟩ : ByteArray)]) := ⟨_, rfl⟩
       replace H : ((spec_l01Src_n.f t101 t135 t136 t137 5).bind fun bt141 => (some (t106, t110, bt141.1, t118, y138))) = some (r1, r2, r3, r4, r5) := by first | (rw [hy138]; with_reducible exact H) | (have H2_ := (Option.bind_some _ _).symm.trans H; rw [hy138]; with_reducible exact H2_) | (have H2_ := (Option.bind_some _ _).symm.trans H; with_reducible exact H2_) | with_reducible exact H | (rw [hy138]; exact H) | exact H
       have Ny138 := AM hy138
       clear hy138
       replace H := Option.bind_eq_some_iff.mp H
       obtain ⟨⟨t141, t142, t143, t144⟩, A330, H⟩ := H
       try dsimp only at H
       have A33 := AM A330
       clear A330
       simp only [Option.some.injEq, Prod.mk.injEq] at H
       obtain ⟨rfl, rfl, rfl, rfl, rfl⟩ := H
       go_wp2_with (first | ((with_reducible refine gate_callee (f := 43) rfl ?_); refine goesL_ (some 40) rfl rfl Tryd.func43 (by kernel_rfl) rfl #[.pointer (some ⟨g105, 0, none⟩), .int .i64 12] rfl (by (try simp only [mA, mB, mC]); first | done | rfl | (simp only [mD, mE]; rfl)) ?_; (with_reducible refine (spec_l01Src_one.calls g105 t101 x106001_19 x106002_19 x106003_19 12 true t135 t136 t137 w _ ?side1 ?side2 A30.out).mono ?_); (case side1 => exact (iX63_6_spec_DrawVectorGood HI105.out)); (case side2 => exact (bI63_105_spec_DrawVectorGood HB.out)); rintro e w34 ⟨rfl, hi, hb, hk⟩; refine ⟨_, rfl, ?_⟩; have _ := AM (Kd.R_mono (Kd.R_keep (IsS63.apart (show IsS63 w _ g105 t101 x106001_19 x106002_19 x106003_19 from iX63_6_spec_DrawVectorGood HI105.out) (rX HO_11.out) (by decide)) hk (fun _ h => h.2)) (fun _ h => h.1)); have _ := AM (hb); have _ := AM (hi); clear HO_11 HB HI105; rename_i HO_11 HB HI105; (try clear hb); (try clear hb2); (try clear hk); (try clear hi)) | ((with_reducible refine gate_builtin (b := .append) (xs := #[.tmp 41, .tmp 42]) rfl ?_); (try (refine gate_guard (by rfl) ?_; dsimp only)); at_builtin; refine Kd.R_append Kd.string (w0 := w) w.heap.size rfl (.tmp 41) (.tmp 42) 24 9 (.string ⟨#[]⟩) 16 rfl Tryd.underlying24 info9 rfl (by decide) (by omega) v123 x11_19 (⟨#[]⟩ : ByteArray) [.string (⟨#[]⟩ : ByteArray)] (fun _ => True) (fun _ => False) rfl rfl ?aP (fun _ hk => hk.elim) ?aF ?aO ?aB ?aS ?aL ?_; (case aP => exact rfl); (case aB => exact (bI63_105_spec_DrawVectorGood HB.out)); (case aF => exact (fun _ _ => trivial)); (case aO => exact (rX HO_11.out)); (case aS => exact (bZ (bI63_105_spec_DrawVectorGood HB.out))); (case aL => have := LMc32.out; omega); intro v139 w35 ho hb hg hat; rw [← Ny138.out] at ho; have _ := AM (IsS63.grown (iX63_6_spec_DrawVectorGood HI105.out) hg (IsS63.own_ne HI105.out HO_11.out (by decide))); have _ := AM (hb); have _ := AM (ho); clear HI105 HB HO_11; rename_i HI105 HB HO140; clear ho hb hg hat) | ((with_reducible refine gate_callee (f := 41) rfl ?_); refine goesL_ (some 47) rfl rfl Tryd.func41 (by kernel_rfl) rfl #[.pointer (some ⟨g105, 0, none⟩), .int .i64 5] rfl (by (try simp only [mA, mB, mC]); first | done | rfl | (simp only [mD, mE]; rfl)) ?_; (with_reducible refine (spec_l01Src_n.calls g105 t101 t135 t136 t137 5 t141 t142 t143 t144 w _ ?side1 ?side2 A33.out).mono ?_); (case side1 => exact (iX63_6_spec_DrawVectorGood HI105.out)); (case side2 => exact (bI63_105_spec_DrawVectorGood HB.out)); rintro e w36 ⟨rfl, hi, hb, hk⟩; refine ⟨_, rfl, ?_⟩; have _ := AM (Kd.R_mono (Kd.R_keep (IsS63.apart (show IsS63 w _ g105 t101 t135 t136 t137 from iX63_6_spec_DrawVectorGood HI105.out) (rX HO140.out) (by decide)) hk (fun _ h => h.2)) (fun _ h => h.1)); have _ := AM (hb); have _ := AM (hi); clear HO140 HB HI105; rename_i HO140 HB HI105; (try clear hb); (try clear hb2); (try clear hk); (try clear hi)))
       refine bodyPost_ret (results_list (rs := [.tmp 2, .tmp 3, .tmp 4, .tmp 5, .tmp 6]) rfl (by simp) (.tmp (.tmp (.tmp (.tmp (.tmp .nil)))))) rfl ?_
       exact ⟨_, by first | rfl | (simp [*, errW_none, errW_some] <;> rfl), rX HO140.out, bI63_105_spec_DrawVectorGood HB.out⟩
      rw [if_neg c32] at H
      exact absurd H (by simp)
     replace c31 := Bool.eq_false_iff.mpr c31
     subst c31
     have H1 : ((spec_l01Src_n.f t101 t135 t136 t137 5).bind fun bt145 => (some (t106, t110, bt145.1, t118, x11_19))) = some (r1, r2, r3, r4, r5) := by rw [if_neg (show ¬ (false = true) by decide)] at H; exact H
     clear H
     have H := H1
     clear H1
     replace H := Option.bind_eq_some_iff.mp H
     obtain ⟨⟨t145, t146, t147, t148⟩, A370, H⟩ := H
     try dsimp only at H
     have A37 := AM A370
     clear A370
     simp only [Option.some.injEq, Prod.mk.injEq] at H
     obtain ⟨rfl, rfl, rfl, rfl, rfl⟩ := H
     go_wp2_with (first | ((with_reducible refine gate_callee (f := 43) rfl ?_); refine goesL_ (some 40) rfl rfl Tryd.func43 (by kernel_rfl) rfl #[.pointer (some ⟨g105, 0, none⟩), .int .i64 12] rfl (by (try simp only [mA, mB, mC]); first | done | rfl | (simp only [mD, mE]; rfl)) ?_; (with_reducible refine (spec_l01Src_one.calls g105 t101 x106001_19 x106002_19 x106003_19 12 false t135 t136 t137 w _ ?side1 ?side2 A30.out).mono ?_); (case side1 => exact (iX63_6_spec_DrawVectorGood HI105.out)); (case side2 => exact (bI63_105_spec_DrawVectorGood HB.out)); rintro e w38 ⟨rfl, hi, hb, hk⟩; refine ⟨_, rfl, ?_⟩; have _ := AM (Kd.R_mono (Kd.R_keep (IsS63.apart (show IsS63 w _ g105 t101 x106001_19 x106002_19 x106003_19 from iX63_6_spec_DrawVectorGood HI105.out) (rX HO_11.out) (by decide)) hk (fun _ h => h.2)) (fun _ h => h.1)); have _ := AM (hb); have _ := AM (hi); clear HO_11 HB HI105; rename_i HO_11 HB HI105; (try clear hb); (try clear hb2); (try clear hk); (try clear hi)) | ((with_reducible refine gate_callee (f := 41) rfl ?_); refine goesL_ (some 47) rfl rfl Tryd.func41 (by kernel_rfl) rfl #[.pointer (some ⟨g105, 0, none⟩), .int .i64 5] rfl (by (try simp only [mA, mB, mC]); first | done | rfl | (simp only [mD, mE]; rfl)) ?_; (with_reducible refine (spec_l01Src_n.calls g105 t101 t135 t136 t137 5 t145 t146 t147 t148 w _ ?side1 ?side2 A37.out).mono ?_); (case side1 => exact (iX63_6_spec_DrawVectorGood HI105.out)); (case side2 => exact (bI63_105_spec_DrawVectorGood HB.out)); rintro e w39 ⟨rfl, hi, hb, hk⟩; refine ⟨_, rfl, ?_⟩; have _ := AM (Kd.R_mono (Kd.R_keep (IsS63.apart (show IsS63 w _ g105 t101 t135 t136 t137 from iX63_6_spec_DrawVectorGood HI105.out) (rX HO_11.out) (by decide)) hk (fun _ h => h.2)) (fun _ h => h.1)); have _ := AM (hb); have _ := AM (hi); clear HO_11 HB HI105; rename_i HO_11 HB HI105; (try clear hb); (try clear hb2); (try clear hk); (try clear hi)))
     refine bodyPost_ret (results_list (rs := [.tmp 2, .tmp 3, .tmp 4, .tmp 5, .tmp 6]) rfl (by simp) (.tmp (.tmp (.tmp (.tmp (.tmp .nil)))))) rfl ?_
     exact ⟨_, by first | rfl | (simp [*, errW_none, errW_some] <;> rfl), rX HO_11.out, bI63_105_spec_DrawVectorGood HB.out⟩

end Go.Proofs.YtgpgamapopnfcaaDoor.Q
