/- Printed by a program of this session (wip/mp.py over the kit's print.py): functions of the translation as plain Lean functions, and that the machine's calls do what these say. -/
import Derived.Test.YtbediildfabhnaaDoorQx0
import Derived.Test.YtbediildfabhnaaDoorQx2
import Derived.Test.YtbediildfabhnaaDoorQx3
import Derived.Test.YtbediildfabhnaaDoorQx6
namespace Go.Proofs.YtbediildfabhnaaDoor.Q
open Go.RowKit Go.Proofs.YtbediildfabhnaaDoor.HB Go.Proofs.YtbediildfabhnaaDoorW.PrintWords Go.Proofs.YtbediildfabhnaaDoorW.PrintLast Go.Proofs.YtbediildfabhnaaDoorW.PrintMore
attribute [local go_sem] max2_int min2_int max_two min_two max_three min_three max_four min_four   -- for this text's walks alone
set_option linter.unusedVariables false
set_option linter.unusedSimpArgs false

/-! ### spec_l01Src_spoil: function 29 -/

def spec_l01Src_spoil.j0 : Nat → ByteArray → Int → ByteArray → Bool → List Int → Int → Int → Int → Option (ByteArray × Int × Int × Int)
  | 0, _, _, _, _, _, _, _, _ => none
  | k + 1, x1, x5, x6, x24, x1000, x1001, x1002, x1003 => if x24 = true then (if 0 ≤ x5 then (if x5 ≤ (x1.size : Int) then (if (x1.extract 0 (x5 : Int).toNat).size + x6.size ≤ 9223372036854775807 then (if ((x1.extract 0 (x5 : Int).toNat) ++ x6).size + (x1.extract (x5 : Int).toNat x1.size).size ≤ 9223372036854775807 then (some (((x1.extract 0 (x5 : Int).toNat) ++ x6) ++ (x1.extract (x5 : Int).toNat x1.size), x1001, x1002, x1003)) else (none)) else (none)) else (none)) else (none)) else ((spec_l01Src_one.f x1000 x1001 x1002 x1003 2).bind fun bt116 => (if bt116.1 = true then (if 0 ≤ x5 then (if x5 ≤ (x1.size : Int) then (if 0 ≤ (wrap64 (x5 + 1)) then (if (wrap64 (x5 + 1)) ≤ (x1.size : Int) then (if (x1.extract 0 (x5 : Int).toNat).size + (x1.extract ((wrap64 (x5 + 1)) : Int).toNat x1.size).size ≤ 9223372036854775807 then (some ((x1.extract 0 (x5 : Int).toNat) ++ (x1.extract ((wrap64 (x5 + 1)) : Int).toNat x1.size), bt116.2.1, bt116.2.2.1, bt116.2.2.2)) else (none)) else (none)) else (none)) else (none)) else (none)) else (if 0 ≤ x5 then (if x5 ≤ (x1.size : Int) then (if (x1.extract 0 (x5 : Int).toNat).size + x6.size ≤ 9223372036854775807 then (if 0 ≤ (wrap64 (x5 + 1)) then (if (wrap64 (x5 + 1)) ≤ (x1.size : Int) then (if ((x1.extract 0 (x5 : Int).toNat) ++ x6).size + (x1.extract ((wrap64 (x5 + 1)) : Int).toNat x1.size).size ≤ 9223372036854775807 then (some (((x1.extract 0 (x5 : Int).toNat) ++ x6) ++ (x1.extract ((wrap64 (x5 + 1)) : Int).toNat x1.size), bt116.2.1, bt116.2.2.1, bt116.2.2.2)) else (none)) else (none)) else (none)) else (none)) else (none)) else (none))))
def spec_l01Src_spoil.f (k : Nat) (s0_0 : List Int) (s0_1 : Int) (s0_2 : Int) (s0_3 : Int) (a1 : ByteArray) : Option (ByteArray × Int × Int × Int) := (spec_l01Src_n.f s0_0 s0_1 s0_2 s0_3 (wrap64 ((a1.size : Int) + 1))).bind fun bt101 => ((spec_l01Src_n.f s0_0 bt101.2.1 bt101.2.2.1 bt101.2.2.2 17).bind fun bt105 => (if 0 ≤ bt105.1 then (if bt105.1 < 17 then ((some (([bt (⟨#[32, 10, 48, 97, 45, 110, 44, 58, 93, 255, 40, 120, 126, 49, 128, 225, 59]⟩ : ByteArray) bt105.1] : List Int) : List Int)).bind fun y109 => (if bt101.1 = (a1.size : Int) then (spec_l01Src_spoil.j0 k a1 bt101.1 (strOfNums y109) true s0_0 bt105.2.1 bt105.2.2.1 bt105.2.2.2) else ((spec_l01Src_one.f s0_0 bt105.2.1 bt105.2.2.1 bt105.2.2.2 3).bind fun bt112 => (spec_l01Src_spoil.j0 k a1 bt101.1 (strOfNums y109) bt112.1 s0_0 bt112.2.1 bt112.2.2.1 bt112.2.2.2)))) else (none)) else (none)))
theorem spec_l01Src_spoil.mono_l : ∀ k, (∀ y0 y1 y2 y3 y4 y5 y6 y7, LeO (spec_l01Src_spoil.j0 k y0 y1 y2 y3 y4 y5 y6 y7) (spec_l01Src_spoil.j0 (k + 1) y0 y1 y2 y3 y4 y5 y6 y7))
  | 0 => fun _ _ _ _ _ _ _ _ r h => by simp [spec_l01Src_spoil.j0] at h
  | k + 1 => by
    have ih0 := spec_l01Src_spoil.mono_l k
    · intro y0 y1 y2 y3 y4 y5 y6 y7
      unfold spec_l01Src_spoil.j0
      repeat' first
      | (with_reducible exact ih0 _ _ _ _ _ _ _ _)
      | (with_reducible exact LeO.refl _)
      | (with_reducible exact LeO.none _)
      | (with_reducible refine LeO.ite ?_ ?_)
      | (with_reducible refine LeO.bind ?_ (fun _ => ?_))
      | exact ih0 _ _ _ _ _ _ _ _
      | exact LeO.none _
      | refine LeO.ite ?_ ?_
      | refine LeO.bind ?_ (fun _ => ?_)
theorem spec_l01Src_spoil.mono : ∀ a0 a1 a2 a3 a4 k, LeO (spec_l01Src_spoil.f k a0 a1 a2 a3 a4) (spec_l01Src_spoil.f (k + 1) a0 a1 a2 a3 a4) := by
  intro a0 a1 a2 a3 a4 k
  have ih0 := spec_l01Src_spoil.mono_l k
  unfold spec_l01Src_spoil.f
  repeat' first
      | (with_reducible exact ih0 _ _ _ _ _ _ _ _)
      | (with_reducible exact LeO.refl _)
      | (with_reducible exact LeO.none _)
      | (with_reducible refine LeO.ite ?_ ?_)
      | (with_reducible refine LeO.bind ?_ (fun _ => ?_))
      | exact ih0 _ _ _ _ _ _ _ _
      | exact LeO.none _
      | refine LeO.ite ?_ ?_
      | refine LeO.bind ?_ (fun _ => ?_)
theorem bI51_0_spec_l01Src_spoil {n : Nat} {w W W' : World} (h : Below n w W) (f : Below n w W → Below n w W' := by intro h_; repeat (first | (with_reducible first | exact h_ | apply bA | apply bN | apply bD | refine bS ?_ (IsS51.ge HI0.out) | refine bS ?_ (Aside0.out (by assumption))) | exact h_)) : Below n w W' := f h
theorem iX51_6_spec_l01Src_spoil {p q : Prop} (h : p) (f : p → q := by intro h_; repeat (first | (with_reducible first | exact h_ | apply IsS51.alloc | apply IsS51.drewN | apply IsS51.drew | apply IsS51.set_1 | apply IsS51.set_2 | apply IsS51.set_3 | refine IsS51.far ?_ (Aside0.out (by assumption)) _ | apply IsS51.far | exact Aside0.out (by assumption)) | exact h_)) : q := f h
set_option maxHeartbeats 60000000 in
set_option maxRecDepth 100000 in
theorem spec_l01Src_spoil.calls (k : Nat) (g : Nat) (s0_0 : List Int) (s0_1 : Int) (s0_2 : Int) (s0_3 : Int) (a1 : ByteArray) (r1 : ByteArray) (r2 : Int) (r3 : Int) (r4 : Int) (w0 w : World) (hI : IsS51 w0 w g s0_0 s0_1 s0_2 s0_3) (hB : Below w0.heap.size w0 w) (h : spec_l01Src_spoil.f k s0_0 s0_1 s0_2 s0_3 a1 = some (r1, r2, r3, r4)) :
    Calls Tryd.prog 29 #[.pointer (some ⟨g, 0, none⟩), .string a1] w fun e w' => e = .returned (.string r1) ∧ IsS51 w0 w' g s0_0 r2 r3 r4 ∧ Below w0.heap.size w0 w' ∧ KeepBut w w' g none := by
 have HI0 := AM hI
 have HK := AM (KeepBut.refl w g none)
 have HL := AM hB.size
 clear hI
 have HW0 := AM hB.size
 have HB := AM hB
 clear hB
 have H : ((spec_l01Src_n.f s0_0 s0_1 s0_2 s0_3 (wrap64 ((a1.size : Int) + 1))).bind fun bt101 => ((spec_l01Src_n.f s0_0 bt101.2.1 bt101.2.2.1 bt101.2.2.2 17).bind fun bt105 => (if 0 ≤ bt105.1 then (if bt105.1 < 17 then ((some (([bt (⟨#[32, 10, 48, 97, 45, 110, 44, 58, 93, 255, 40, 120, 126, 49, 128, 225, 59]⟩ : ByteArray) bt105.1] : List Int) : List Int)).bind fun y109 => (if bt101.1 = (a1.size : Int) then (spec_l01Src_spoil.j0 k a1 bt101.1 (strOfNums y109) true s0_0 bt105.2.1 bt105.2.2.1 bt105.2.2.2) else ((spec_l01Src_one.f s0_0 bt105.2.1 bt105.2.2.1 bt105.2.2.2 3).bind fun bt112 => (spec_l01Src_spoil.j0 k a1 bt101.1 (strOfNums y109) bt112.1 s0_0 bt112.2.1 bt112.2.2.1 bt112.2.2.2)))) else (none)) else (none)))) = some (r1, r2, r3, r4) := h
 clear h
 replace H := Option.bind_eq_some_iff.mp H
 obtain ⟨⟨t101, t102, t103, t104⟩, A30, H⟩ := H
 try dsimp only at H
 have A3 := AM A30
 clear A30
 replace H := Option.bind_eq_some_iff.mp H
 obtain ⟨⟨t105, t106, t107, t108⟩, A40, H⟩ := H
 try dsimp only at H
 have A4 := AM A40
 clear A40
 by_cases c5 : 0 ≤ t105
 ·
  rw [if_pos c5] at H
  have c5b0 : decide (0 ≤ t105) = true := decide_eq_true c5
  clear c5
  by_cases c6 : t105 < 17
  ·
   rw [if_pos c6] at H
   have c6b0 : decide (t105 < 17) = true := decide_eq_true c6
   clear c6
   obtain ⟨y109, hy109⟩ : ∃ y_ : List Int, y_ = (([bt (⟨#[32, 10, 48, 97, 45, 110, 44, 58, 93, 255, 40, 120, 126, 49, 128, 225, 59]⟩ : ByteArray) t105] : List Int)) := ⟨_, rfl⟩
   replace H : (if t101 = (a1.size : Int) then (spec_l01Src_spoil.j0 k a1 t101 (strOfNums y109) true s0_0 t106 t107 t108) else ((spec_l01Src_one.f s0_0 t106 t107 t108 3).bind fun bt112 => (spec_l01Src_spoil.j0 k a1 t101 (strOfNums y109) bt112.1 s0_0 bt112.2.1 bt112.2.2.1 bt112.2.2.2))) = some (r1, r2, r3, r4) := by first | (rw [hy109]; with_reducible exact H) | (have H2_ := (Option.bind_some _ _).symm.trans H; rw [hy109]; with_reducible exact H2_) | (have H2_ := (Option.bind_some _ _).symm.trans H; with_reducible exact H2_) | with_reducible exact H | (rw [hy109]; exact H) | exact H
   have Ny109 := AM hy109
   clear hy109
   have HC8 := AM H
   clear H
   go_enter Tryd.func29, Tryd.ntmps29
   go_upto_region 3 with (first | (go_at_call 21; (with_reducible refine (spec_l01Src_n.calls g s0_0 s0_1 s0_2 s0_3 (wrap64 ((a1.size : Int) + 1)) t101 t102 t103 t104 w0 _ ?side1 ?side2 A3.out).mono ?_); (case side1 => exact (iX51_6_spec_l01Src_spoil HI0.out)); (case side2 => exact (bI51_0_spec_l01Src_spoil HB.out)); rintro e w9 ⟨rfl, hi, hb, hk⟩; have _ := AM (KeepBut.trans (hX HK.out) hk (.inl rfl)); have _ := AM (hb); have _ := AM (hi); clear HK HB HI0; rename_i HK HB HI0; (try clear hb); (try clear hb2); (try clear hk); (try clear hi)) | (go_at_call 21; (with_reducible refine (spec_l01Src_n.calls g s0_0 t102 t103 t104 17 t105 t106 t107 t108 w0 _ ?side1 ?side2 A4.out).mono ?_); (case side1 => exact (iX51_6_spec_l01Src_spoil HI0.out)); (case side2 => exact (bI51_0_spec_l01Src_spoil HB.out)); rintro e w10 ⟨rfl, hi, hb, hk⟩; have _ := AM (KeepBut.trans (hX HK.out) hk (.inl rfl)); have _ := AM (hb); have _ := AM (hi); clear HK HB HI0; rename_i HK HB HI0; (try clear hb); (try clear hb2); (try clear hk); (try clear hi); have p7 : 0 ≤ (t105 : Int) := of_decide_eq_true (by assumption); have q7 : t105 < (17 : Int) := of_decide_eq_true (by assumption); have hx7 := bt_at (⟨#[32, 10, 48, 97, 45, 110, 44, 58, 93, 255, 40, 120, 126, 49, 128, 225, 59]⟩ : ByteArray) t105; replace p7 := eq_true p7; replace q7 := eq_true q7) | ((with_reducible refine gate_dst (N := 15) rfl ?_); refine Kd.R_lit (Kd.int .u8) _ 5 ?hg (N := 15) ?hd (xs := ([bt (⟨#[32, 10, 48, 97, 45, 110, 44, 58, 93, 255, 40, 120, 126, 49, 128, 225, 59]⟩ : ByteArray) t105] : List Int)) (inner := [.int .u8 (bt (⟨#[32, 10, 48, 97, 45, 110, 44, 58, 93, 255, 40, 120, 126, 49, 128, 225, 59]⟩ : ByteArray) t105)]) (ok := fun _ => True) (okp := fun _ => True) ?hr ?hp (fun _ hk => hk) trivial (Below.refl _ _) (Nat.le_refl _) (by simp) ?_; (case hd => rfl); (case hg => rfl); (case hr => first | (go_simp; done) | (go_simp; rfl)); (case hp => exact (Reps.one (show Kd.M (Kd.int .u8) _ _ _ (bt (⟨#[32, 10, 48, 97, 45, 110, 44, 58, 93, 255, 40, 120, 126, 49, 128, 225, 59]⟩ : ByteArray) t105) [.int .u8 (bt (⟨#[32, 10, 48, 97, 45, 110, 44, 58, 93, 255, 40, 120, 126, 49, 128, 225, 59]⟩ : ByteArray) t105)] from rfl) (Reps.none _ _))); intro v110 w11 ho12 hb hg_ hnew_; clear hg_ hnew_; (first | rw [← Ny109.out] at ho12 | (simp only [Int.reduceToNat] at ho12; rw [← Ny109.out] at ho12)); have _ := AM (Kd.R_lower ho12 (keep_size (w := w) (g := g) (row := none) (hX HK.out))); have _ := AM (IsS51.below (iX51_6_spec_l01Src_spoil HI0.out) hb); have _ := AM (KeepBut.trans (hX HK.out) (KeepBut.of_below hb g none) (.inl rfl)); have _ := AM (below_step (bI51_0_spec_l01Src_spoil HB.out) hb); clear HI0 HK HB; rename_i HO111 HI0 HK HB; clear hb ho12; have hcv13 := own_string (P := Tryd.prog) Tryd.underlying22 Tryd.underlying5 Tryd.underlying9 (Kd.own_of_R HO111.out)))
   repeat (go_quiet (first | (go_at_call 21; (with_reducible refine (spec_l01Src_n.calls g s0_0 s0_1 s0_2 s0_3 (wrap64 ((a1.size : Int) + 1)) t101 t102 t103 t104 w0 _ ?side1 ?side2 A3.out).mono ?_); (case side1 => exact (iX51_6_spec_l01Src_spoil HI0.out)); (case side2 => exact (bI51_0_spec_l01Src_spoil HB.out)); rintro e w9 ⟨rfl, hi, hb, hk⟩; have _ := AM (KeepBut.trans (hX HK.out) hk (.inl rfl)); have _ := AM (hb); have _ := AM (hi); clear HK HB HI0; rename_i HK HB HI0; (try clear hb); (try clear hb2); (try clear hk); (try clear hi)) | (go_at_call 21; (with_reducible refine (spec_l01Src_n.calls g s0_0 t102 t103 t104 17 t105 t106 t107 t108 w0 _ ?side1 ?side2 A4.out).mono ?_); (case side1 => exact (iX51_6_spec_l01Src_spoil HI0.out)); (case side2 => exact (bI51_0_spec_l01Src_spoil HB.out)); rintro e w10 ⟨rfl, hi, hb, hk⟩; have _ := AM (KeepBut.trans (hX HK.out) hk (.inl rfl)); have _ := AM (hb); have _ := AM (hi); clear HK HB HI0; rename_i HK HB HI0; (try clear hb); (try clear hb2); (try clear hk); (try clear hi); have p7 : 0 ≤ (t105 : Int) := of_decide_eq_true (by assumption); have q7 : t105 < (17 : Int) := of_decide_eq_true (by assumption); have hx7 := bt_at (⟨#[32, 10, 48, 97, 45, 110, 44, 58, 93, 255, 40, 120, 126, 49, 128, 225, 59]⟩ : ByteArray) t105; replace p7 := eq_true p7; replace q7 := eq_true q7) | ((with_reducible refine gate_dst (N := 15) rfl ?_); refine Kd.R_lit (Kd.int .u8) _ 5 ?hg (N := 15) ?hd (xs := ([bt (⟨#[32, 10, 48, 97, 45, 110, 44, 58, 93, 255, 40, 120, 126, 49, 128, 225, 59]⟩ : ByteArray) t105] : List Int)) (inner := [.int .u8 (bt (⟨#[32, 10, 48, 97, 45, 110, 44, 58, 93, 255, 40, 120, 126, 49, 128, 225, 59]⟩ : ByteArray) t105)]) (ok := fun _ => True) (okp := fun _ => True) ?hr ?hp (fun _ hk => hk) trivial (Below.refl _ _) (Nat.le_refl _) (by simp) ?_; (case hd => rfl); (case hg => rfl); (case hr => first | (go_simp; done) | (go_simp; rfl)); (case hp => exact (Reps.one (show Kd.M (Kd.int .u8) _ _ _ (bt (⟨#[32, 10, 48, 97, 45, 110, 44, 58, 93, 255, 40, 120, 126, 49, 128, 225, 59]⟩ : ByteArray) t105) [.int .u8 (bt (⟨#[32, 10, 48, 97, 45, 110, 44, 58, 93, 255, 40, 120, 126, 49, 128, 225, 59]⟩ : ByteArray) t105)] from rfl) (Reps.none _ _))); intro v110 w11 ho12 hb hg_ hnew_; clear hg_ hnew_; (first | rw [← Ny109.out] at ho12 | (simp only [Int.reduceToNat] at ho12; rw [← Ny109.out] at ho12)); have _ := AM (Kd.R_lower ho12 (keep_size (w := w) (g := g) (row := none) (hX HK.out))); have _ := AM (IsS51.below (iX51_6_spec_l01Src_spoil HI0.out) hb); have _ := AM (KeepBut.trans (hX HK.out) (KeepBut.of_below hb g none) (.inl rfl)); have _ := AM (below_step (bI51_0_spec_l01Src_spoil HB.out) hb); clear HI0 HK HB; rename_i HO111 HI0 HK HB; clear hb ho12; have hcv13 := own_string (P := Tryd.prog) Tryd.underlying22 Tryd.underlying5 Tryd.underlying9 (Kd.own_of_R HO111.out))); go_upto_region 3 with (first | (go_at_call 21; (with_reducible refine (spec_l01Src_n.calls g s0_0 s0_1 s0_2 s0_3 (wrap64 ((a1.size : Int) + 1)) t101 t102 t103 t104 w0 _ ?side1 ?side2 A3.out).mono ?_); (case side1 => exact (iX51_6_spec_l01Src_spoil HI0.out)); (case side2 => exact (bI51_0_spec_l01Src_spoil HB.out)); rintro e w9 ⟨rfl, hi, hb, hk⟩; have _ := AM (KeepBut.trans (hX HK.out) hk (.inl rfl)); have _ := AM (hb); have _ := AM (hi); clear HK HB HI0; rename_i HK HB HI0; (try clear hb); (try clear hb2); (try clear hk); (try clear hi)) | (go_at_call 21; (with_reducible refine (spec_l01Src_n.calls g s0_0 t102 t103 t104 17 t105 t106 t107 t108 w0 _ ?side1 ?side2 A4.out).mono ?_); (case side1 => exact (iX51_6_spec_l01Src_spoil HI0.out)); (case side2 => exact (bI51_0_spec_l01Src_spoil HB.out)); rintro e w10 ⟨rfl, hi, hb, hk⟩; have _ := AM (KeepBut.trans (hX HK.out) hk (.inl rfl)); have _ := AM (hb); have _ := AM (hi); clear HK HB HI0; rename_i HK HB HI0; (try clear hb); (try clear hb2); (try clear hk); (try clear hi); have p7 : 0 ≤ (t105 : Int) := of_decide_eq_true (by assumption); have q7 : t105 < (17 : Int) := of_decide_eq_true (by assumption); have hx7 := bt_at (⟨#[32, 10, 48, 97, 45, 110, 44, 58, 93, 255, 40, 120, 126, 49, 128, 225, 59]⟩ : ByteArray) t105; replace p7 := eq_true p7; replace q7 := eq_true q7) | ((with_reducible refine gate_dst (N := 15) rfl ?_); refine Kd.R_lit (Kd.int .u8) _ 5 ?hg (N := 15) ?hd (xs := ([bt (⟨#[32, 10, 48, 97, 45, 110, 44, 58, 93, 255, 40, 120, 126, 49, 128, 225, 59]⟩ : ByteArray) t105] : List Int)) (inner := [.int .u8 (bt (⟨#[32, 10, 48, 97, 45, 110, 44, 58, 93, 255, 40, 120, 126, 49, 128, 225, 59]⟩ : ByteArray) t105)]) (ok := fun _ => True) (okp := fun _ => True) ?hr ?hp (fun _ hk => hk) trivial (Below.refl _ _) (Nat.le_refl _) (by simp) ?_; (case hd => rfl); (case hg => rfl); (case hr => first | (go_simp; done) | (go_simp; rfl)); (case hp => exact (Reps.one (show Kd.M (Kd.int .u8) _ _ _ (bt (⟨#[32, 10, 48, 97, 45, 110, 44, 58, 93, 255, 40, 120, 126, 49, 128, 225, 59]⟩ : ByteArray) t105) [.int .u8 (bt (⟨#[32, 10, 48, 97, 45, 110, 44, 58, 93, 255, 40, 120, 126, 49, 128, 225, 59]⟩ : ByteArray) t105)] from rfl) (Reps.none _ _))); intro v110 w11 ho12 hb hg_ hnew_; clear hg_ hnew_; (first | rw [← Ny109.out] at ho12 | (simp only [Int.reduceToNat] at ho12; rw [← Ny109.out] at ho12)); have _ := AM (Kd.R_lower ho12 (keep_size (w := w) (g := g) (row := none) (hX HK.out))); have _ := AM (IsS51.below (iX51_6_spec_l01Src_spoil HI0.out) hb); have _ := AM (KeepBut.trans (hX HK.out) (KeepBut.of_below hb g none) (.inl rfl)); have _ := AM (below_step (bI51_0_spec_l01Src_spoil HB.out) hb); clear HI0 HK HB; rename_i HO111 HI0 HK HB; clear hb ho12; have hcv13 := own_string (P := Tryd.prog) Tryd.underlying22 Tryd.underlying5 Tryd.underlying9 (Kd.own_of_R HO111.out))))
   (try simp only [Act.put, List.setIfInBounds_toArray, List.set_cons_zero, List.set_cons_succ])
   go_cut [24] (fun v24 wc => ∃ (kq : Nat) (x24_7 : Bool) (x1001_7 : Int) (x1002_7 : Int) (x1003_7 : Int), v24 = .bool x24_7 ∧ Aside0 (spec_l01Src_spoil.j0 kq a1 t101 (strOfNums y109) x24_7 s0_0 x1001_7 x1002_7 x1003_7 = some (r1, r2, r3, r4)) ∧ Aside0 (kq ≤ k) ∧ Aside0 (IsS51 w0 wc g s0_0 x1001_7 x1002_7 x1003_7) ∧ Aside0 (KeepBut w wc g none) ∧ Aside0 (Below w0.heap.size w0 wc))
   case first =>
    have H := HC8.out
    clear HC8
    by_cases c14 : t101 = (a1.size : Int)
    ·
     rw [if_pos c14] at H
     have c14b0 : (t101 == (a1.size : Int)) = true := beq_iff_eq.mpr c14
     have c14b1 : (t101 != (a1.size : Int)) = false := bne_eq_false_iff_eq.mpr c14
     clear c14
     (first | rw [c14b0] | (simp only [i64_w, i32_w]; rw [c14b0]) | skip)
     have H' := AM H
     clear H
     go_wp2
     repeat (go_quiet (fail); try go_wp2)
     go_meet
     case rel => exact ⟨_, (true), (t106), (t107), (t108), (by first | rfl | (simp; done) | (simp [*]; done)), H', ⟨by first | omega | exact Nat.le_refl _⟩, ⟨iX51_6_spec_l01Src_spoil HI0.out⟩, ⟨hX HK.out⟩, ⟨bI51_0_spec_l01Src_spoil HB.out⟩⟩
    rw [if_neg c14] at H
    have c14b0 : (t101 == (a1.size : Int)) = false := beq_eq_false_iff_ne.mpr c14
    have c14b1 : (t101 != (a1.size : Int)) = true := bne_iff_ne.mpr c14
    (first | rw [c14b0] | (simp only [i64_w, i32_w]; rw [c14b0]) | skip)
    replace H := Option.bind_eq_some_iff.mp H
    obtain ⟨⟨t112, t113, t114, t115⟩, A150, H⟩ := H
    try dsimp only at H
    have A15 := AM A150
    clear A150
    have H' := AM H
    clear H
    go_wp2_with (first | (go_at_call 19; (with_reducible refine (spec_l01Src_one.calls g s0_0 t106 t107 t108 3 t112 t113 t114 t115 w0 _ ?side1 ?side2 A15.out).mono ?_); (case side1 => exact (iX51_6_spec_l01Src_spoil HI0.out)); (case side2 => exact (bI51_0_spec_l01Src_spoil HB.out)); rintro e w16 ⟨rfl, hi, hb, hk⟩; have _ := AM (Kd.R_mono (Kd.R_keep (IsS51.apart (show IsS51 w0 _ g s0_0 t106 t107 t108 from iX51_6_spec_l01Src_spoil HI0.out) (rX HO111.out) (by decide)) hk (fun _ h => h.2)) (fun _ h => h.1)); have _ := AM (KeepBut.trans (hX HK.out) hk (.inl rfl)); have _ := AM (hb); have _ := AM (hi); clear HO111 HK HB HI0; rename_i HO111 HK HB HI0; (try clear hb); (try clear hb2); (try clear hk); (try clear hi)))
    repeat (go_quiet (first | (go_at_call 19; (with_reducible refine (spec_l01Src_one.calls g s0_0 t106 t107 t108 3 t112 t113 t114 t115 w0 _ ?side1 ?side2 A15.out).mono ?_); (case side1 => exact (iX51_6_spec_l01Src_spoil HI0.out)); (case side2 => exact (bI51_0_spec_l01Src_spoil HB.out)); rintro e w16 ⟨rfl, hi, hb, hk⟩; have _ := AM (Kd.R_mono (Kd.R_keep (IsS51.apart (show IsS51 w0 _ g s0_0 t106 t107 t108 from iX51_6_spec_l01Src_spoil HI0.out) (rX HO111.out) (by decide)) hk (fun _ h => h.2)) (fun _ h => h.1)); have _ := AM (KeepBut.trans (hX HK.out) hk (.inl rfl)); have _ := AM (hb); have _ := AM (hi); clear HO111 HK HB HI0; rename_i HO111 HK HB HI0; (try clear hb); (try clear hb2); (try clear hk); (try clear hi))); try go_wp2_with (first | (go_at_call 19; (with_reducible refine (spec_l01Src_one.calls g s0_0 t106 t107 t108 3 t112 t113 t114 t115 w0 _ ?side1 ?side2 A15.out).mono ?_); (case side1 => exact (iX51_6_spec_l01Src_spoil HI0.out)); (case side2 => exact (bI51_0_spec_l01Src_spoil HB.out)); rintro e w16 ⟨rfl, hi, hb, hk⟩; have _ := AM (Kd.R_mono (Kd.R_keep (IsS51.apart (show IsS51 w0 _ g s0_0 t106 t107 t108 from iX51_6_spec_l01Src_spoil HI0.out) (rX HO111.out) (by decide)) hk (fun _ h => h.2)) (fun _ h => h.1)); have _ := AM (KeepBut.trans (hX HK.out) hk (.inl rfl)); have _ := AM (hb); have _ := AM (hi); clear HO111 HK HB HI0; rename_i HO111 HK HB HI0; (try clear hb); (try clear hb2); (try clear hk); (try clear hi))))
    go_meet
    case rel => exact ⟨_, (t112), (t113), (t114), (t115), (by first | rfl | (simp; done) | (simp [*]; done)), H', ⟨by first | omega | exact Nat.le_refl _⟩, ⟨iX51_6_spec_l01Src_spoil HI0.out⟩, ⟨hX HK.out⟩, ⟨bI51_0_spec_l01Src_spoil HB.out⟩⟩
   case rest =>
    clear HC8
    (try clear c1); (try clear hcv1); (try clear c2); (try clear p2); (try clear c5); (try clear c5b0); (try clear c6); (try clear c6b0); (try clear p6); (try clear p7); (try clear q7); (try clear hx7); (try clear hcv13); (try clear c14); (try clear c14b0); (try clear c14b1)
    obtain ⟨kq, x24_7, x1001_7, x1002_7, x1003_7, rfl, HA, HJ7, HI0, HK, HB⟩ := hcut
    cases kq with
    | zero => exact absurd HA.out (by simp [spec_l01Src_spoil.j0])
    | succ kj7 =>
     have H := HA.out
     clear HA
     simp only [spec_l01Src_spoil.j0] at H
     by_cases c17 : x24_7 = true
     ·
      subst c17
      have H1 : (if 0 ≤ t101 then (if t101 ≤ (a1.size : Int) then (if (a1.extract 0 (t101 : Int).toNat).size + (strOfNums y109).size ≤ 9223372036854775807 then (if ((a1.extract 0 (t101 : Int).toNat) ++ (strOfNums y109)).size + (a1.extract (t101 : Int).toNat a1.size).size ≤ 9223372036854775807 then (some (((a1.extract 0 (t101 : Int).toNat) ++ (strOfNums y109)) ++ (a1.extract (t101 : Int).toNat a1.size), x1001_7, x1002_7, x1003_7)) else (none)) else (none)) else (none)) else (none)) = some (r1, r2, r3, r4) := by rw [if_pos rfl] at H; exact H
      clear H
      have H := H1
      clear H1
      by_cases c18 : 0 ≤ t101
      ·
       rw [if_pos c18] at H
       have c18b0 := eq_true c18
       have c18b1 : decide (0 ≤ t101) = true := decide_eq_true c18
       clear c18
       by_cases c19 : t101 ≤ (a1.size : Int)
       ·
        rw [if_pos c19] at H
        have c19b0 := eq_true c19
        have c19b1 : decide (t101 ≤ (a1.size : Int)) = true := decide_eq_true c19
        clear c19
        by_cases c20 : (a1.extract 0 (t101 : Int).toNat).size + (strOfNums y109).size ≤ 9223372036854775807
        ·
         rw [if_pos c20] at H
         have c20b0 := eq_true c20
         have c20b1 : decide ((a1.extract 0 (t101 : Int).toNat).size + (strOfNums y109).size ≤ 9223372036854775807) = true := decide_eq_true c20
         try have c20b2 : (9223372036854775807 < (a1.extract 0 (t101 : Int).toNat).size + (strOfNums y109).size) = False := eq_false (Nat.not_lt.2 c20)
         have c21b0 := eq_true (of_decide_eq_true (by assumption) : 0 ≤ t101)
         have c22b0 := eq_true (of_decide_eq_true (by assumption) : t101 ≤ (a1.size : Int))
         by_cases c23 : ((a1.extract 0 (t101 : Int).toNat) ++ (strOfNums y109)).size + (a1.extract (t101 : Int).toNat a1.size).size ≤ 9223372036854775807
         ·
          rw [if_pos c23] at H
          have c23b0 := eq_true c23
          have c23b1 : decide (((a1.extract 0 (t101 : Int).toNat) ++ (strOfNums y109)).size + (a1.extract (t101 : Int).toNat a1.size).size ≤ 9223372036854775807) = true := decide_eq_true c23
          try have c23b2 : (9223372036854775807 < ((a1.extract 0 (t101 : Int).toNat) ++ (strOfNums y109)).size + (a1.extract (t101 : Int).toNat a1.size).size) = False := eq_false (Nat.not_lt.2 c23)
          simp only [Option.some.injEq, Prod.mk.injEq] at H
          obtain ⟨rfl, rfl, rfl, rfl⟩ := H
          go_wp2
          repeat (go_quiet (fail); try go_wp2)
          go_ret
          exact ⟨by first | rfl | (simp [*, errW_none, errW_some] <;> rfl), iX51_6_spec_l01Src_spoil HI0.out, bI51_0_spec_l01Src_spoil HB.out, hX HK.out⟩
         rw [if_neg c23] at H
         exact absurd H (by simp)
        rw [if_neg c20] at H
        exact absurd H (by simp)
       rw [if_neg c19] at H
       exact absurd H (by simp)
      rw [if_neg c18] at H
      exact absurd H (by simp)
     replace c17 := Bool.eq_false_iff.mpr c17
     subst c17
     have H1 : ((spec_l01Src_one.f s0_0 x1001_7 x1002_7 x1003_7 2).bind fun bt116 => (if bt116.1 = true then (if 0 ≤ t101 then (if t101 ≤ (a1.size : Int) then (if 0 ≤ (wrap64 (t101 + 1)) then (if (wrap64 (t101 + 1)) ≤ (a1.size : Int) then (if (a1.extract 0 (t101 : Int).toNat).size + (a1.extract ((wrap64 (t101 + 1)) : Int).toNat a1.size).size ≤ 9223372036854775807 then (some ((a1.extract 0 (t101 : Int).toNat) ++ (a1.extract ((wrap64 (t101 + 1)) : Int).toNat a1.size), bt116.2.1, bt116.2.2.1, bt116.2.2.2)) else (none)) else (none)) else (none)) else (none)) else (none)) else (if 0 ≤ t101 then (if t101 ≤ (a1.size : Int) then (if (a1.extract 0 (t101 : Int).toNat).size + (strOfNums y109).size ≤ 9223372036854775807 then (if 0 ≤ (wrap64 (t101 + 1)) then (if (wrap64 (t101 + 1)) ≤ (a1.size : Int) then (if ((a1.extract 0 (t101 : Int).toNat) ++ (strOfNums y109)).size + (a1.extract ((wrap64 (t101 + 1)) : Int).toNat a1.size).size ≤ 9223372036854775807 then (some (((a1.extract 0 (t101 : Int).toNat) ++ (strOfNums y109)) ++ (a1.extract ((wrap64 (t101 + 1)) : Int).toNat a1.size), bt116.2.1, bt116.2.2.1, bt116.2.2.2)) else (none)) else (none)) else (none)) else (none)) else (none)) else (none)))) = some (r1, r2, r3, r4) := by rw [if_neg (show ¬ (false = true) by decide)] at H; exact H
     clear H
     have H := H1
     clear H1
     replace H := Option.bind_eq_some_iff.mp H
     obtain ⟨⟨t116, t117, t118, t119⟩, A240, H⟩ := H
     try dsimp only at H
     have A24 := AM A240
     clear A240
     by_cases c25 : t116 = true
     ·
      subst c25
      have H1 : (if 0 ≤ t101 then (if t101 ≤ (a1.size : Int) then (if 0 ≤ (wrap64 (t101 + 1)) then (if (wrap64 (t101 + 1)) ≤ (a1.size : Int) then (if (a1.extract 0 (t101 : Int).toNat).size + (a1.extract ((wrap64 (t101 + 1)) : Int).toNat a1.size).size ≤ 9223372036854775807 then (some ((a1.extract 0 (t101 : Int).toNat) ++ (a1.extract ((wrap64 (t101 + 1)) : Int).toNat a1.size), t117, t118, t119)) else (none)) else (none)) else (none)) else (none)) else (none)) = some (r1, r2, r3, r4) := by rw [if_pos rfl] at H; exact H
      clear H
      have H := H1
      clear H1
      by_cases c26 : 0 ≤ t101
      ·
       rw [if_pos c26] at H
       have c26b0 := eq_true c26
       have c26b1 : decide (0 ≤ t101) = true := decide_eq_true c26
       clear c26
       by_cases c27 : t101 ≤ (a1.size : Int)
       ·
        rw [if_pos c27] at H
        have c27b0 := eq_true c27
        have c27b1 : decide (t101 ≤ (a1.size : Int)) = true := decide_eq_true c27
        clear c27
        obtain ⟨ji28, hji28⟩ : ∃ j_ : Int, (wrap64 (t101 + 1)) = j_ := ⟨_, rfl⟩
        replace H : (if 0 ≤ (ji28) then (if (ji28) ≤ (a1.size : Int) then (if (a1.extract 0 (t101 : Int).toNat).size + (a1.extract ((ji28) : Int).toNat a1.size).size ≤ 9223372036854775807 then (some ((a1.extract 0 (t101 : Int).toNat) ++ (a1.extract ((ji28) : Int).toNat a1.size), t117, t118, t119)) else (none)) else (none)) else (none)) = some (r1, r2, r3, r4) := by first | (rw [hji28] at H; exact H) | (simp only [hji28] at H ⊢; exact H)
        (try rw [hji28] at A24)
        have hji28w : (IntKind.i64.wrap (t101 + 1)) = ji28 := (i64_w _).trans hji28
        by_cases c29 : 0 ≤ (ji28)
        ·
         rw [if_pos c29] at H
         have c29b0 := eq_true c29
         have c29b1 : decide (0 ≤ (ji28)) = true := decide_eq_true c29
         clear c29
         by_cases c30 : (ji28) ≤ (a1.size : Int)
         ·
          rw [if_pos c30] at H
          have c30b0 := eq_true c30
          have c30b1 : decide ((ji28) ≤ (a1.size : Int)) = true := decide_eq_true c30
          clear c30
          by_cases c31 : (a1.extract 0 (t101 : Int).toNat).size + (a1.extract ((ji28) : Int).toNat a1.size).size ≤ 9223372036854775807
          ·
           rw [if_pos c31] at H
           have c31b0 := eq_true c31
           have c31b1 : decide ((a1.extract 0 (t101 : Int).toNat).size + (a1.extract ((ji28) : Int).toNat a1.size).size ≤ 9223372036854775807) = true := decide_eq_true c31
           try have c31b2 : (9223372036854775807 < (a1.extract 0 (t101 : Int).toNat).size + (a1.extract ((ji28) : Int).toNat a1.size).size) = False := eq_false (Nat.not_lt.2 c31)
           simp only [Option.some.injEq, Prod.mk.injEq] at H
           obtain ⟨rfl, rfl, rfl, rfl⟩ := H
           go_wp2_with (first | (go_at_call 19; (with_reducible refine (spec_l01Src_one.calls g s0_0 x1001_7 x1002_7 x1003_7 2 true t117 t118 t119 w0 _ ?side1 ?side2 A24.out).mono ?_); (case side1 => exact (iX51_6_spec_l01Src_spoil HI0.out)); (case side2 => exact (bI51_0_spec_l01Src_spoil HB.out)); rintro e w32 ⟨rfl, hi, hb, hk⟩; have _ := AM (KeepBut.trans (hX HK.out) hk (.inl rfl)); have _ := AM (hb); have _ := AM (hi); clear HK HB HI0; rename_i HK HB HI0; (try clear hb); (try clear hb2); (try clear hk); (try clear hi)))
           repeat (go_quiet (first | (go_at_call 19; (with_reducible refine (spec_l01Src_one.calls g s0_0 x1001_7 x1002_7 x1003_7 2 true t117 t118 t119 w0 _ ?side1 ?side2 A24.out).mono ?_); (case side1 => exact (iX51_6_spec_l01Src_spoil HI0.out)); (case side2 => exact (bI51_0_spec_l01Src_spoil HB.out)); rintro e w32 ⟨rfl, hi, hb, hk⟩; have _ := AM (KeepBut.trans (hX HK.out) hk (.inl rfl)); have _ := AM (hb); have _ := AM (hi); clear HK HB HI0; rename_i HK HB HI0; (try clear hb); (try clear hb2); (try clear hk); (try clear hi))); try go_wp2_with (first | (go_at_call 19; (with_reducible refine (spec_l01Src_one.calls g s0_0 x1001_7 x1002_7 x1003_7 2 true t117 t118 t119 w0 _ ?side1 ?side2 A24.out).mono ?_); (case side1 => exact (iX51_6_spec_l01Src_spoil HI0.out)); (case side2 => exact (bI51_0_spec_l01Src_spoil HB.out)); rintro e w32 ⟨rfl, hi, hb, hk⟩; have _ := AM (KeepBut.trans (hX HK.out) hk (.inl rfl)); have _ := AM (hb); have _ := AM (hi); clear HK HB HI0; rename_i HK HB HI0; (try clear hb); (try clear hb2); (try clear hk); (try clear hi))))
           go_ret
           exact ⟨by first | rfl | (simp [errW_none, errW_some] <;> rfl) | (simp only [← hji28]; first | rfl | (simp [errW_none, errW_some] <;> rfl)) | (simp [*, errW_none, errW_some] <;> rfl), iX51_6_spec_l01Src_spoil HI0.out, bI51_0_spec_l01Src_spoil HB.out, hX HK.out⟩
          rw [if_neg c31] at H
          exact absurd H (by simp)
         rw [if_neg c30] at H
         exact absurd H (by simp)
        rw [if_neg c29] at H
        exact absurd H (by simp)
       rw [if_neg c27] at H
       exact absurd H (by simp)
      rw [if_neg c26] at H
      exact absurd H (by simp)
     replace c25 := Bool.eq_false_iff.mpr c25
     subst c25
     have H1 : (if 0 ≤ t101 then (if t101 ≤ (a1.size : Int) then (if (a1.extract 0 (t101 : Int).toNat).size + (strOfNums y109).size ≤ 9223372036854775807 then (if 0 ≤ (wrap64 (t101 + 1)) then (if (wrap64 (t101 + 1)) ≤ (a1.size : Int) then (if ((a1.extract 0 (t101 : Int).toNat) ++ (strOfNums y109)).size + (a1.extract ((wrap64 (t101 + 1)) : Int).toNat a1.size).size ≤ 9223372036854775807 then (some (((a1.extract 0 (t101 : Int).toNat) ++ (strOfNums y109)) ++ (a1.extract ((wrap64 (t101 + 1)) : Int).toNat a1.size), t117, t118, t119)) else (none)) else (none)) else (none)) else (none)) else (none)) else (none)) = some (r1, r2, r3, r4) := by rw [if_neg (show ¬ (false = true) by decide)] at H; exact H
     clear H
     have H := H1
     clear H1
     by_cases c33 : 0 ≤ t101
     ·
      rw [if_pos c33] at H
      have c33b0 := eq_true c33
      have c33b1 : decide (0 ≤ t101) = true := decide_eq_true c33
      clear c33
      by_cases c34 : t101 ≤ (a1.size : Int)
      ·
       rw [if_pos c34] at H
       have c34b0 := eq_true c34
       have c34b1 : decide (t101 ≤ (a1.size : Int)) = true := decide_eq_true c34
       clear c34
       by_cases c35 : (a1.extract 0 (t101 : Int).toNat).size + (strOfNums y109).size ≤ 9223372036854775807
       ·
        rw [if_pos c35] at H
        have c35b0 := eq_true c35
        have c35b1 : decide ((a1.extract 0 (t101 : Int).toNat).size + (strOfNums y109).size ≤ 9223372036854775807) = true := decide_eq_true c35
        try have c35b2 : (9223372036854775807 < (a1.extract 0 (t101 : Int).toNat).size + (strOfNums y109).size) = False := eq_false (Nat.not_lt.2 c35)
        obtain ⟨ji36, hji36⟩ : ∃ j_ : Int, (wrap64 (t101 + 1)) = j_ := ⟨_, rfl⟩
        replace H : (if 0 ≤ (ji36) then (if (ji36) ≤ (a1.size : Int) then (if ((a1.extract 0 (t101 : Int).toNat) ++ (strOfNums y109)).size + (a1.extract ((ji36) : Int).toNat a1.size).size ≤ 9223372036854775807 then (some (((a1.extract 0 (t101 : Int).toNat) ++ (strOfNums y109)) ++ (a1.extract ((ji36) : Int).toNat a1.size), t117, t118, t119)) else (none)) else (none)) else (none)) = some (r1, r2, r3, r4) := by first | (rw [hji36] at H; exact H) | (simp only [hji36] at H ⊢; exact H)
        (try rw [hji36] at A24)
        have hji36w : (IntKind.i64.wrap (t101 + 1)) = ji36 := (i64_w _).trans hji36
        by_cases c37 : 0 ≤ (ji36)
        ·
         rw [if_pos c37] at H
         have c37b0 := eq_true c37
         have c37b1 : decide (0 ≤ (ji36)) = true := decide_eq_true c37
         clear c37
         by_cases c38 : (ji36) ≤ (a1.size : Int)
         ·
          rw [if_pos c38] at H
          have c38b0 := eq_true c38
          have c38b1 : decide ((ji36) ≤ (a1.size : Int)) = true := decide_eq_true c38
          clear c38
          by_cases c39 : ((a1.extract 0 (t101 : Int).toNat) ++ (strOfNums y109)).size + (a1.extract ((ji36) : Int).toNat a1.size).size ≤ 9223372036854775807
          ·
           rw [if_pos c39] at H
           have c39b0 := eq_true c39
           have c39b1 : decide (((a1.extract 0 (t101 : Int).toNat) ++ (strOfNums y109)).size + (a1.extract ((ji36) : Int).toNat a1.size).size ≤ 9223372036854775807) = true := decide_eq_true c39
           try have c39b2 : (9223372036854775807 < ((a1.extract 0 (t101 : Int).toNat) ++ (strOfNums y109)).size + (a1.extract ((ji36) : Int).toNat a1.size).size) = False := eq_false (Nat.not_lt.2 c39)
           simp only [Option.some.injEq, Prod.mk.injEq] at H
           obtain ⟨rfl, rfl, rfl, rfl⟩ := H
           go_wp2_with (first | (go_at_call 19; (with_reducible refine (spec_l01Src_one.calls g s0_0 x1001_7 x1002_7 x1003_7 2 false t117 t118 t119 w0 _ ?side1 ?side2 A24.out).mono ?_); (case side1 => exact (iX51_6_spec_l01Src_spoil HI0.out)); (case side2 => exact (bI51_0_spec_l01Src_spoil HB.out)); rintro e w40 ⟨rfl, hi, hb, hk⟩; have _ := AM (KeepBut.trans (hX HK.out) hk (.inl rfl)); have _ := AM (hb); have _ := AM (hi); clear HK HB HI0; rename_i HK HB HI0; (try clear hb); (try clear hb2); (try clear hk); (try clear hi)))
           repeat (go_quiet (first | (go_at_call 19; (with_reducible refine (spec_l01Src_one.calls g s0_0 x1001_7 x1002_7 x1003_7 2 false t117 t118 t119 w0 _ ?side1 ?side2 A24.out).mono ?_); (case side1 => exact (iX51_6_spec_l01Src_spoil HI0.out)); (case side2 => exact (bI51_0_spec_l01Src_spoil HB.out)); rintro e w40 ⟨rfl, hi, hb, hk⟩; have _ := AM (KeepBut.trans (hX HK.out) hk (.inl rfl)); have _ := AM (hb); have _ := AM (hi); clear HK HB HI0; rename_i HK HB HI0; (try clear hb); (try clear hb2); (try clear hk); (try clear hi))); try go_wp2_with (first | (go_at_call 19; (with_reducible refine (spec_l01Src_one.calls g s0_0 x1001_7 x1002_7 x1003_7 2 false t117 t118 t119 w0 _ ?side1 ?side2 A24.out).mono ?_); (case side1 => exact (iX51_6_spec_l01Src_spoil HI0.out)); (case side2 => exact (bI51_0_spec_l01Src_spoil HB.out)); rintro e w40 ⟨rfl, hi, hb, hk⟩; have _ := AM (KeepBut.trans (hX HK.out) hk (.inl rfl)); have _ := AM (hb); have _ := AM (hi); clear HK HB HI0; rename_i HK HB HI0; (try clear hb); (try clear hb2); (try clear hk); (try clear hi))))
           go_ret
           exact ⟨by first | rfl | (simp [errW_none, errW_some] <;> rfl) | (simp only [← hji36]; first | rfl | (simp [errW_none, errW_some] <;> rfl)) | (simp [*, errW_none, errW_some] <;> rfl), iX51_6_spec_l01Src_spoil HI0.out, bI51_0_spec_l01Src_spoil HB.out, hX HK.out⟩
          rw [if_neg c39] at H
          exact absurd H (by simp)
         rw [if_neg c38] at H
         exact absurd H (by simp)
        rw [if_neg c37] at H
        exact absurd H (by simp)
       rw [if_neg c35] at H
       exact absurd H (by simp)
      rw [if_neg c34] at H
      exact absurd H (by simp)
     rw [if_neg c33] at H
     exact absurd H (by simp)
  rw [if_neg c6] at H
  exact absurd H (by simp)
 rw [if_neg c5] at H
 exact absurd H (by simp)

/-! ### spec_DrawCommandRead: function 13 -/

def spec_DrawCommandRead.f (k : Nat) (l0 : List Int) : Option (ByteArray) := (spec_l01Source.f k l0).bind fun bt101 => ((spec_l01Src_l06Command.f k bt101.1 bt101.2.1 bt101.2.2.1 bt101.2.2.2).bind fun bt106 => ((spec_CommandBytes.f k bt106.1 bt106.2.1 bt106.2.2.1 bt106.2.2.2.1 bt106.2.2.2.2.1 bt106.2.2.2.2.2.1 bt106.2.2.2.2.2.2.1).bind fun t116 => ((spec_l01Src_n.f bt101.1 bt106.2.2.2.2.2.2.2.1 bt106.2.2.2.2.2.2.2.2.1 bt106.2.2.2.2.2.2.2.2.2 4).bind fun bt117 => (if bt117.1 = 0 then ((spec_l01Src_spoil.f k bt101.1 bt117.2.1 bt117.2.2.1 bt117.2.2.2 t116).bind fun bt121 => (some bt121.1)) else (if bt117.1 = 1 then ((spec_l01Src_n.f bt101.1 bt117.2.1 bt117.2.2.1 bt117.2.2.2 (wrap64 ((t116.size : Int) + 1))).bind fun bt125 => (if 0 ≤ bt125.1 then (if bt125.1 ≤ (t116.size : Int) then (some (t116.extract 0 (bt125.1 : Int).toNat)) else (none)) else (none))) else (some t116))))))
theorem spec_DrawCommandRead.mono : ∀ a0 k, LeO (spec_DrawCommandRead.f k a0) (spec_DrawCommandRead.f (k + 1) a0) := by
  intro a0 k
  unfold spec_DrawCommandRead.f
  repeat' first
      | (with_reducible exact spec_CommandBytes.mono _ _ _ _ _ _ _ _)
      | (with_reducible exact spec_l01Source.mono _ _)
      | (with_reducible exact spec_l01Src_l06Command.mono _ _ _ _ _)
      | (with_reducible exact spec_l01Src_spoil.mono _ _ _ _ _ _)
      | (with_reducible exact LeO.refl _)
      | (with_reducible exact LeO.none _)
      | (with_reducible refine LeO.ite ?_ ?_)
      | (with_reducible refine LeO.bind ?_ (fun _ => ?_))
      | exact spec_CommandBytes.mono _ _ _ _ _ _ _ _
      | exact spec_l01Source.mono _ _
      | exact spec_l01Src_l06Command.mono _ _ _ _ _
      | exact spec_l01Src_spoil.mono _ _ _ _ _ _
      | exact LeO.none _
      | refine LeO.ite ?_ ?_
      | refine LeO.bind ?_ (fun _ => ?_)
theorem bI51_105_spec_DrawCommandRead {n : Nat} {w W W' : World} (h : Below n w W) (f : Below n w W → Below n w W' := by intro h_; repeat (first | (with_reducible first | exact h_ | apply bA | apply bN | apply bD | refine bS ?_ (IsS51.ge HI105.out) | refine bS ?_ (Aside0.out (by assumption))) | exact h_)) : Below n w W' := f h
theorem iX51_6_spec_DrawCommandRead {p q : Prop} (h : p) (f : p → q := by intro h_; repeat (first | (with_reducible first | exact h_ | apply IsS51.alloc | apply IsS51.drewN | apply IsS51.drew | apply IsS51.set_1 | apply IsS51.set_2 | apply IsS51.set_3 | refine IsS51.far ?_ (Aside0.out (by assumption)) _ | apply IsS51.far | exact Aside0.out (by assumption)) | exact h_)) : q := f h
set_option maxHeartbeats 60000000 in
set_option maxRecDepth 100000 in
theorem spec_DrawCommandRead.calls (k : Nat) (A0 : Option Addr) (c0 : Nat) (l0 : List Int) (r : ByteArray) (w : World) (hr0 : Kd.C (Kd.int .u8) w A0 l0.length l0) (hc0 : l0.length ≤ c0) (h : spec_DrawCommandRead.f k l0 = some r) :
    Calls Tryd.prog 13 #[.slice A0 l0.length c0] w fun e w' => e = .returned (.string r) ∧ Below w.heap.size w w' := by
 have HR0 := AM hr0
 have HC0 := AM hc0
 clear hr0 hc0
 have HB := AM (Below.refl w.heap.size w)
 have H : ((spec_l01Source.f k l0).bind fun bt101 => ((spec_l01Src_l06Command.f k bt101.1 bt101.2.1 bt101.2.2.1 bt101.2.2.2).bind fun bt106 => ((spec_CommandBytes.f k bt106.1 bt106.2.1 bt106.2.2.1 bt106.2.2.2.1 bt106.2.2.2.2.1 bt106.2.2.2.2.2.1 bt106.2.2.2.2.2.2.1).bind fun t116 => ((spec_l01Src_n.f bt101.1 bt106.2.2.2.2.2.2.2.1 bt106.2.2.2.2.2.2.2.2.1 bt106.2.2.2.2.2.2.2.2.2 4).bind fun bt117 => (if bt117.1 = 0 then ((spec_l01Src_spoil.f k bt101.1 bt117.2.1 bt117.2.2.1 bt117.2.2.2 t116).bind fun bt121 => (some bt121.1)) else (if bt117.1 = 1 then ((spec_l01Src_n.f bt101.1 bt117.2.1 bt117.2.2.1 bt117.2.2.2 (wrap64 ((t116.size : Int) + 1))).bind fun bt125 => (if 0 ≤ bt125.1 then (if bt125.1 ≤ (t116.size : Int) then (some (t116.extract 0 (bt125.1 : Int).toNat)) else (none)) else (none))) else (some t116))))))) = some r := h
 clear h
 replace H := Option.bind_eq_some_iff.mp H
 obtain ⟨⟨t101, t102, t103, t104⟩, A20, H⟩ := H
 try dsimp only at H
 have A2 := AM A20
 clear A20
 replace H := Option.bind_eq_some_iff.mp H
 obtain ⟨⟨t106, t107, t108, t109, t110, t111, t112, t113, t114, t115⟩, A30, H⟩ := H
 try dsimp only at H
 have A3 := AM A30
 clear A30
 replace H := Option.bind_eq_some_iff.mp H
 obtain ⟨t116, A40, H⟩ := H
 replace H : ((spec_l01Src_n.f t101 t113 t114 t115 4).bind fun bt117 => (if bt117.1 = 0 then ((spec_l01Src_spoil.f k t101 bt117.2.1 bt117.2.2.1 bt117.2.2.2 t116).bind fun bt121 => (some bt121.1)) else (if bt117.1 = 1 then ((spec_l01Src_n.f t101 bt117.2.1 bt117.2.2.1 bt117.2.2.2 (wrap64 ((t116.size : Int) + 1))).bind fun bt125 => (if 0 ≤ bt125.1 then (if bt125.1 ≤ (t116.size : Int) then (some (t116.extract 0 (bt125.1 : Int).toNat)) else (none)) else (none))) else (some t116)))) = some r := H
 have A4 := AM A40
 clear A40
 replace H := Option.bind_eq_some_iff.mp H
 obtain ⟨⟨t117, t118, t119, t120⟩, A50, H⟩ := H
 try dsimp only at H
 have A5 := AM A50
 clear A50
 by_cases c6 : t117 = 0
 ·
  rw [if_pos c6] at H
  have c6b0 : (t117 == 0) = true := beq_iff_eq.mpr c6
  have c6b1 : (t117 != 0) = false := bne_eq_false_iff_eq.mpr c6
  clear c6
  replace H := Option.bind_eq_some_iff.mp H
  obtain ⟨⟨t121, t122, t123, t124⟩, A70, H⟩ := H
  try dsimp only at H
  have A7 := AM A70
  clear A70
  obtain rfl := Option.some.inj H
  go_enter Tryd.func13, Tryd.ntmps13
  go_wp2_with (first | ((with_reducible refine gate_callee (f := 15) rfl ?_); refine goesL_ (some 6) rfl rfl Tryd.func15 (by kernel_rfl) rfl #[.slice A0 l0.length c0] rfl (by (try simp only [mA, mB, mC]); first | done | rfl | (simp only [mD, mE]; rfl)) ?_; (with_reducible refine (spec_l01Source.calls k _ _ l0 t101 t102 t103 t104 w _ ?side1 ?side2 ?side3 A2.out).mono ?_); (case side1 => exact (bX HB.out)); (case side2 => exact HR0.out); (case side3 => exact HC0.out); rintro e w8 ⟨g105, rfl, hi, hb, hb2⟩; refine ⟨_, rfl, ?_⟩; have _ := AM (hb); have _ := AM (hi); clear HB; rename_i HB HI105; (try clear hb); (try clear hb2); (try clear hk); (try clear hi)) | ((with_reducible refine gate_callee (f := 16) rfl ?_); refine goesL_ (some 8) rfl rfl Tryd.func16 (by kernel_rfl) rfl #[.pointer (some ⟨g105, 0, none⟩)] rfl (by (try simp only [mA, mB, mC]); first | done | rfl | (simp only [mD, mE]; rfl)) ?_; (with_reducible refine (spec_l01Src_l06Command.calls k g105 t101 t102 t103 t104 t106 t107 t108 t109 t110 t111 t112 t113 t114 t115 w _ ?side1 ?side2 A3.out).mono ?_); (case side1 => exact (iX51_6_spec_DrawCommandRead HI105.out)); (case side2 => exact (bI51_105_spec_DrawCommandRead HB.out)); rintro e w9 ⟨rfl, hi, hb, hk⟩; refine ⟨_, rfl, ?_⟩; have _ := AM (hb); have _ := AM (hi); clear HB HI105; rename_i HB HI105; (try clear hb); (try clear hb2); (try clear hk); (try clear hi)) | ((with_reducible refine gate_callee (f := 7) rfl ?_); refine goesL_ (some 9) rfl rfl Tryd.func7 (by kernel_rfl) rfl #[.agg #[.int .i64 t106, .int .i64 t107, .int .i64 t108, .string t109, .string t110, .string t111, .int .i64 t112]] rfl (by (try simp only [mA, mB, mC]); first | done | rfl | (simp only [mD, mE]; rfl)) ?_; (with_reducible refine (spec_CommandBytes.calls k t106 t107 t108 t109 t110 t111 t112 t116 _ A4.out).mono ?_); rintro e w10 ⟨rfl, hb⟩; refine ⟨_, rfl, ?_⟩; have _ := AM (IsS51.below (iX51_6_spec_DrawCommandRead HI105.out) hb); have _ := AM (below_step (bI51_105_spec_DrawCommandRead HB.out) hb); clear HI105 HB; rename_i HI105 HB; (try clear hb); (try clear hb2); (try clear hk); (try clear hi)) | ((with_reducible refine gate_callee (f := 21) rfl ?_); refine goesL_ (some 11) rfl rfl Tryd.func21 (by kernel_rfl) rfl #[.pointer (some ⟨g105, 0, none⟩), .int .i64 4] rfl (by (try simp only [mA, mB, mC]); first | done | rfl | (simp only [mD, mE]; rfl)) ?_; (with_reducible refine (spec_l01Src_n.calls g105 t101 t113 t114 t115 4 t117 t118 t119 t120 w _ ?side1 ?side2 A5.out).mono ?_); (case side1 => exact (iX51_6_spec_DrawCommandRead HI105.out)); (case side2 => exact (bI51_105_spec_DrawCommandRead HB.out)); rintro e w11 ⟨rfl, hi, hb, hk⟩; refine ⟨_, rfl, ?_⟩; have _ := AM (hb); have _ := AM (hi); clear HB HI105; rename_i HB HI105; (try clear hb); (try clear hb2); (try clear hk); (try clear hi)) | ((with_reducible refine gate_callee (f := 29) rfl ?_); refine goesL_ (some 16) rfl rfl Tryd.func29 (by kernel_rfl) rfl #[.pointer (some ⟨g105, 0, none⟩), .string t116] rfl (by (try simp only [mA, mB, mC]); first | done | rfl | (simp only [mD, mE]; rfl)) ?_; (with_reducible refine (spec_l01Src_spoil.calls k g105 t101 t118 t119 t120 t116 t121 t122 t123 t124 w _ ?side1 ?side2 A7.out).mono ?_); (case side1 => exact (iX51_6_spec_DrawCommandRead HI105.out)); (case side2 => exact (bI51_105_spec_DrawCommandRead HB.out)); rintro e w12 ⟨rfl, hi, hb, hk⟩; refine ⟨_, rfl, ?_⟩; have _ := AM (hb); have _ := AM (hi); clear HB HI105; rename_i HB HI105; (try clear hb); (try clear hb2); (try clear hk); (try clear hi)))
  go_ret
  exact ⟨by first | rfl | (simp [*, errW_none, errW_some] <;> rfl), bI51_105_spec_DrawCommandRead HB.out⟩
 rw [if_neg c6] at H
 have c6b0 : (t117 == 0) = false := beq_eq_false_iff_ne.mpr c6
 have c6b1 : (t117 != 0) = true := bne_iff_ne.mpr c6
 by_cases c13 : t117 = 1
 ·
  rw [if_pos c13] at H
  have c13b0 : (t117 == 1) = true := beq_iff_eq.mpr c13
  have c13b1 : (t117 != 1) = false := bne_eq_false_iff_eq.mpr c13
  clear c13
  replace H := Option.bind_eq_some_iff.mp H
  obtain ⟨⟨t125, t126, t127, t128⟩, A140, H⟩ := H
  try dsimp only at H
  have A14 := AM A140
  clear A140
  by_cases c15 : 0 ≤ t125
  ·
   rw [if_pos c15] at H
   have c15b0 := eq_true c15
   have c15b1 : decide (0 ≤ t125) = true := decide_eq_true c15
   clear c15
   by_cases c16 : t125 ≤ (t116.size : Int)
   ·
    rw [if_pos c16] at H
    have c16b0 := eq_true c16
    have c16b1 : decide (t125 ≤ (t116.size : Int)) = true := decide_eq_true c16
    clear c16
    obtain rfl := Option.some.inj H
    go_enter Tryd.func13, Tryd.ntmps13
    go_wp2_with (first | ((with_reducible refine gate_callee (f := 15) rfl ?_); refine goesL_ (some 6) rfl rfl Tryd.func15 (by kernel_rfl) rfl #[.slice A0 l0.length c0] rfl (by (try simp only [mA, mB, mC]); first | done | rfl | (simp only [mD, mE]; rfl)) ?_; (with_reducible refine (spec_l01Source.calls k _ _ l0 t101 t102 t103 t104 w _ ?side1 ?side2 ?side3 A2.out).mono ?_); (case side1 => exact (bX HB.out)); (case side2 => exact HR0.out); (case side3 => exact HC0.out); rintro e w17 ⟨g105, rfl, hi, hb, hb2⟩; refine ⟨_, rfl, ?_⟩; have _ := AM (hb); have _ := AM (hi); clear HB; rename_i HB HI105; (try clear hb); (try clear hb2); (try clear hk); (try clear hi)) | ((with_reducible refine gate_callee (f := 16) rfl ?_); refine goesL_ (some 8) rfl rfl Tryd.func16 (by kernel_rfl) rfl #[.pointer (some ⟨g105, 0, none⟩)] rfl (by (try simp only [mA, mB, mC]); first | done | rfl | (simp only [mD, mE]; rfl)) ?_; (with_reducible refine (spec_l01Src_l06Command.calls k g105 t101 t102 t103 t104 t106 t107 t108 t109 t110 t111 t112 t113 t114 t115 w _ ?side1 ?side2 A3.out).mono ?_); (case side1 => exact (iX51_6_spec_DrawCommandRead HI105.out)); (case side2 => exact (bI51_105_spec_DrawCommandRead HB.out)); rintro e w18 ⟨rfl, hi, hb, hk⟩; refine ⟨_, rfl, ?_⟩; have _ := AM (hb); have _ := AM (hi); clear HB HI105; rename_i HB HI105; (try clear hb); (try clear hb2); (try clear hk); (try clear hi)) | ((with_reducible refine gate_callee (f := 7) rfl ?_); refine goesL_ (some 9) rfl rfl Tryd.func7 (by kernel_rfl) rfl #[.agg #[.int .i64 t106, .int .i64 t107, .int .i64 t108, .string t109, .string t110, .string t111, .int .i64 t112]] rfl (by (try simp only [mA, mB, mC]); first | done | rfl | (simp only [mD, mE]; rfl)) ?_; (with_reducible refine (spec_CommandBytes.calls k t106 t107 t108 t109 t110 t111 t112 t116 _ A4.out).mono ?_); rintro e w19 ⟨rfl, hb⟩; refine ⟨_, rfl, ?_⟩; have _ := AM (IsS51.below (iX51_6_spec_DrawCommandRead HI105.out) hb); have _ := AM (below_step (bI51_105_spec_DrawCommandRead HB.out) hb); clear HI105 HB; rename_i HI105 HB; (try clear hb); (try clear hb2); (try clear hk); (try clear hi)) | ((with_reducible refine gate_callee (f := 21) rfl ?_); refine goesL_ (some 11) rfl rfl Tryd.func21 (by kernel_rfl) rfl #[.pointer (some ⟨g105, 0, none⟩), .int .i64 4] rfl (by (try simp only [mA, mB, mC]); first | done | rfl | (simp only [mD, mE]; rfl)) ?_; (with_reducible refine (spec_l01Src_n.calls g105 t101 t113 t114 t115 4 t117 t118 t119 t120 w _ ?side1 ?side2 A5.out).mono ?_); (case side1 => exact (iX51_6_spec_DrawCommandRead HI105.out)); (case side2 => exact (bI51_105_spec_DrawCommandRead HB.out)); rintro e w20 ⟨rfl, hi, hb, hk⟩; refine ⟨_, rfl, ?_⟩; have _ := AM (hb); have _ := AM (hi); clear HB HI105; rename_i HB HI105; (try clear hb); (try clear hb2); (try clear hk); (try clear hi)) | ((with_reducible refine gate_callee (f := 21) rfl ?_); refine goesL_ (some 24) rfl rfl Tryd.func21 (by kernel_rfl) rfl #[.pointer (some ⟨g105, 0, none⟩), .int .i64 (wrap64 ((t116.size : Int) + 1))] rfl (by (try simp only [mA, mB, mC]); first | done | rfl | (simp only [mD, mE]; rfl)) ?_; (with_reducible refine (spec_l01Src_n.calls g105 t101 t118 t119 t120 (wrap64 ((t116.size : Int) + 1)) t125 t126 t127 t128 w _ ?side1 ?side2 A14.out).mono ?_); (case side1 => exact (iX51_6_spec_DrawCommandRead HI105.out)); (case side2 => exact (bI51_105_spec_DrawCommandRead HB.out)); rintro e w21 ⟨rfl, hi, hb, hk⟩; refine ⟨_, rfl, ?_⟩; have _ := AM (hb); have _ := AM (hi); clear HB HI105; rename_i HB HI105; (try clear hb); (try clear hb2); (try clear hk); (try clear hi)))
    go_ret
    exact ⟨by first | rfl | (simp [*, errW_none, errW_some] <;> rfl), bI51_105_spec_DrawCommandRead HB.out⟩
   rw [if_neg c16] at H
   exact absurd H (by simp)
  rw [if_neg c15] at H
  exact absurd H (by simp)
 rw [if_neg c13] at H
 have c13b0 : (t117 == 1) = false := beq_eq_false_iff_ne.mpr c13
 have c13b1 : (t117 != 1) = true := bne_iff_ne.mpr c13
 obtain rfl := Option.some.inj H
 go_enter Tryd.func13, Tryd.ntmps13
 go_wp2_with (first | ((with_reducible refine gate_callee (f := 15) rfl ?_); refine goesL_ (some 6) rfl rfl Tryd.func15 (by kernel_rfl) rfl #[.slice A0 l0.length c0] rfl (by (try simp only [mA, mB, mC]); first | done | rfl | (simp only [mD, mE]; rfl)) ?_; (with_reducible refine (spec_l01Source.calls k _ _ l0 t101 t102 t103 t104 w _ ?side1 ?side2 ?side3 A2.out).mono ?_); (case side1 => exact (bX HB.out)); (case side2 => exact HR0.out); (case side3 => exact HC0.out); rintro e w22 ⟨g105, rfl, hi, hb, hb2⟩; refine ⟨_, rfl, ?_⟩; have _ := AM (hb); have _ := AM (hi); clear HB; rename_i HB HI105; (try clear hb); (try clear hb2); (try clear hk); (try clear hi)) | ((with_reducible refine gate_callee (f := 16) rfl ?_); refine goesL_ (some 8) rfl rfl Tryd.func16 (by kernel_rfl) rfl #[.pointer (some ⟨g105, 0, none⟩)] rfl (by (try simp only [mA, mB, mC]); first | done | rfl | (simp only [mD, mE]; rfl)) ?_; (with_reducible refine (spec_l01Src_l06Command.calls k g105 t101 t102 t103 t104 t106 t107 t108 t109 t110 t111 t112 t113 t114 t115 w _ ?side1 ?side2 A3.out).mono ?_); (case side1 => exact (iX51_6_spec_DrawCommandRead HI105.out)); (case side2 => exact (bI51_105_spec_DrawCommandRead HB.out)); rintro e w23 ⟨rfl, hi, hb, hk⟩; refine ⟨_, rfl, ?_⟩; have _ := AM (hb); have _ := AM (hi); clear HB HI105; rename_i HB HI105; (try clear hb); (try clear hb2); (try clear hk); (try clear hi)) | ((with_reducible refine gate_callee (f := 7) rfl ?_); refine goesL_ (some 9) rfl rfl Tryd.func7 (by kernel_rfl) rfl #[.agg #[.int .i64 t106, .int .i64 t107, .int .i64 t108, .string t109, .string t110, .string t111, .int .i64 t112]] rfl (by (try simp only [mA, mB, mC]); first | done | rfl | (simp only [mD, mE]; rfl)) ?_; (with_reducible refine (spec_CommandBytes.calls k t106 t107 t108 t109 t110 t111 t112 t116 _ A4.out).mono ?_); rintro e w24 ⟨rfl, hb⟩; refine ⟨_, rfl, ?_⟩; have _ := AM (IsS51.below (iX51_6_spec_DrawCommandRead HI105.out) hb); have _ := AM (below_step (bI51_105_spec_DrawCommandRead HB.out) hb); clear HI105 HB; rename_i HI105 HB; (try clear hb); (try clear hb2); (try clear hk); (try clear hi)) | ((with_reducible refine gate_callee (f := 21) rfl ?_); refine goesL_ (some 11) rfl rfl Tryd.func21 (by kernel_rfl) rfl #[.pointer (some ⟨g105, 0, none⟩), .int .i64 4] rfl (by (try simp only [mA, mB, mC]); first | done | rfl | (simp only [mD, mE]; rfl)) ?_; (with_reducible refine (spec_l01Src_n.calls g105 t101 t113 t114 t115 4 t117 t118 t119 t120 w _ ?side1 ?side2 A5.out).mono ?_); (case side1 => exact (iX51_6_spec_DrawCommandRead HI105.out)); (case side2 => exact (bI51_105_spec_DrawCommandRead HB.out)); rintro e w25 ⟨rfl, hi, hb, hk⟩; refine ⟨_, rfl, ?_⟩; have _ := AM (hb); have _ := AM (hi); clear HB HI105; rename_i HB HI105; (try clear hb); (try clear hb2); (try clear hk); (try clear hi)))
 go_ret
 exact ⟨by first | rfl | (simp [*, errW_none, errW_some] <;> rfl), bI51_105_spec_DrawCommandRead HB.out⟩

/-! ### spec_GetNum: function 47 -/

mutual
def spec_GetNum.l0 : Nat → ByteArray → Int → Int → Int → Option (Int × Int × Int)
  | 0, _, _, _, _ => none
  | k + 1, x0, x1, x5, x6 => if x6 < 10 then (if x1 ≥ (wrap64 ((x0.size : Int) - x6)) then (some (0, 0, 4)) else (if 0 ≤ (wrap64 (x1 + x6)) then (if (wrap64 (x1 + x6)) < (x0.size : Int) then (if x6 = 9 then (spec_GetNum.j1 k x0 x1 x5 x6 (IntKind.u64.wrap (bt x0 (wrap64 (x1 + x6)))) (decide ((IntKind.u64.wrap (bt x0 (wrap64 (x1 + x6)))) > 1))) else (spec_GetNum.j1 k x0 x1 x5 x6 (IntKind.u64.wrap (bt x0 (wrap64 (x1 + x6)))) false)) else (none)) else (none))) else (some (0, 0, 3))
def spec_GetNum.j1 : Nat → ByteArray → Int → Int → Int → Int → Bool → Option (Int × Int × Int)
  | 0, _, _, _, _, _, _ => none
  | k + 1, x0, x1, x5, x6, x7, x38 => if x38 = true then (some (0, 0, 3)) else (if 0 ≤ (IntKind.u64.wrap (wrap64 (7 * x6))) then (if x7 < 128 then (if x7 = 0 then (spec_GetNum.j2 k x1 (IntKind.u64.wrap (x5 + (shl .u64 (Int.tmod x7 128) (IntKind.u64.wrap (wrap64 (7 * x6)))))) x6 (decide (x6 > 0))) else (spec_GetNum.j2 k x1 (IntKind.u64.wrap (x5 + (shl .u64 (Int.tmod x7 128) (IntKind.u64.wrap (wrap64 (7 * x6)))))) x6 false)) else (spec_GetNum.l0 k x0 x1 (IntKind.u64.wrap (x5 + (shl .u64 (Int.tmod x7 128) (IntKind.u64.wrap (wrap64 (7 * x6)))))) (wrap64 (x6 + 1)))) else (none))
def spec_GetNum.j2 : Nat → Int → Int → Int → Bool → Option (Int × Int × Int)
  | 0, _, _, _, _ => none
  | k + 1, x1, x5, x6, x55 => if x55 = true then (some (0, 0, 3)) else (if (Int.tmod x5 2) = 1 then (some (wrap64 ((wrap64 (-(wrap64 (IntKind.u64.wrap (Int.tdiv x5 2))))) - 1), wrap64 ((wrap64 (x1 + x6)) + 1), 0)) else (some (wrap64 (IntKind.u64.wrap (Int.tdiv x5 2)), wrap64 ((wrap64 (x1 + x6)) + 1), 0)))
end
def spec_GetNum.f (k : Nat) (a0 : ByteArray) (a1 : Int) : Option (Int × Int × Int) := if (a0.size : Int) > 20000 then (some (0, 0, 2)) else (if a1 < 0 then (some (0, 0, 1)) else (spec_GetNum.l0 k a0 a1 0 0))
theorem spec_GetNum.mono_l : ∀ k, (∀ y0 y1 y2 y3, LeO (spec_GetNum.l0 k y0 y1 y2 y3) (spec_GetNum.l0 (k + 1) y0 y1 y2 y3)) ∧ (∀ y0 y1 y2 y3 y4 y5, LeO (spec_GetNum.j1 k y0 y1 y2 y3 y4 y5) (spec_GetNum.j1 (k + 1) y0 y1 y2 y3 y4 y5)) ∧ (∀ y0 y1 y2 y3, LeO (spec_GetNum.j2 k y0 y1 y2 y3) (spec_GetNum.j2 (k + 1) y0 y1 y2 y3))
  | 0 => ⟨fun _ _ _ _ r h => by simp [spec_GetNum.l0] at h, fun _ _ _ _ _ _ r h => by simp [spec_GetNum.j1] at h, fun _ _ _ _ r h => by simp [spec_GetNum.j2] at h⟩
  | k + 1 => by
    obtain ⟨ih0, ih1, ih2⟩ := spec_GetNum.mono_l k
    refine ⟨?_, ?_, ?_⟩
    · intro y0 y1 y2 y3
      unfold spec_GetNum.l0
      repeat' first
      | (with_reducible exact ih0 _ _ _ _)
      | (with_reducible exact ih1 _ _ _ _ _ _)
      | (with_reducible exact ih2 _ _ _ _)
      | (with_reducible exact LeO.refl _)
      | (with_reducible exact LeO.none _)
      | (with_reducible refine LeO.ite ?_ ?_)
      | (with_reducible refine LeO.bind ?_ (fun _ => ?_))
      | exact ih0 _ _ _ _
      | exact ih1 _ _ _ _ _ _
      | exact ih2 _ _ _ _
      | exact LeO.none _
      | refine LeO.ite ?_ ?_
      | refine LeO.bind ?_ (fun _ => ?_)
    · intro y0 y1 y2 y3 y4 y5
      unfold spec_GetNum.j1
      repeat' first
      | (with_reducible exact ih0 _ _ _ _)
      | (with_reducible exact ih1 _ _ _ _ _ _)
      | (with_reducible exact ih2 _ _ _ _)
      | (with_reducible exact LeO.refl _)
      | (with_reducible exact LeO.none _)
      | (with_reducible refine LeO.ite ?_ ?_)
      | (with_reducible refine LeO.bind ?_ (fun _ => ?_))
      | exact ih0 _ _ _ _
      | exact ih1 _ _ _ _ _ _
      | exact ih2 _ _ _ _
      | exact LeO.none _
      | refine LeO.ite ?_ ?_
      | refine LeO.bind ?_ (fun _ => ?_)
    · intro y0 y1 y2 y3
      unfold spec_GetNum.j2
      repeat' first
      | (with_reducible exact ih0 _ _ _ _)
      | (with_reducible exact ih1 _ _ _ _ _ _)
      | (with_reducible exact ih2 _ _ _ _)
      | (with_reducible exact LeO.refl _)
      | (with_reducible exact LeO.none _)
      | (with_reducible refine LeO.ite ?_ ?_)
      | (with_reducible refine LeO.bind ?_ (fun _ => ?_))
      | exact ih0 _ _ _ _
      | exact ih1 _ _ _ _ _ _
      | exact ih2 _ _ _ _
      | exact LeO.none _
      | refine LeO.ite ?_ ?_
      | refine LeO.bind ?_ (fun _ => ?_)
theorem spec_GetNum.mono : ∀ a0 a1 k, LeO (spec_GetNum.f k a0 a1) (spec_GetNum.f (k + 1) a0 a1) := by
  intro a0 a1 k
  obtain ⟨ih0, ih1, ih2⟩ := spec_GetNum.mono_l k
  unfold spec_GetNum.f
  repeat' first
      | (with_reducible exact ih0 _ _ _ _)
      | (with_reducible exact ih1 _ _ _ _ _ _)
      | (with_reducible exact ih2 _ _ _ _)
      | (with_reducible exact LeO.refl _)
      | (with_reducible exact LeO.none _)
      | (with_reducible refine LeO.ite ?_ ?_)
      | (with_reducible refine LeO.bind ?_ (fun _ => ?_))
      | exact ih0 _ _ _ _
      | exact ih1 _ _ _ _ _ _
      | exact ih2 _ _ _ _
      | exact LeO.none _
      | refine LeO.ite ?_ ?_
      | refine LeO.bind ?_ (fun _ => ?_)
set_option maxHeartbeats 60000000 in
set_option maxRecDepth 100000 in
theorem spec_GetNum.calls (k : Nat) (a0 : ByteArray) (a1 : Int) (r1 : Int) (r2 : Int) (r3 : Int) (w : World) (h : spec_GetNum.f k a0 a1 = some (r1, r2, r3)) :
    Calls Tryd.prog 47 #[.string a0, .int .i64 a1] w fun e w' => e = .returned (.agg #[.int .i64 r1, .int .i64 r2, .int .i64 r3]) ∧ Below w.heap.size w w' := by
 have hu69 := Tryd.underlying69
 have HB := AM (Below.refl w.heap.size w)
 have H : (if (a0.size : Int) > 20000 then (some (0, 0, 2)) else (if a1 < 0 then (some (0, 0, 1)) else (spec_GetNum.l0 k a0 a1 0 0))) = some (r1, r2, r3) := h
 clear h
 by_cases c3 : (a0.size : Int) > 20000
 ·
  rw [if_pos c3] at H
  have c3b0 : decide (20000 < (a0.size : Int)) = true := decide_eq_true c3
  have c3b1 : decide (20000 < a0.size) = true := decide_eq_true (by omega)
  clear c3
  simp only [Option.some.injEq, Prod.mk.injEq] at H
  obtain ⟨rfl, rfl, rfl⟩ := H
  go_enter Tryd.func47, Tryd.ntmps47
  go_wp2_with (first | ((with_reducible refine gate_dst (N := 4) rfl ?_); refine box_event (by rfl) (N := 4) (by rfl) (cs := #[.int .i64 0, .int .i64 0, .int .i64 0]) (t := 69) (by first | (go_simp; done) | (go_simp; rfl)) ?_; intro gb101 hg w4 hbox hb; have _ := AM (below_step (bX HB.out) hb); have _ := AM (hbox); have n2_ := AM ((by rw [hg]; exact (bZ (bX HB.out)) : w.heap.size ≤ gb101)); clear HB; rename_i HB BK101; have GW101 := n2_; have GE101 := n2_; clear n2_; clear hb hbox hg; have hcz5 := q3 BK101.out; have hfz5 := fZ BK101.out))
  refine bodyPost_ret (results_cell_row rfl _ _ gb101 69 #[.int .i64 0, .int .i64 0, .int .i64 2] (0, 0) _ rfl (by refine kP (cs := #[.int .i64 0, .int .i64 0, .int .i64 0]) 2 ?_; refine kP (cs := #[.int .i64 0, .int .i64 0, .int .i64 0]) 1 ?_; refine kP (cs := #[.int .i64 0, .int .i64 0, .int .i64 0]) 0 ?_; (with_reducible repeat (first | apply kN | apply kD | apply kA)); exact BK101.out) Tryd.underlying69 rfl (by kernel_rfl)) rfl ?_
  exact ⟨by first | rfl | (simp [*, errW_none, errW_some] <;> rfl), bX HB.out⟩
 rw [if_neg c3] at H
 have c3b0 : decide (20000 < (a0.size : Int)) = false := decide_eq_false c3
 have c3b1 : decide (20000 < a0.size) = false := decide_eq_false (by omega)
 clear c3
 by_cases c6 : a1 < 0
 ·
  rw [if_pos c6] at H
  have c6b0 : decide (a1 < 0) = true := decide_eq_true c6
  clear c6
  simp only [Option.some.injEq, Prod.mk.injEq] at H
  obtain ⟨rfl, rfl, rfl⟩ := H
  go_enter Tryd.func47, Tryd.ntmps47
  go_wp2_with (first | ((with_reducible refine gate_dst (N := 4) rfl ?_); refine box_event (by rfl) (N := 4) (by rfl) (cs := #[.int .i64 0, .int .i64 0, .int .i64 0]) (t := 69) (by first | (go_simp; done) | (go_simp; rfl)) ?_; intro gb101 hg w7 hbox hb; have _ := AM (below_step (bX HB.out) hb); have _ := AM (hbox); have n2_ := AM ((by rw [hg]; exact (bZ (bX HB.out)) : w.heap.size ≤ gb101)); clear HB; rename_i HB BK101; have GW101 := n2_; have GE101 := n2_; clear n2_; clear hb hbox hg; have hcz8 := q3 BK101.out; have hfz8 := fZ BK101.out))
  refine bodyPost_ret (results_cell_row rfl _ _ gb101 69 #[.int .i64 0, .int .i64 0, .int .i64 1] (0, 0) _ rfl (by refine kP (cs := #[.int .i64 0, .int .i64 0, .int .i64 0]) 2 ?_; refine kP (cs := #[.int .i64 0, .int .i64 0, .int .i64 0]) 1 ?_; refine kP (cs := #[.int .i64 0, .int .i64 0, .int .i64 0]) 0 ?_; (with_reducible repeat (first | apply kN | apply kD | apply kA)); exact BK101.out) Tryd.underlying69 rfl (by kernel_rfl)) rfl ?_
  exact ⟨by first | rfl | (simp [*, errW_none, errW_some] <;> rfl), bX HB.out⟩
 rw [if_neg c6] at H
 have c6b0 : decide (a1 < 0) = false := decide_eq_false c6
 clear c6
 have H' := AM H
 clear H
 go_enter Tryd.func47, Tryd.ntmps47
 go_wp2_with (first | ((with_reducible refine gate_dst (N := 4) rfl ?_); refine box_event (by rfl) (N := 4) (by rfl) (cs := #[.int .i64 0, .int .i64 0, .int .i64 0]) (t := 69) (by first | (go_simp; done) | (go_simp; rfl)) ?_; intro gb101 hg w9 hbox hb; have _ := AM (below_step (bX HB.out) hb); have _ := AM (hbox); have n2_ := AM ((by rw [hg]; exact (bZ (bX HB.out)) : w.heap.size ≤ gb101)); clear HB; rename_i HB BK101; have GW101 := n2_; have GE101 := n2_; clear n2_; clear hb hbox hg))
 go_loopg [5, 6] k (fun kq v5 v6 w' => ∃ (x5_1 : Int) (x6_1 : Int) (x102000_1 : Int) (x102001_1 : Int) (x102002_1 : Int), v5 = .int .u64 x5_1 ∧ v6 = .int .i64 x6_1 ∧ Aside0 (spec_GetNum.l0 kq a0 a1 x5_1 x6_1 = some (r1, r2, r3)) ∧ Aside0 (kq ≤ k) ∧ Aside0 (w'.heap[gb101]? = some (.cells #[.int .i64 x102000_1, .int .i64 x102001_1, .int .i64 x102002_1] 69 (0, 0))) ∧ Aside0 (Below w.heap.size w w'))
 case atStart => exact ⟨(0), (0), (0), (0), (0), (by first | rfl | (simp; done) | (simp [*]; done)), (by first | rfl | (simp; done) | (simp [*]; done)), H', ⟨Nat.le_refl _⟩, ⟨kX BK101.out⟩, ⟨bX HB.out⟩⟩
 case round =>
  clear H'
  (try clear p2); (try clear c3); (try clear c3b0); (try clear c3b1); (try clear c4); (try clear c6); (try clear c6b0); (try clear hcz5); (try clear hcz8); (try clear hfz5); (try clear hfz8)
  obtain ⟨x5_1, x6_1, x102000_1, x102001_1, x102002_1, rfl, rfl, HA, HK1, BK101, HB⟩ := hrel
  cases gk with
  | zero => exact absurd HA.out (by simp [spec_GetNum.l0])
  | succ k1 =>
   have H := HA.out
   clear HA
   simp only [spec_GetNum.l0] at H
   by_cases c10 : x6_1 < 10
   ·
    rw [if_pos c10] at H
    have c10b0 : decide (x6_1 < 10) = true := decide_eq_true c10
    clear c10
    by_cases c11 : a1 ≥ (wrap64 ((a0.size : Int) - x6_1))
    ·
     rw [if_pos c11] at H
     have c11b0 : decide ((wrap64 ((a0.size : Int) - x6_1)) ≤ a1) = true := decide_eq_true c11
     clear c11
     simp only [Option.some.injEq, Prod.mk.injEq] at H
     obtain ⟨rfl, rfl, rfl⟩ := H
     have hcz12 := q3 BK101.out
     have hfz12 := fZ BK101.out
     go_wp2
     refine bodyPost_ret (results_cell_row rfl _ _ gb101 69 #[.int .i64 0, .int .i64 0, .int .i64 4] (0, 0) _ rfl (by refine kP (cs := #[.int .i64 0, .int .i64 0, .int .i64 x102002_1]) 2 ?_; refine kP (cs := #[.int .i64 0, .int .i64 x102001_1, .int .i64 x102002_1]) 1 ?_; refine kP (cs := #[.int .i64 x102000_1, .int .i64 x102001_1, .int .i64 x102002_1]) 0 ?_; (with_reducible repeat (first | apply kN | apply kD | apply kA)); exact BK101.out) Tryd.underlying69 rfl (by kernel_rfl)) rfl ?_
     exact ⟨by first | rfl | (simp [*, errW_none, errW_some] <;> rfl), bX HB.out⟩
    rw [if_neg c11] at H
    have c11b0 : decide ((wrap64 ((a0.size : Int) - x6_1)) ≤ a1) = false := decide_eq_false c11
    clear c11
    obtain ⟨ji13, hji13⟩ : ∃ j_ : Int, (wrap64 (a1 + x6_1)) = j_ := ⟨_, rfl⟩
    replace H : (if 0 ≤ (ji13) then (if (ji13) < (a0.size : Int) then (if x6_1 = 9 then (spec_GetNum.j1 k1 a0 a1 x5_1 x6_1 (IntKind.u64.wrap (bt a0 (ji13))) (decide ((IntKind.u64.wrap (bt a0 (ji13))) > 1))) else (spec_GetNum.j1 k1 a0 a1 x5_1 x6_1 (IntKind.u64.wrap (bt a0 (ji13))) false)) else (none)) else (none)) = some (r1, r2, r3) := by first | (rw [hji13] at H; exact H) | (simp only [hji13] at H ⊢; exact H)
    have hji13w : (IntKind.i64.wrap (a1 + x6_1)) = ji13 := (i64_w _).trans hji13
    by_cases c14 : 0 ≤ (ji13)
    ·
     rw [if_pos c14] at H
     have c14b0 : decide (0 ≤ (ji13)) = true := decide_eq_true c14
     clear c14
     by_cases c15 : (ji13) < (a0.size : Int)
     ·
      rw [if_pos c15] at H
      have c15b0 : decide ((ji13) < (a0.size : Int)) = true := decide_eq_true c15
      clear c15
      have HC17 := AM H
      clear H
      have p16 : 0 ≤ ((ji13) : Int) := of_decide_eq_true (by assumption)
      have q16 : (ji13) < (a0.size : Int) := of_decide_eq_true (by assumption)
      have hx16 := bt_at a0 (ji13)
      replace p16 := eq_true p16
      replace q16 := eq_true q16
      go_upto_region 12 with (fail)
      go_cut [38] (fun v38 wc => ∃ (kq : Nat) (x38_16 : Bool), v38 = .bool x38_16 ∧ Aside0 (spec_GetNum.j1 kq a0 a1 x5_1 x6_1 (IntKind.u64.wrap (bt a0 (ji13))) x38_16 = some (r1, r2, r3)) ∧ Aside0 (kq ≤ k1) ∧ Aside0 (wc.heap[gb101]? = some (.cells #[.int .i64 x102000_1, .int .i64 x102001_1, .int .i64 x102002_1] 69 (0, 0))) ∧ Aside0 (Below w.heap.size w wc))
      case first =>
       have H := HC17.out
       clear HC17
       by_cases c18 : x6_1 = 9
       ·
        rw [if_pos c18] at H
        have c18b0 : (x6_1 == 9) = true := beq_iff_eq.mpr c18
        have c18b1 : (x6_1 != 9) = false := bne_eq_false_iff_eq.mpr c18
        clear c18
        (first | rw [c18b0] | (simp only [i64_w, i32_w]; rw [c18b0]) | skip)
        have H' := AM H
        clear H
        go_wp2
        go_meet
        case rel => exact ⟨_, (decide ((IntKind.u64.wrap (bt a0 (ji13))) > 1)), (by first | rfl | (simp; done) | (simp only [← hji13] <;> (first | rfl | simp)) | (simp [*]; done)), H', ⟨by have := HK1.out; first | omega | exact Nat.le_refl _⟩, ⟨kX BK101.out⟩, ⟨bX HB.out⟩⟩
       rw [if_neg c18] at H
       have c18b0 : (x6_1 == 9) = false := beq_eq_false_iff_ne.mpr c18
       have c18b1 : (x6_1 != 9) = true := bne_iff_ne.mpr c18
       (first | rw [c18b0] | (simp only [i64_w, i32_w]; rw [c18b0]) | skip)
       have H' := AM H
       clear H
       go_wp2
       go_meet
       case rel => exact ⟨_, (false), (by first | rfl | (simp; done) | (simp [*]; done)), H', ⟨by have := HK1.out; first | omega | exact Nat.le_refl _⟩, ⟨kX BK101.out⟩, ⟨bX HB.out⟩⟩
      case rest =>
       clear HC17
       (try clear c1); (try clear p1); (try clear q1); (try clear hx1); (try clear p2); (try clear c3); (try clear c3b0); (try clear c3b1); (try clear c4); (try clear c6); (try clear c6b0); (try clear p6); (try clear c10); (try clear c10b0); (try clear c11); (try clear c11b0); (try clear c14); (try clear c14b0); (try clear c15); (try clear c15b0); (try clear p16); (try clear q16); (try clear hx16); (try clear c18); (try clear c18b0); (try clear c18b1); (try clear hcz12); (try clear hcz5); (try clear hcz8); (try clear hfz12); (try clear hfz5); (try clear hfz8)
       obtain ⟨kq, x38_16, rfl, HA, HJ16, BK101, HB⟩ := hcut
       cases kq with
       | zero => exact absurd HA.out (by simp [spec_GetNum.j1])
       | succ kj16 =>
        have H := HA.out
        clear HA
        simp only [spec_GetNum.j1] at H
        by_cases c19 : x38_16 = true
        ·
         subst c19
         have H1 : (some (0, 0, 3)) = some (r1, r2, r3) := by rw [if_pos rfl] at H; exact H
         clear H
         have H := H1
         clear H1
         simp only [Option.some.injEq, Prod.mk.injEq] at H
         obtain ⟨rfl, rfl, rfl⟩ := H
         have hcz20 := q3 BK101.out
         have hfz20 := fZ BK101.out
         go_wp2
         refine bodyPost_ret (results_cell_row rfl _ _ gb101 69 #[.int .i64 0, .int .i64 0, .int .i64 3] (0, 0) _ rfl (by refine kP (cs := #[.int .i64 0, .int .i64 0, .int .i64 x102002_1]) 2 ?_; refine kP (cs := #[.int .i64 0, .int .i64 x102001_1, .int .i64 x102002_1]) 1 ?_; refine kP (cs := #[.int .i64 x102000_1, .int .i64 x102001_1, .int .i64 x102002_1]) 0 ?_; (with_reducible repeat (first | apply kN | apply kD | apply kA)); exact BK101.out) Tryd.underlying69 rfl (by kernel_rfl)) rfl ?_
         exact ⟨by first | rfl | (simp [errW_none, errW_some] <;> rfl) | (simp only [← hji13]; first | rfl | (simp [errW_none, errW_some] <;> rfl)) | (simp [*, errW_none, errW_some] <;> rfl), bX HB.out⟩
        replace c19 := Bool.eq_false_iff.mpr c19
        subst c19
        have H1 : (if 0 ≤ (IntKind.u64.wrap (wrap64 (7 * x6_1))) then (if (IntKind.u64.wrap (bt a0 (ji13))) < 128 then (if (IntKind.u64.wrap (bt a0 (ji13))) = 0 then (spec_GetNum.j2 kj16 a1 (IntKind.u64.wrap (x5_1 + (shl .u64 (Int.tmod (IntKind.u64.wrap (bt a0 (ji13))) 128) (IntKind.u64.wrap (wrap64 (7 * x6_1)))))) x6_1 (decide (x6_1 > 0))) else (spec_GetNum.j2 kj16 a1 (IntKind.u64.wrap (x5_1 + (shl .u64 (Int.tmod (IntKind.u64.wrap (bt a0 (ji13))) 128) (IntKind.u64.wrap (wrap64 (7 * x6_1)))))) x6_1 false)) else (spec_GetNum.l0 kj16 a0 a1 (IntKind.u64.wrap (x5_1 + (shl .u64 (Int.tmod (IntKind.u64.wrap (bt a0 (ji13))) 128) (IntKind.u64.wrap (wrap64 (7 * x6_1)))))) (wrap64 (x6_1 + 1)))) else (none)) = some (r1, r2, r3) := by rw [if_neg (show ¬ (false = true) by decide)] at H; exact H
        clear H
        have H := H1
        clear H1
        obtain ⟨ji21, hji21⟩ : ∃ j_ : Int, (IntKind.u64.wrap (wrap64 (7 * x6_1))) = j_ := ⟨_, rfl⟩
        replace H : (if 0 ≤ (ji21) then (if (IntKind.u64.wrap (bt a0 (ji13))) < 128 then (if (IntKind.u64.wrap (bt a0 (ji13))) = 0 then (spec_GetNum.j2 kj16 a1 (IntKind.u64.wrap (x5_1 + (shl .u64 (Int.tmod (IntKind.u64.wrap (bt a0 (ji13))) 128) (ji21)))) x6_1 (decide (x6_1 > 0))) else (spec_GetNum.j2 kj16 a1 (IntKind.u64.wrap (x5_1 + (shl .u64 (Int.tmod (IntKind.u64.wrap (bt a0 (ji13))) 128) (ji21)))) x6_1 false)) else (spec_GetNum.l0 kj16 a0 a1 (IntKind.u64.wrap (x5_1 + (shl .u64 (Int.tmod (IntKind.u64.wrap (bt a0 (ji13))) 128) (ji21)))) (wrap64 (x6_1 + 1)))) else (none)) = some (r1, r2, r3) := by first | (rw [hji21] at H; exact H) | (simp only [hji21] at H ⊢; exact H)
        by_cases c22 : 0 ≤ (ji21)
        ·
         rw [if_pos c22] at H
         have c22b0 := eq_true c22
         have c22b1 : decide (0 ≤ (ji21)) = true := decide_eq_true c22
         clear c22
         obtain ⟨ji23, hji23⟩ : ∃ j_ : Int, (shl .u64 (Int.tmod (IntKind.u64.wrap (bt a0 (ji13))) 128) (ji21)) = j_ := ⟨_, rfl⟩
         replace H : (if (IntKind.u64.wrap (bt a0 (ji13))) < 128 then (if (IntKind.u64.wrap (bt a0 (ji13))) = 0 then (spec_GetNum.j2 kj16 a1 (IntKind.u64.wrap (x5_1 + (ji23))) x6_1 (decide (x6_1 > 0))) else (spec_GetNum.j2 kj16 a1 (IntKind.u64.wrap (x5_1 + (ji23))) x6_1 false)) else (spec_GetNum.l0 kj16 a0 a1 (IntKind.u64.wrap (x5_1 + (ji23))) (wrap64 (x6_1 + 1)))) = some (r1, r2, r3) := by first | (rw [hji23] at H; exact H) | (simp only [hji23] at H ⊢; exact H)
         have hji23_ : (IntKind.u64.wrap ((Int.tmod (IntKind.u64.wrap (bt a0 (ji13))) 128) * 2 ^ min (ji21).toNat 64)) = ji23 := hji23
         have hji23z : (ji21) ≤ 64 → (IntKind.u64.wrap ((Int.tmod (IntKind.u64.wrap (bt a0 (ji13))) 128) * 2 ^ (ji21).toNat)) = ji23 := shl_small hji23
         by_cases c24 : (IntKind.u64.wrap (bt a0 (ji13))) < 128
         ·
          rw [if_pos c24] at H
          have c24b0 : decide ((IntKind.u64.wrap (bt a0 (ji13))) < 128) = true := decide_eq_true c24
          clear c24
          have HC25 := AM H
          clear H
          go_upto_region 16 with (fail)
          go_cut [55] (fun v55 wc => ∃ (kq : Nat) (x55_24 : Bool), v55 = .bool x55_24 ∧ Aside0 (spec_GetNum.j2 kq a1 (IntKind.u64.wrap (x5_1 + (ji23))) x6_1 x55_24 = some (r1, r2, r3)) ∧ Aside0 (kq ≤ kj16) ∧ Aside0 (wc.heap[gb101]? = some (.cells #[.int .i64 x102000_1, .int .i64 x102001_1, .int .i64 x102002_1] 69 (0, 0))) ∧ Aside0 (Below w.heap.size w wc))
          case first =>
           have H := HC25.out
           clear HC25
           by_cases c26 : (IntKind.u64.wrap (bt a0 (ji13))) = 0
           ·
            rw [if_pos c26] at H
            have c26b0 : ((IntKind.u64.wrap (bt a0 (ji13))) == 0) = true := beq_iff_eq.mpr c26
            have c26b1 : ((IntKind.u64.wrap (bt a0 (ji13))) != 0) = false := bne_eq_false_iff_eq.mpr c26
            clear c26
            (first | rw [c26b0] | (simp only [i64_w, i32_w]; rw [c26b0]) | skip)
            have H' := AM H
            clear H
            go_wp2
            go_meet
            case rel => exact ⟨_, (decide (x6_1 > 0)), (by first | rfl | (simp; done) | (simp [*]; done)), H', ⟨by have := HK1.out; have := HJ16.out; first | omega | exact Nat.le_refl _⟩, ⟨kX BK101.out⟩, ⟨bX HB.out⟩⟩
           rw [if_neg c26] at H
           have c26b0 : ((IntKind.u64.wrap (bt a0 (ji13))) == 0) = false := beq_eq_false_iff_ne.mpr c26
           have c26b1 : ((IntKind.u64.wrap (bt a0 (ji13))) != 0) = true := bne_iff_ne.mpr c26
           (first | rw [c26b0] | (simp only [i64_w, i32_w]; rw [c26b0]) | skip)
           have H' := AM H
           clear H
           go_wp2
           go_meet
           case rel => exact ⟨_, (false), (by first | rfl | (simp; done) | (simp [*]; done)), H', ⟨by have := HK1.out; have := HJ16.out; first | omega | exact Nat.le_refl _⟩, ⟨kX BK101.out⟩, ⟨bX HB.out⟩⟩
          case rest =>
           clear HC25
           (try clear c1); (try clear p1); (try clear q1); (try clear hx1); (try clear c2); (try clear p2); (try clear c3); (try clear c3b0); (try clear c3b1); (try clear c4); (try clear c6); (try clear c6b0); (try clear p6); (try clear c10); (try clear c10b0); (try clear c11); (try clear c11b0); (try clear c14); (try clear c14b0); (try clear c15); (try clear c15b0); (try clear p16); (try clear q16); (try clear hx16); (try clear c18); (try clear c18b0); (try clear c18b1); (try clear c19); (try clear c22); (try clear c22b0); (try clear c22b1); (try clear c24); (try clear c24b0); (try clear c26); (try clear c26b0); (try clear c26b1); (try clear hcz12); (try clear hcz20); (try clear hcz5); (try clear hcz8); (try clear hfz12); (try clear hfz20); (try clear hfz5); (try clear hfz8)
           obtain ⟨kq, x55_24, rfl, HA, HJ24, BK101, HB⟩ := hcut
           cases kq with
           | zero => exact absurd HA.out (by simp [spec_GetNum.j2])
           | succ kj24 =>
            have H := HA.out
            clear HA
            simp only [spec_GetNum.j2] at H
            by_cases c27 : x55_24 = true
            ·
             subst c27
             have H1 : (some (0, 0, 3)) = some (r1, r2, r3) := by rw [if_pos rfl] at H; exact H
             clear H
             have H := H1
             clear H1
             simp only [Option.some.injEq, Prod.mk.injEq] at H
             obtain ⟨rfl, rfl, rfl⟩ := H
             have hcz28 := q3 BK101.out
             have hfz28 := fZ BK101.out
             go_wp2
             refine bodyPost_ret (results_cell_row rfl _ _ gb101 69 #[.int .i64 0, .int .i64 0, .int .i64 3] (0, 0) _ rfl (by refine kP (cs := #[.int .i64 0, .int .i64 0, .int .i64 x102002_1]) 2 ?_; refine kP (cs := #[.int .i64 0, .int .i64 x102001_1, .int .i64 x102002_1]) 1 ?_; refine kP (cs := #[.int .i64 x102000_1, .int .i64 x102001_1, .int .i64 x102002_1]) 0 ?_; (with_reducible repeat (first | apply kN | apply kD | apply kA)); exact BK101.out) Tryd.underlying69 rfl (by kernel_rfl)) rfl ?_
             exact ⟨by first | rfl | (simp [errW_none, errW_some] <;> rfl) | (simp only [← hji13, ← hji21, ← hji23]; first | rfl | (simp [errW_none, errW_some] <;> rfl)) | (simp [*, errW_none, errW_some] <;> rfl), bX HB.out⟩
            replace c27 := Bool.eq_false_iff.mpr c27
            subst c27
            have H1 : (if (Int.tmod (IntKind.u64.wrap (x5_1 + (ji23))) 2) = 1 then (some (wrap64 ((wrap64 (-(wrap64 (IntKind.u64.wrap (Int.tdiv (IntKind.u64.wrap (x5_1 + (ji23))) 2))))) - 1), wrap64 ((wrap64 (a1 + x6_1)) + 1), 0)) else (some (wrap64 (IntKind.u64.wrap (Int.tdiv (IntKind.u64.wrap (x5_1 + (ji23))) 2)), wrap64 ((wrap64 (a1 + x6_1)) + 1), 0))) = some (r1, r2, r3) := by rw [if_neg (show ¬ (false = true) by decide)] at H; exact H
            clear H
            have H := H1
            clear H1
            by_cases c29 : (Int.tmod (IntKind.u64.wrap (x5_1 + (ji23))) 2) = 1
            ·
             rw [if_pos c29] at H
             have c29b0 : ((Int.tmod (IntKind.u64.wrap (x5_1 + (ji23))) 2) == 1) = true := beq_iff_eq.mpr c29
             have c29b1 : ((Int.tmod (IntKind.u64.wrap (x5_1 + (ji23))) 2) != 1) = false := bne_eq_false_iff_eq.mpr c29
             clear c29
             simp only [Option.some.injEq, Prod.mk.injEq] at H
             obtain ⟨rfl, rfl, rfl⟩ := H
             have hcz30 := q3 BK101.out
             have hfz30 := fZ BK101.out
             go_wp2
             refine bodyPost_ret (results_cell_row rfl _ _ gb101 69 #[.int .i64 (wrap64 ((wrap64 (-(wrap64 (IntKind.u64.wrap (Int.tdiv (IntKind.u64.wrap (x5_1 + (ji23))) 2))))) - 1)), .int .i64 (wrap64 ((wrap64 (a1 + x6_1)) + 1)), .int .i64 0] (0, 0) _ rfl (by refine kP (cs := #[.int .i64 (wrap64 ((wrap64 (-(wrap64 (IntKind.u64.wrap (Int.tdiv (IntKind.u64.wrap (x5_1 + (ji23))) 2))))) - 1)), .int .i64 (wrap64 ((wrap64 (a1 + x6_1)) + 1)), .int .i64 x102002_1]) 2 ?_; refine kP (cs := #[.int .i64 (wrap64 ((wrap64 (-(wrap64 (IntKind.u64.wrap (Int.tdiv (IntKind.u64.wrap (x5_1 + (ji23))) 2))))) - 1)), .int .i64 x102001_1, .int .i64 x102002_1]) 1 ?_; refine kP (cs := #[.int .i64 x102000_1, .int .i64 x102001_1, .int .i64 x102002_1]) 0 ?_; (with_reducible repeat (first | apply kN | apply kD | apply kA)); exact BK101.out) Tryd.underlying69 rfl (by kernel_rfl)) rfl ?_
             exact ⟨by first | rfl | (simp [errW_none, errW_some] <;> rfl) | (simp only [← hji13, ← hji21, ← hji23]; first | rfl | (simp [errW_none, errW_some] <;> rfl)) | (simp [*, errW_none, errW_some] <;> rfl), bX HB.out⟩
            rw [if_neg c29] at H
            have c29b0 : ((Int.tmod (IntKind.u64.wrap (x5_1 + (ji23))) 2) == 1) = false := beq_eq_false_iff_ne.mpr c29
            have c29b1 : ((Int.tmod (IntKind.u64.wrap (x5_1 + (ji23))) 2) != 1) = true := bne_iff_ne.mpr c29
            simp only [Option.some.injEq, Prod.mk.injEq] at H
            obtain ⟨rfl, rfl, rfl⟩ := H
            have hcz31 := q3 BK101.out
            have hfz31 := fZ BK101.out
            go_wp2
            refine bodyPost_ret (results_cell_row rfl _ _ gb101 69 #[.int .i64 (wrap64 (IntKind.u64.wrap (Int.tdiv (IntKind.u64.wrap (x5_1 + (ji23))) 2))), .int .i64 (wrap64 ((wrap64 (a1 + x6_1)) + 1)), .int .i64 0] (0, 0) _ rfl (by refine kP (cs := #[.int .i64 (wrap64 (IntKind.u64.wrap (Int.tdiv (IntKind.u64.wrap (x5_1 + (ji23))) 2))), .int .i64 (wrap64 ((wrap64 (a1 + x6_1)) + 1)), .int .i64 x102002_1]) 2 ?_; refine kP (cs := #[.int .i64 (wrap64 (IntKind.u64.wrap (Int.tdiv (IntKind.u64.wrap (x5_1 + (ji23))) 2))), .int .i64 x102001_1, .int .i64 x102002_1]) 1 ?_; refine kP (cs := #[.int .i64 x102000_1, .int .i64 x102001_1, .int .i64 x102002_1]) 0 ?_; (with_reducible repeat (first | apply kN | apply kD | apply kA)); exact BK101.out) Tryd.underlying69 rfl (by kernel_rfl)) rfl ?_
            exact ⟨by first | rfl | (simp [errW_none, errW_some] <;> rfl) | (simp only [← hji13, ← hji21, ← hji23]; first | rfl | (simp [errW_none, errW_some] <;> rfl)) | (simp [*, errW_none, errW_some] <;> rfl), bX HB.out⟩
         rw [if_neg c24] at H
         have c24b0 : decide ((IntKind.u64.wrap (bt a0 (ji13))) < 128) = false := decide_eq_false c24
         clear c24
         have H' := AM H
         clear H
         go_wp2
         go_roundg kj16
         case measure => have := HK1.out; have := HJ16.out; omega
         case rel => exact ⟨(IntKind.u64.wrap (x5_1 + (ji23))), (wrap64 (x6_1 + 1)), (x102000_1), (x102001_1), (x102002_1), (by first | rfl | (simp; done) | (simp only [← hji23] <;> (first | rfl | simp)) | (simp [*]; done)), (by first | rfl | (simp; done) | (simp [*]; done)), H', ⟨by have := HK1.out; have := HJ16.out; omega⟩, ⟨kX BK101.out⟩, ⟨bX HB.out⟩⟩
        rw [if_neg c22] at H
        exact absurd H (by simp)
     rw [if_neg c15] at H
     exact absurd H (by simp)
    rw [if_neg c14] at H
    exact absurd H (by simp)
   rw [if_neg c10] at H
   have c10b0 : decide (x6_1 < 10) = false := decide_eq_false c10
   clear c10
   simp only [Option.some.injEq, Prod.mk.injEq] at H
   obtain ⟨rfl, rfl, rfl⟩ := H
   have hcz32 := q3 BK101.out
   have hfz32 := fZ BK101.out
   go_wp2
   refine bodyPost_ret (results_cell_row rfl _ _ gb101 69 #[.int .i64 0, .int .i64 0, .int .i64 3] (0, 0) _ rfl (by refine kP (cs := #[.int .i64 0, .int .i64 0, .int .i64 x102002_1]) 2 ?_; refine kP (cs := #[.int .i64 0, .int .i64 x102001_1, .int .i64 x102002_1]) 1 ?_; refine kP (cs := #[.int .i64 x102000_1, .int .i64 x102001_1, .int .i64 x102002_1]) 0 ?_; (with_reducible repeat (first | apply kN | apply kD | apply kA)); exact BK101.out) Tryd.underlying69 rfl (by kernel_rfl)) rfl ?_
   exact ⟨by first | rfl | (simp [*, errW_none, errW_some] <;> rfl), bX HB.out⟩

end Go.Proofs.YtbediildfabhnaaDoor.Q
