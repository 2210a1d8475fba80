/- Printed by a program of this session (wip/mp.py over the kit's print.py): functions of the translation as plain Lean functions, and that the machine's calls do what these say. -/
import Derived.Test.YtcnilcipcnjmjaaQx0
import Derived.Test.YtcnilcipcnjmjaaQx2
import Derived.Test.YtcnilcipcnjmjaaQx3
import Derived.Test.YtcnilcipcnjmjaaQx4
namespace Go.Proofs.Ytcnilcipcnjmjaa.Q
open Go.RowKit Go.Proofs.Ytcnilcipcnjmjaa.HB Go.Proofs.YtcnilcipcnjmjaaW.PrintWords Go.Proofs.YtcnilcipcnjmjaaW.PrintLast Go.Proofs.YtcnilcipcnjmjaaW.PrintMore
attribute [local go_sem] max2_int min2_int max_two min_two max_three min_three max_four min_four   -- for this text's walks alone
set_option linter.unusedVariables false
set_option linter.unusedSimpArgs false

/-! ### spec_TopicPublish: function 14 -/

mutual
def spec_TopicPublish.j0 : Nat → ByteArray → Bool → ByteArray → Int → List ByteArray → List (S36) → Option (ByteArray × Int × List ByteArray × (List (S36)) × List ByteArray × Int × Int)
  | 0, _, _, _, _, _, _ => none
  | k + 1, x1, x17, x102000, x102001, x102002, x102003 => if x17 = true then ((spec_l07Ill.f 1).bind fun bt118 => (some (bt118.1, bt118.2.1, bt118.2.2.1, bt118.2.2.2.1, bt118.2.2.2.2.1, bt118.2.2.2.2.2.1, bt118.2.2.2.2.2.2))) else (if (x102002.length : Int) ≥ 20 then (spec_TopicPublish.j1 k x1 true x102000 x102001 x102002 x102003) else ((spec_l07End.f x102000 x102001 x102002 x102003).bind fun t131 => (spec_TopicPublish.j1 k x1 (decide (t131 ≥ 1000000000)) x102000 x102001 x102002 x102003)))
def spec_TopicPublish.j1 : Nat → ByteArray → Bool → ByteArray → Int → List ByteArray → List (S36) → Option (ByteArray × Int × List ByteArray × (List (S36)) × List ByteArray × Int × Int)
  | 0, _, _, _, _, _, _ => none
  | k + 1, x1, x27, x102000, x102001, x102002, x102003 => if x27 = true then ((spec_l07Ill.f 9).bind fun bt132 => (some (bt132.1, bt132.2.1, bt132.2.2.1, bt132.2.2.2.1, bt132.2.2.2.2.1, bt132.2.2.2.2.2.1, bt132.2.2.2.2.2.2))) else ((spec_l07Copy.f x102000 x102001 x102002 x102003).bind fun bt145 => (if bt145.2.2.1.length < 8796093022208 then ((spec_l07End.f x102000 x102001 x102002 x102003).bind fun t157 => (some (bt145.1, bt145.2.1, (bt145.2.2.1 ++ [x1]), bt145.2.2.2, ([] : List ByteArray), t157, 0))) else (none)))
end
def spec_TopicPublish.f (k : Nat) (a0_0 : ByteArray) (a0_1 : Int) (l0_2 : List ByteArray) (l0_3 : List (S36)) (a1 : ByteArray) : Option (ByteArray × Int × List ByteArray × (List (S36)) × List ByteArray × Int × Int) := if (a1.size : Int) > 20000 then ((spec_l07Ill.f 2).bind fun bt103 => (some (bt103.1, bt103.2.1, bt103.2.2.1, bt103.2.2.2.1, bt103.2.2.2.2.1, bt103.2.2.2.2.2.1, bt103.2.2.2.2.2.2))) else ((spec_TopicRight.f k a0_0 a0_1 l0_2 l0_3).bind fun t116 => (if t116 = true then ((spec_l07Text.f a1).bind fun t117 => (spec_TopicPublish.j0 k a1 (!t117) a0_0 a0_1 l0_2 l0_3)) else (spec_TopicPublish.j0 k a1 true a0_0 a0_1 l0_2 l0_3)))
theorem spec_TopicPublish.mono_l : ∀ k, (∀ y0 y1 y2 y3 y4 y5, LeO (spec_TopicPublish.j0 k y0 y1 y2 y3 y4 y5) (spec_TopicPublish.j0 (k + 1) y0 y1 y2 y3 y4 y5)) ∧ (∀ y0 y1 y2 y3 y4 y5, LeO (spec_TopicPublish.j1 k y0 y1 y2 y3 y4 y5) (spec_TopicPublish.j1 (k + 1) y0 y1 y2 y3 y4 y5))
  | 0 => ⟨fun _ _ _ _ _ _ r h => by simp [spec_TopicPublish.j0] at h, fun _ _ _ _ _ _ r h => by simp [spec_TopicPublish.j1] at h⟩
  | k + 1 => by
    obtain ⟨ih0, ih1⟩ := spec_TopicPublish.mono_l k
    refine ⟨?_, ?_⟩
    · intro y0 y1 y2 y3 y4 y5
      unfold spec_TopicPublish.j0
      repeat' first
      | (with_reducible exact ih0 _ _ _ _ _ _)
      | (with_reducible exact ih1 _ _ _ _ _ _)
      | (with_reducible exact spec_TopicRight.mono _ _ _ _ _)
      | (with_reducible exact LeO.refl _)
      | (with_reducible exact LeO.none _)
      | (with_reducible refine LeO.ite ?_ ?_)
      | (with_reducible refine LeO.bind ?_ (fun _ => ?_))
      | exact ih0 _ _ _ _ _ _
      | exact ih1 _ _ _ _ _ _
      | exact spec_TopicRight.mono _ _ _ _ _
      | exact LeO.none _
      | refine LeO.ite ?_ ?_
      | refine LeO.bind ?_ (fun _ => ?_)
    · intro y0 y1 y2 y3 y4 y5
      unfold spec_TopicPublish.j1
      repeat' first
      | (with_reducible exact ih0 _ _ _ _ _ _)
      | (with_reducible exact ih1 _ _ _ _ _ _)
      | (with_reducible exact spec_TopicRight.mono _ _ _ _ _)
      | (with_reducible exact LeO.refl _)
      | (with_reducible exact LeO.none _)
      | (with_reducible refine LeO.ite ?_ ?_)
      | (with_reducible refine LeO.bind ?_ (fun _ => ?_))
      | exact ih0 _ _ _ _ _ _
      | exact ih1 _ _ _ _ _ _
      | exact spec_TopicRight.mono _ _ _ _ _
      | exact LeO.none _
      | refine LeO.ite ?_ ?_
      | refine LeO.bind ?_ (fun _ => ?_)
theorem spec_TopicPublish.mono : ∀ a0 a1 a2 a3 a4 k, LeO (spec_TopicPublish.f k a0 a1 a2 a3 a4) (spec_TopicPublish.f (k + 1) a0 a1 a2 a3 a4) := by
  intro a0 a1 a2 a3 a4 k
  obtain ⟨ih0, ih1⟩ := spec_TopicPublish.mono_l k
  unfold spec_TopicPublish.f
  repeat' first
      | (with_reducible exact ih0 _ _ _ _ _ _)
      | (with_reducible exact ih1 _ _ _ _ _ _)
      | (with_reducible exact spec_TopicRight.mono _ _ _ _ _)
      | (with_reducible exact LeO.refl _)
      | (with_reducible exact LeO.none _)
      | (with_reducible refine LeO.ite ?_ ?_)
      | (with_reducible refine LeO.bind ?_ (fun _ => ?_))
      | exact ih0 _ _ _ _ _ _
      | exact ih1 _ _ _ _ _ _
      | exact spec_TopicRight.mono _ _ _ _ _
      | exact LeO.none _
      | refine LeO.ite ?_ ?_
      | refine LeO.bind ?_ (fun _ => ?_)
set_option maxHeartbeats 60000000 in
set_option maxRecDepth 100000 in
theorem spec_TopicPublish.calls (k : Nat) (a0_0 : ByteArray) (a0_1 : Int) (A0_2 : Option Addr) (c0_2 : Nat) (l0_2 : List ByteArray) (A0_3 : Option Addr) (c0_3 : Nat) (l0_3 : List (S36)) (a1 : ByteArray) (r1 : ByteArray) (r2 : Int) (r3 : List ByteArray) (r4 : List (S36)) (r5 : List ByteArray) (r6 : Int) (r7 : Int) (w : World) (hr0_2 : Kd.C Kd.string w A0_2 l0_2.length l0_2) (hc0_2 : l0_2.length ≤ c0_2) (hr0_3 : Kd.C k36 w A0_3 l0_3.length l0_3) (hc0_3 : l0_3.length ≤ c0_3) (h : spec_TopicPublish.f k a0_0 a0_1 l0_2 l0_3 a1 = some (r1, r2, r3, r4, r5, r6, r7)) :
    Calls Try.prog 14 #[.agg #[.string a0_0, .int .i64 a0_1, .slice A0_2 l0_2.length c0_2, .slice A0_3 l0_3.length c0_3], .string a1] w fun e w' => ∃ v2_ v3_ v4_ : Value, e = .returned (.agg #[.string r1, .int .i64 r2, v2_, v3_, v4_, .int .i64 r6, .int .i64 r7]) ∧ Kd.R Kd.string 9 w' w.heap.size (fun k_ => some k_ ≠ (v4_ : Value).ownBlock) v2_ r3 ∧ Kd.R k36 36 w' w.heap.size (fun _ => True) v3_ r4 ∧ Kd.R Kd.string 9 w' w.heap.size (fun k_ => some k_ ≠ (v2_ : Value).ownBlock) v4_ r5 ∧ Below w.heap.size w w' := by
 have hu26 := Try.underlying26
 have hu30 := Try.underlying30
 have HR0_2 := AM hr0_2
 have HC0_2 := AM hc0_2
 clear hr0_2 hc0_2
 have HR0_3 := AM hr0_3
 have HC0_3 := AM hc0_3
 clear hr0_3 hc0_3
 have HB := AM (Below.refl w.heap.size w)
 have H : (if (a1.size : Int) > 20000 then ((spec_l07Ill.f 2).bind fun bt103 => (some (bt103.1, bt103.2.1, bt103.2.2.1, bt103.2.2.2.1, bt103.2.2.2.2.1, bt103.2.2.2.2.2.1, bt103.2.2.2.2.2.2))) else ((spec_TopicRight.f k a0_0 a0_1 l0_2 l0_3).bind fun t116 => (if t116 = true then ((spec_l07Text.f a1).bind fun t117 => (spec_TopicPublish.j0 k a1 (!t117) a0_0 a0_1 l0_2 l0_3)) else (spec_TopicPublish.j0 k a1 true a0_0 a0_1 l0_2 l0_3)))) = some (r1, r2, r3, r4, r5, r6, r7) := h
 clear h
 by_cases c3 : (a1.size : Int) > 20000
 ·
  rw [if_pos c3] at H
  have c3b0 : decide (20000 < (a1.size : Int)) = true := decide_eq_true c3
  have c3b1 : decide (20000 < a1.size) = true := decide_eq_true (by omega)
  clear c3
  replace H := Option.bind_eq_some_iff.mp H
  obtain ⟨⟨t103, t104, t105, t108, t111, t114, t115⟩, A40, H⟩ := H
  try dsimp only at H
  have A4 := AM A40
  clear A40
  simp only [Option.some.injEq, Prod.mk.injEq] at H
  obtain ⟨rfl, rfl, rfl, rfl, rfl, rfl, rfl⟩ := H
  go_enter Try.func14, Try.ntmps14
  go_wp2_with (first | ((with_reducible refine gate_dst (N := 2) rfl ?_); refine box_event (by rfl) (N := 2) (by rfl) (cs := #[.string a0_0, .int .i64 a0_1, .slice A0_2 l0_2.length c0_2, .slice A0_3 l0_3.length c0_3]) (t := 26) (by first | (go_simp; done) | (go_simp; rfl)) ?_; intro gb101 hg w5 hbox hb; have _ := AM (below_step (bX HB.out) hb); have _ := AM (hbox); have n2_ := AM ((by rw [hg]; exact (bZ (bX HB.out)) : w.heap.size ≤ gb101)); clear HB; rename_i HB BK101; have GW101 := n2_; have GE101 := n2_; clear n2_; clear hb hbox hg) | ((with_reducible refine gate_dst (N := 4) rfl ?_); refine box_event (by rfl) (N := 4) (by rfl) (cs := #[.string (⟨#[]⟩ : ByteArray), .int .i64 0, .slice none 0 0, .slice none 0 0, .slice none 0 0, .int .i64 0, .int .i64 0]) (t := 30) (by first | (go_simp; done) | (go_simp; rfl)) ?_; intro gb102 hg w6 hbox hb; have _ := AM (nB BK101.out hb); have _ := AM (below_step (bX HB.out) hb); have _ := AM (hbox); have n3_ := AM ((by rw [hg]; exact (bZ (bX HB.out)) : w.heap.size ≤ gb102)); have _ := AM (lX hg BK101.out); have _ := AM (lX hg BK101.out).symm; clear BK101 HB; rename_i BK101 HB BK102 NB101_102 NB102_101; have GW102 := n3_; have GE102 := n3_; clear n3_; clear hb hbox hg) | ((with_reducible refine gate_callee (f := 28) rfl ?_); refine goesL_ (some 9) rfl rfl Try.func28 (by kernel_rfl) rfl #[.int .i64 2] rfl (by (try simp only [mA, mB, mC]); first | done | rfl | (simp only [mD, mE]; rfl)) ?_; (with_reducible refine (spec_l07Ill.calls 2 t103 t104 t105 t108 t111 t114 t115 _ A4.out).mono ?_); rintro e w7 ⟨v106, v109, v112, rfl, ho0, ho1, ho2, hb⟩; refine ⟨_, rfl, ?_⟩; have _ := AM (Kd.R_lower ho0 (bZ (bX HB.out))); have _ := AM (Kd.R_lower ho1 (bZ (bX HB.out))); have _ := AM (Kd.R_lower ho2 (bZ (bX HB.out))); have _ := AM (nB BK101.out hb); have _ := AM (nB BK102.out hb); have _ := AM (below_step (bX HB.out) hb); clear BK101 BK102 HB; rename_i HO107 HO110 HO113 BK101 BK102 HB; (try clear hb); (try clear hk); (try clear ho0); (try clear ho1); (try clear ho2); have hnb8 := NB102_101.out; have hnc8 := NB101_102.out; have hcz9 := q7 BK102.out; have hfz9 := fZ BK102.out; obtain ⟨Ao10, co10, eo10⟩ := Kd.R_slice HO107.out; subst eo10; obtain ⟨Ao11, co11, eo11⟩ := Kd.R_slice HO110.out; subst eo11; obtain ⟨Ao12, co12, eo12⟩ := Kd.R_slice HO113.out; subst eo12))
  refine bodyPost_ret (results_cell_row rfl _ _ gb102 30 #[.string t103, .int .i64 t104, .slice Ao10 t105.length co10, .slice Ao11 t108.length co11, .slice Ao12 t111.length co12, .int .i64 t114, .int .i64 t115] (0, 0) _ rfl (by refine kP (cs := #[.string t103, .int .i64 t104, .slice Ao10 t105.length co10, .slice Ao11 t108.length co11, .slice Ao12 t111.length co12, .int .i64 t114, .int .i64 0]) 6 ?_; refine kP (cs := #[.string t103, .int .i64 t104, .slice Ao10 t105.length co10, .slice Ao11 t108.length co11, .slice Ao12 t111.length co12, .int .i64 0, .int .i64 0]) 5 ?_; refine kP (cs := #[.string t103, .int .i64 t104, .slice Ao10 t105.length co10, .slice Ao11 t108.length co11, .slice none 0 0, .int .i64 0, .int .i64 0]) 4 ?_; refine kP (cs := #[.string t103, .int .i64 t104, .slice Ao10 t105.length co10, .slice none 0 0, .slice none 0 0, .int .i64 0, .int .i64 0]) 3 ?_; refine kP (cs := #[.string t103, .int .i64 t104, .slice none 0 0, .slice none 0 0, .slice none 0 0, .int .i64 0, .int .i64 0]) 2 ?_; refine kP (cs := #[.string t103, .int .i64 0, .slice none 0 0, .slice none 0 0, .slice none 0 0, .int .i64 0, .int .i64 0]) 1 ?_; refine kP (cs := #[.string (⟨#[]⟩ : ByteArray), .int .i64 0, .slice none 0 0, .slice none 0 0, .slice none 0 0, .int .i64 0, .int .i64 0]) 0 ?_; (with_reducible repeat (first | apply kN | apply kD | apply kA)); exact BK102.out) Try.underlying30 rfl (by kernel_rfl)) rfl ?_
  exact ⟨_, _, _, by first | rfl | (simp [*, errW_none, errW_some] <;> rfl), by (with_reducible repeat (first | apply rA | apply rN | apply rD)); exact Rf7 HO107.out BK102.out (by decide) (fun _ hk => hk.1), by (with_reducible repeat (first | apply rA | apply rN | apply rD)); exact Rf7 HO110.out BK102.out (by decide) (fun _ hk => trivial), by (with_reducible repeat (first | apply rA | apply rN | apply rD)); exact Rf7 HO113.out BK102.out (by decide) (fun _ hk => hk.1), bX HB.out⟩
 rw [if_neg c3] at H
 have c3b0 : decide (20000 < (a1.size : Int)) = false := decide_eq_false c3
 have c3b1 : decide (20000 < a1.size) = false := decide_eq_false (by omega)
 clear c3
 have HC13 := AM H
 clear H
 go_enter Try.func14, Try.ntmps14
 go_upto_region 3 with (first | ((with_reducible refine gate_dst (N := 2) rfl ?_); refine box_event (by rfl) (N := 2) (by rfl) (cs := #[.string a0_0, .int .i64 a0_1, .slice A0_2 l0_2.length c0_2, .slice A0_3 l0_3.length c0_3]) (t := 26) (by first | (go_simp; done) | (go_simp; rfl)) ?_; intro gb101 hg w14 hbox hb; have _ := AM (below_step (bX HB.out) hb); have _ := AM (hbox); have n2_ := AM ((by rw [hg]; exact (bZ (bX HB.out)) : w.heap.size ≤ gb101)); clear HB; rename_i HB BK101; have GW101 := n2_; have GE101 := n2_; clear n2_; clear hb hbox hg) | ((with_reducible refine gate_dst (N := 4) rfl ?_); refine box_event (by rfl) (N := 4) (by rfl) (cs := #[.string (⟨#[]⟩ : ByteArray), .int .i64 0, .slice none 0 0, .slice none 0 0, .slice none 0 0, .int .i64 0, .int .i64 0]) (t := 30) (by first | (go_simp; done) | (go_simp; rfl)) ?_; intro gb102 hg w15 hbox hb; have _ := AM (nB BK101.out hb); have _ := AM (below_step (bX HB.out) hb); have _ := AM (hbox); have n3_ := AM ((by rw [hg]; exact (bZ (bX HB.out)) : w.heap.size ≤ gb102)); have _ := AM (lX hg BK101.out); have _ := AM (lX hg BK101.out).symm; clear BK101 HB; rename_i BK101 HB BK102 NB101_102 NB102_101; have GW102 := n3_; have GE102 := n3_; clear n3_; clear hb hbox hg))
 (try simp only [Act.put, List.setIfInBounds_toArray, List.set_cons_zero, List.set_cons_succ])
 go_cut [17] (fun v17 wc => ∃ (kq : Nat) (x17_12 : Bool), v17 = .bool x17_12 ∧ Aside0 (spec_TopicPublish.j0 kq a1 x17_12 a0_0 a0_1 l0_2 l0_3 = some (r1, r2, r3, r4, r5, r6, r7)) ∧ Aside0 (kq ≤ k) ∧ Aside0 (wc.heap[gb101]? = some (.cells #[.string a0_0, .int .i64 a0_1, (.slice A0_2 l0_2.length c0_2), (.slice A0_3 l0_3.length c0_3)] 26 (0, 0))) ∧ Aside0 (wc.heap[gb102]? = some (.cells #[.string (⟨#[]⟩ : ByteArray), .int .i64 0, (.slice none 0 0), (.slice none 0 0), (.slice none 0 0), .int .i64 0, .int .i64 0] 30 (0, 0))) ∧ Aside0 (Below w.heap.size w wc))
 case first =>
  have H := HC13.out
  clear HC13
  replace H := Option.bind_eq_some_iff.mp H
  obtain ⟨t116, A160, H⟩ := H
  replace H : (if t116 = true then ((spec_l07Text.f a1).bind fun t117 => (spec_TopicPublish.j0 k a1 (!t117) a0_0 a0_1 l0_2 l0_3)) else (spec_TopicPublish.j0 k a1 true a0_0 a0_1 l0_2 l0_3)) = some (r1, r2, r3, r4, r5, r6, r7) := H
  have A16 := AM A160
  clear A160
  by_cases c17 : t116 = true
  ·
   subst c17
   have H1 : ((spec_l07Text.f a1).bind fun t117 => (spec_TopicPublish.j0 k a1 (!t117) a0_0 a0_1 l0_2 l0_3)) = some (r1, r2, r3, r4, r5, r6, r7) := by rw [if_pos rfl] at H; exact H
   clear H
   have H := H1
   clear H1
   replace H := Option.bind_eq_some_iff.mp H
   obtain ⟨t117, A180, H⟩ := H
   replace H : (spec_TopicPublish.j0 k a1 (!t117) a0_0 a0_1 l0_2 l0_3) = some (r1, r2, r3, r4, r5, r6, r7) := H
   have A18 := AM A180
   clear A180
   have H' := AM H
   clear H
   have hnb19 := NB101_102.out
   have hnc19 := NB102_101.out
   have hcz20 := q4 BK101.out
   have hfz20 := fZ BK101.out
   go_wp2_with (first | ((with_reducible refine gate_callee (f := 17) rfl ?_); refine goesL_ (some 11) rfl rfl Try.func17 (by kernel_rfl) rfl #[.agg #[.string a0_0, .int .i64 a0_1, .slice A0_2 l0_2.length c0_2, .slice A0_3 l0_3.length c0_3]] rfl (by (try simp only [mA, mB, mC]); first | done | rfl | (simp only [mD, mE]; rfl)) ?_; (with_reducible refine (spec_TopicRight.calls k a0_0 a0_1 _ _ l0_2 _ _ l0_3 true _ ?side1 ?side2 ?side3 ?side4 A16.out).mono ?_); (case side1 => repeat (first | exact (cB HR0_2.out HB.out) | (with_reducible first | apply cA | apply cN | apply cD))); (case side2 => exact HC0_2.out); (case side3 => repeat (first | exact (cB HR0_3.out HB.out) | (with_reducible first | apply cA | apply cN | apply cD))); (case side4 => exact HC0_3.out); rintro e w21 ⟨rfl, hb⟩; refine ⟨_, rfl, ?_⟩; have _ := AM (nB BK101.out hb); have _ := AM (nB BK102.out hb); have _ := AM (below_step (bX HB.out) hb); clear BK101 BK102 HB; rename_i BK101 BK102 HB; (try clear hb); (try clear hk)) | (go_at_call 36; (with_reducible refine (spec_l07Text.calls a1 t117 _ A18.out).mono ?_); rintro e w' ⟨rfl, ⟨nd, rfl⟩⟩))
   go_meet
   case rel => exact ⟨_, (!t117), (by first | rfl | (simp; done) | (simp [*]; done)), H', ⟨by first | omega | exact Nat.le_refl _⟩, ⟨kX BK101.out⟩, ⟨kX BK102.out⟩, ⟨bX HB.out⟩⟩
  replace c17 := Bool.eq_false_iff.mpr c17
  subst c17
  have H1 : (spec_TopicPublish.j0 k a1 true a0_0 a0_1 l0_2 l0_3) = some (r1, r2, r3, r4, r5, r6, r7) := by rw [if_neg (show ¬ (false = true) by decide)] at H; exact H
  clear H
  have H := H1
  clear H1
  have H' := AM H
  clear H
  have hnb22 := NB101_102.out
  have hnc22 := NB102_101.out
  have hcz23 := q4 BK101.out
  have hfz23 := fZ BK101.out
  go_wp2_with (first | ((with_reducible refine gate_callee (f := 17) rfl ?_); refine goesL_ (some 11) rfl rfl Try.func17 (by kernel_rfl) rfl #[.agg #[.string a0_0, .int .i64 a0_1, .slice A0_2 l0_2.length c0_2, .slice A0_3 l0_3.length c0_3]] rfl (by (try simp only [mA, mB, mC]); first | done | rfl | (simp only [mD, mE]; rfl)) ?_; (with_reducible refine (spec_TopicRight.calls k a0_0 a0_1 _ _ l0_2 _ _ l0_3 false _ ?side1 ?side2 ?side3 ?side4 A16.out).mono ?_); (case side1 => repeat (first | exact (cB HR0_2.out HB.out) | (with_reducible first | apply cA | apply cN | apply cD))); (case side2 => exact HC0_2.out); (case side3 => repeat (first | exact (cB HR0_3.out HB.out) | (with_reducible first | apply cA | apply cN | apply cD))); (case side4 => exact HC0_3.out); rintro e w24 ⟨rfl, hb⟩; refine ⟨_, rfl, ?_⟩; have _ := AM (nB BK101.out hb); have _ := AM (nB BK102.out hb); have _ := AM (below_step (bX HB.out) hb); clear BK101 BK102 HB; rename_i BK101 BK102 HB; (try clear hb); (try clear hk)))
  go_meet
  case rel => exact ⟨_, (true), (by first | rfl | (simp; done) | (simp [*]; done)), H', ⟨by first | omega | exact Nat.le_refl _⟩, ⟨kX BK101.out⟩, ⟨kX BK102.out⟩, ⟨bX HB.out⟩⟩
 case rest =>
  clear HC13
  (try clear c1); (try clear c2); (try clear p2); (try clear c3); (try clear c3b0); (try clear c3b1); (try clear c8); (try clear c14); (try clear c17); (try clear c19); (try clear c22); (try clear hcz20); (try clear hcz23); (try clear hcz9); (try clear hfz20); (try clear hfz23); (try clear hfz9)
  obtain ⟨kq, x17_12, rfl, HA, HJ12, BK101, BK102, HB⟩ := hcut
  cases kq with
  | zero => exact absurd HA.out (by simp [spec_TopicPublish.j0])
  | succ kj12 =>
   have H := HA.out
   clear HA
   simp only [spec_TopicPublish.j0] at H
   by_cases c25 : x17_12 = true
   ·
    subst c25
    have H1 : ((spec_l07Ill.f 1).bind fun bt118 => (some (bt118.1, bt118.2.1, bt118.2.2.1, bt118.2.2.2.1, bt118.2.2.2.2.1, bt118.2.2.2.2.2.1, bt118.2.2.2.2.2.2))) = some (r1, r2, r3, r4, r5, r6, r7) := by rw [if_pos rfl] at H; exact H
    clear H
    have H := H1
    clear H1
    replace H := Option.bind_eq_some_iff.mp H
    obtain ⟨⟨t118, t119, t120, t123, t126, t129, t130⟩, A260, H⟩ := H
    try dsimp only at H
    have A26 := AM A260
    clear A260
    simp only [Option.some.injEq, Prod.mk.injEq] at H
    obtain ⟨rfl, rfl, rfl, rfl, rfl, rfl, rfl⟩ := H
    go_wp2_with (first | ((with_reducible refine gate_callee (f := 28) rfl ?_); refine goesL_ (some 18) rfl rfl Try.func28 (by kernel_rfl) rfl #[.int .i64 1] rfl (by (try simp only [mA, mB, mC]); first | done | rfl | (simp only [mD, mE]; rfl)) ?_; (with_reducible refine (spec_l07Ill.calls 1 t118 t119 t120 t123 t126 t129 t130 _ A26.out).mono ?_); rintro e w27 ⟨v121, v124, v127, rfl, ho0, ho1, ho2, hb⟩; refine ⟨_, rfl, ?_⟩; have _ := AM (Kd.R_lower ho0 (bZ (bX HB.out))); have _ := AM (Kd.R_lower ho1 (bZ (bX HB.out))); have _ := AM (Kd.R_lower ho2 (bZ (bX HB.out))); have _ := AM (nB BK101.out hb); have _ := AM (nB BK102.out hb); have _ := AM (below_step (bX HB.out) hb); clear BK101 BK102 HB; rename_i HO122 HO125 HO128 BK101 BK102 HB; (try clear hb); (try clear hk); (try clear ho0); (try clear ho1); (try clear ho2); have hnb28 := NB102_101.out; have hnc28 := NB101_102.out; have hcz29 := q7 BK102.out; have hfz29 := fZ BK102.out; obtain ⟨Ao30, co30, eo30⟩ := Kd.R_slice HO122.out; subst eo30; obtain ⟨Ao31, co31, eo31⟩ := Kd.R_slice HO125.out; subst eo31; obtain ⟨Ao32, co32, eo32⟩ := Kd.R_slice HO128.out; subst eo32))
    refine bodyPost_ret (results_cell_row rfl _ _ gb102 30 #[.string t118, .int .i64 t119, .slice Ao30 t120.length co30, .slice Ao31 t123.length co31, .slice Ao32 t126.length co32, .int .i64 t129, .int .i64 t130] (0, 0) _ rfl (by refine kP (cs := #[.string t118, .int .i64 t119, .slice Ao30 t120.length co30, .slice Ao31 t123.length co31, .slice Ao32 t126.length co32, .int .i64 t129, .int .i64 0]) 6 ?_; refine kP (cs := #[.string t118, .int .i64 t119, .slice Ao30 t120.length co30, .slice Ao31 t123.length co31, .slice Ao32 t126.length co32, .int .i64 0, .int .i64 0]) 5 ?_; refine kP (cs := #[.string t118, .int .i64 t119, .slice Ao30 t120.length co30, .slice Ao31 t123.length co31, .slice none 0 0, .int .i64 0, .int .i64 0]) 4 ?_; refine kP (cs := #[.string t118, .int .i64 t119, .slice Ao30 t120.length co30, .slice none 0 0, .slice none 0 0, .int .i64 0, .int .i64 0]) 3 ?_; refine kP (cs := #[.string t118, .int .i64 t119, .slice none 0 0, .slice none 0 0, .slice none 0 0, .int .i64 0, .int .i64 0]) 2 ?_; refine kP (cs := #[.string t118, .int .i64 0, .slice none 0 0, .slice none 0 0, .slice none 0 0, .int .i64 0, .int .i64 0]) 1 ?_; refine kP (cs := #[.string (⟨#[]⟩ : ByteArray), .int .i64 0, .slice none 0 0, .slice none 0 0, .slice none 0 0, .int .i64 0, .int .i64 0]) 0 ?_; (with_reducible repeat (first | apply kN | apply kD | apply kA)); exact BK102.out) Try.underlying30 rfl (by kernel_rfl)) rfl ?_
    exact ⟨_, _, _, by first | rfl | (simp [*, errW_none, errW_some] <;> rfl), by (with_reducible repeat (first | apply rA | apply rN | apply rD)); exact Rf7 HO122.out BK102.out (by decide) (fun _ hk => hk.1), by (with_reducible repeat (first | apply rA | apply rN | apply rD)); exact Rf7 HO125.out BK102.out (by decide) (fun _ hk => trivial), by (with_reducible repeat (first | apply rA | apply rN | apply rD)); exact Rf7 HO128.out BK102.out (by decide) (fun _ hk => hk.1), bX HB.out⟩
   replace c25 := Bool.eq_false_iff.mpr c25
   subst c25
   have H1 : (if (l0_2.length : Int) ≥ 20 then (spec_TopicPublish.j1 kj12 a1 true a0_0 a0_1 l0_2 l0_3) else ((spec_l07End.f a0_0 a0_1 l0_2 l0_3).bind fun t131 => (spec_TopicPublish.j1 kj12 a1 (decide (t131 ≥ 1000000000)) a0_0 a0_1 l0_2 l0_3))) = some (r1, r2, r3, r4, r5, r6, r7) := by rw [if_neg (show ¬ (false = true) by decide)] at H; exact H
   clear H
   have H := H1
   clear H1
   have HC33 := AM H
   clear H
   go_upto_region 5 with (fail)
   go_cut [27] (fun v27 wc => ∃ (kq : Nat) (x27_32 : Bool), v27 = .bool x27_32 ∧ Aside0 (spec_TopicPublish.j1 kq a1 x27_32 a0_0 a0_1 l0_2 l0_3 = some (r1, r2, r3, r4, r5, r6, r7)) ∧ Aside0 (kq ≤ kj12) ∧ Aside0 (wc.heap[gb101]? = some (.cells #[.string a0_0, .int .i64 a0_1, (.slice A0_2 l0_2.length c0_2), (.slice A0_3 l0_3.length c0_3)] 26 (0, 0))) ∧ Aside0 (wc.heap[gb102]? = some (.cells #[.string (⟨#[]⟩ : ByteArray), .int .i64 0, (.slice none 0 0), (.slice none 0 0), (.slice none 0 0), .int .i64 0, .int .i64 0] 30 (0, 0))) ∧ Aside0 (Below w.heap.size w wc))
   case first =>
    have H := HC33.out
    clear HC33
    by_cases c34 : (l0_2.length : Int) ≥ 20
    ·
     rw [if_pos c34] at H
     have c34b0 : decide (20 ≤ (l0_2.length : Int)) = true := decide_eq_true c34
     have c34b1 : decide (20 ≤ l0_2.length) = true := decide_eq_true (by omega)
     clear c34
     (first | rw [c34b0] | (simp only [i64_w, i32_w]; rw [c34b0]) | skip)
     have H' := AM H
     clear H
     have hnb35 := NB101_102.out
     have hnc35 := NB102_101.out
     have hcz36 := q4 BK101.out
     have hfz36 := fZ BK101.out
     go_wp2
     go_meet
     case rel => exact ⟨_, (true), (by first | rfl | (simp; done) | (simp [*]; done)), H', ⟨by have := HJ12.out; first | omega | exact Nat.le_refl _⟩, ⟨kX BK101.out⟩, ⟨kX BK102.out⟩, ⟨bX HB.out⟩⟩
    rw [if_neg c34] at H
    have c34b0 : decide (20 ≤ (l0_2.length : Int)) = false := decide_eq_false c34
    have c34b1 : decide (20 ≤ l0_2.length) = false := decide_eq_false (by omega)
    clear c34
    (first | rw [c34b0] | (simp only [i64_w, i32_w]; rw [c34b0]) | skip)
    replace H := Option.bind_eq_some_iff.mp H
    obtain ⟨t131, A370, H⟩ := H
    replace H : (spec_TopicPublish.j1 kj12 a1 (decide (t131 ≥ 1000000000)) a0_0 a0_1 l0_2 l0_3) = some (r1, r2, r3, r4, r5, r6, r7) := H
    have A37 := AM A370
    clear A370
    have H' := AM H
    clear H
    have hnb38 := NB101_102.out
    have hnc38 := NB102_101.out
    have hcz39 := q4 BK101.out
    have hfz39 := fZ BK101.out
    go_wp2_with (first | (go_at_call 31; (with_reducible refine (spec_l07End.calls a0_0 a0_1 _ _ l0_2 _ _ l0_3 t131 _ ?side1 ?side2 ?side3 ?side4 A37.out).mono ?_); (case side1 => repeat (first | exact (cB HR0_2.out HB.out) | (with_reducible first | apply cA | apply cN | apply cD))); (case side2 => exact HC0_2.out); (case side3 => repeat (first | exact (cB HR0_3.out HB.out) | (with_reducible first | apply cA | apply cN | apply cD))); (case side4 => exact HC0_3.out); rintro e w40 ⟨rfl, hb⟩; have _ := AM (nB BK101.out hb); have _ := AM (nB BK102.out hb); have _ := AM (below_step (bX HB.out) hb); clear BK101 BK102 HB; rename_i BK101 BK102 HB; (try clear hb); (try clear hk)))
    go_meet
    case rel => exact ⟨_, (decide (t131 ≥ 1000000000)), (by first | rfl | (simp; done) | (simp [*]; done)), H', ⟨by have := HJ12.out; first | omega | exact Nat.le_refl _⟩, ⟨kX BK101.out⟩, ⟨kX BK102.out⟩, ⟨bX HB.out⟩⟩
   case rest =>
    clear HC33
    (try clear c1); (try clear c2); (try clear p2); (try clear c3); (try clear c3b0); (try clear c3b1); (try clear c8); (try clear c14); (try clear c17); (try clear c19); (try clear c22); (try clear c25); (try clear c28); (try clear c34); (try clear c34b0); (try clear c34b1); (try clear c35); (try clear c38); (try clear hcz20); (try clear hcz23); (try clear hcz29); (try clear hcz36); (try clear hcz39); (try clear hcz9); (try clear hfz20); (try clear hfz23); (try clear hfz29); (try clear hfz36); (try clear hfz39); (try clear hfz9)
    obtain ⟨kq, x27_32, rfl, HA, HJ32, BK101, BK102, HB⟩ := hcut
    cases kq with
    | zero => exact absurd HA.out (by simp [spec_TopicPublish.j1])
    | succ kj32 =>
     have H := HA.out
     clear HA
     simp only [spec_TopicPublish.j1] at H
     by_cases c41 : x27_32 = true
     ·
      subst c41
      have H1 : ((spec_l07Ill.f 9).bind fun bt132 => (some (bt132.1, bt132.2.1, bt132.2.2.1, bt132.2.2.2.1, bt132.2.2.2.2.1, bt132.2.2.2.2.2.1, bt132.2.2.2.2.2.2))) = some (r1, r2, r3, r4, r5, r6, r7) := by rw [if_pos rfl] at H; exact H
      clear H
      have H := H1
      clear H1
      replace H := Option.bind_eq_some_iff.mp H
      obtain ⟨⟨t132, t133, t134, t137, t140, t143, t144⟩, A420, H⟩ := H
      try dsimp only at H
      have A42 := AM A420
      clear A420
      simp only [Option.some.injEq, Prod.mk.injEq] at H
      obtain ⟨rfl, rfl, rfl, rfl, rfl, rfl, rfl⟩ := H
      go_wp2_with (first | ((with_reducible refine gate_callee (f := 28) rfl ?_); refine goesL_ (some 28) rfl rfl Try.func28 (by kernel_rfl) rfl #[.int .i64 9] rfl (by (try simp only [mA, mB, mC]); first | done | rfl | (simp only [mD, mE]; rfl)) ?_; (with_reducible refine (spec_l07Ill.calls 9 t132 t133 t134 t137 t140 t143 t144 _ A42.out).mono ?_); rintro e w43 ⟨v135, v138, v141, rfl, ho0, ho1, ho2, hb⟩; refine ⟨_, rfl, ?_⟩; have _ := AM (Kd.R_lower ho0 (bZ (bX HB.out))); have _ := AM (Kd.R_lower ho1 (bZ (bX HB.out))); have _ := AM (Kd.R_lower ho2 (bZ (bX HB.out))); have _ := AM (nB BK101.out hb); have _ := AM (nB BK102.out hb); have _ := AM (below_step (bX HB.out) hb); clear BK101 BK102 HB; rename_i HO136 HO139 HO142 BK101 BK102 HB; (try clear hb); (try clear hk); (try clear ho0); (try clear ho1); (try clear ho2); have hnb44 := NB102_101.out; have hnc44 := NB101_102.out; have hcz45 := q7 BK102.out; have hfz45 := fZ BK102.out; obtain ⟨Ao46, co46, eo46⟩ := Kd.R_slice HO136.out; subst eo46; obtain ⟨Ao47, co47, eo47⟩ := Kd.R_slice HO139.out; subst eo47; obtain ⟨Ao48, co48, eo48⟩ := Kd.R_slice HO142.out; subst eo48))
      refine bodyPost_ret (results_cell_row rfl _ _ gb102 30 #[.string t132, .int .i64 t133, .slice Ao46 t134.length co46, .slice Ao47 t137.length co47, .slice Ao48 t140.length co48, .int .i64 t143, .int .i64 t144] (0, 0) _ rfl (by refine kP (cs := #[.string t132, .int .i64 t133, .slice Ao46 t134.length co46, .slice Ao47 t137.length co47, .slice Ao48 t140.length co48, .int .i64 t143, .int .i64 0]) 6 ?_; refine kP (cs := #[.string t132, .int .i64 t133, .slice Ao46 t134.length co46, .slice Ao47 t137.length co47, .slice Ao48 t140.length co48, .int .i64 0, .int .i64 0]) 5 ?_; refine kP (cs := #[.string t132, .int .i64 t133, .slice Ao46 t134.length co46, .slice Ao47 t137.length co47, .slice none 0 0, .int .i64 0, .int .i64 0]) 4 ?_; refine kP (cs := #[.string t132, .int .i64 t133, .slice Ao46 t134.length co46, .slice none 0 0, .slice none 0 0, .int .i64 0, .int .i64 0]) 3 ?_; refine kP (cs := #[.string t132, .int .i64 t133, .slice none 0 0, .slice none 0 0, .slice none 0 0, .int .i64 0, .int .i64 0]) 2 ?_; refine kP (cs := #[.string t132, .int .i64 0, .slice none 0 0, .slice none 0 0, .slice none 0 0, .int .i64 0, .int .i64 0]) 1 ?_; refine kP (cs := #[.string (⟨#[]⟩ : ByteArray), .int .i64 0, .slice none 0 0, .slice none 0 0, .slice none 0 0, .int .i64 0, .int .i64 0]) 0 ?_; (with_reducible repeat (first | apply kN | apply kD | apply kA)); exact BK102.out) Try.underlying30 rfl (by kernel_rfl)) rfl ?_
      exact ⟨_, _, _, by first | rfl | (simp [*, errW_none, errW_some] <;> rfl), by (with_reducible repeat (first | apply rA | apply rN | apply rD)); exact Rf7 HO136.out BK102.out (by decide) (fun _ hk => hk.1), by (with_reducible repeat (first | apply rA | apply rN | apply rD)); exact Rf7 HO139.out BK102.out (by decide) (fun _ hk => trivial), by (with_reducible repeat (first | apply rA | apply rN | apply rD)); exact Rf7 HO142.out BK102.out (by decide) (fun _ hk => hk.1), bX HB.out⟩
     replace c41 := Bool.eq_false_iff.mpr c41
     subst c41
     have H1 : ((spec_l07Copy.f a0_0 a0_1 l0_2 l0_3).bind fun bt145 => (if bt145.2.2.1.length < 8796093022208 then ((spec_l07End.f a0_0 a0_1 l0_2 l0_3).bind fun t157 => (some (bt145.1, bt145.2.1, (bt145.2.2.1 ++ [a1]), bt145.2.2.2, ([] : List ByteArray), t157, 0))) else (none))) = some (r1, r2, r3, r4, r5, r6, r7) := by rw [if_neg (show ¬ (false = true) by decide)] at H; exact H
     clear H
     have H := H1
     clear H1
     replace H := Option.bind_eq_some_iff.mp H
     obtain ⟨⟨t145, t146, t147, t150⟩, A490, H⟩ := H
     try dsimp only at H
     have A49 := AM A490
     clear A490
     by_cases c50 : t147.length < 8796093022208
     ·
      rw [if_pos c50] at H
      have LMc50 := AM c50
      clear c50
      obtain ⟨y154, hy154⟩ : ∃ y_ : List ByteArray, y_ = (t147 ++ [a1]) := ⟨_, rfl⟩
      replace H : ((spec_l07End.f a0_0 a0_1 l0_2 l0_3).bind fun t157 => (some (t145, t146, y154, t150, ([] : List ByteArray), t157, 0))) = some (r1, r2, r3, r4, r5, r6, r7) := by first | (rw [hy154]; with_reducible exact H) | (have H2_ := (Option.bind_some _ _).symm.trans H; rw [hy154]; with_reducible exact H2_) | (have H2_ := (Option.bind_some _ _).symm.trans H; with_reducible exact H2_) | with_reducible exact H | (rw [hy154]; exact H) | exact H
      have Ny154 := AM hy154
      clear hy154
      replace H := Option.bind_eq_some_iff.mp H
      obtain ⟨t157, A510, H⟩ := H
      replace H : (some (t145, t146, y154, t150, ([] : List ByteArray), t157, 0)) = some (r1, r2, r3, r4, r5, r6, r7) := H
      have A51 := AM A510
      clear A510
      simp only [Option.some.injEq, Prod.mk.injEq] at H
      obtain ⟨rfl, rfl, rfl, rfl, rfl, rfl, rfl⟩ := H
      have hnb52 := NB101_102.out
      have hnc52 := NB102_101.out
      have hcz53 := q4 BK101.out
      have hfz53 := fZ BK101.out
      try go_wp2_with (first | ((with_reducible refine gate_callee (f := 30) rfl ?_); refine goesL_ (some 30) rfl rfl Try.func30 (by kernel_rfl) rfl #[.agg #[.string a0_0, .int .i64 a0_1, .slice A0_2 l0_2.length c0_2, .slice A0_3 l0_3.length c0_3]] rfl (by (try simp only [mA, mB, mC]); first | done | rfl | (simp only [mD, mE]; rfl)) ?_; (with_reducible refine (spec_l07Copy.calls a0_0 a0_1 _ _ l0_2 _ _ l0_3 t145 t146 t147 t150 _ ?side1 ?side2 ?side3 ?side4 A49.out).mono ?_); (case side1 => repeat (first | exact (cB HR0_2.out HB.out) | (with_reducible first | apply cA | apply cN | apply cD))); (case side2 => exact HC0_2.out); (case side3 => repeat (first | exact (cB HR0_3.out HB.out) | (with_reducible first | apply cA | apply cN | apply cD))); (case side4 => exact HC0_3.out); rintro e w54 ⟨v148, v151, rfl, ho0, ho1, hb⟩; refine ⟨_, rfl, ?_⟩; have _ := AM (Kd.R_lower ho0 (bZ (bX HB.out))); have _ := AM (Kd.R_lower ho1 (bZ (bX HB.out))); have _ := AM (nB BK101.out hb); have _ := AM (nB BK102.out hb); have _ := AM (below_step (bX HB.out) hb); clear BK101 BK102 HB; rename_i HO149 HO152 BK101 BK102 HB; (try clear hb); (try clear hk); (try clear ho0); (try clear ho1)) | ((with_reducible refine gate_dst (N := 5) rfl ?_); refine box_event (by rfl) (N := 5) (by rfl) (cs := #[.string (⟨#[]⟩ : ByteArray), .int .i64 0, .slice none 0 0, .slice none 0 0]) (t := 26) (by first | (go_simp; done) | (go_simp; rfl)) ?_; intro gb153 hg w55 hbox hb; have _ := AM (Kd.R_below (rX HO149.out) hb); have _ := AM (Kd.R_below (rX HO152.out) hb); have _ := AM (nB BK101.out hb); have _ := AM (nB BK102.out hb); have _ := AM (below_step (bX HB.out) hb); have _ := AM (hbox); have n6_ := AM ((by rw [hg]; exact (bZ (bX HB.out)) : w.heap.size ≤ gb153)); have _ := AM (lX hg BK101.out); have _ := AM (lX hg BK101.out).symm; have _ := AM (lX hg BK102.out); have _ := AM (lX hg BK102.out).symm; clear HO149 HO152 BK101 BK102 HB; rename_i HO149 HO152 BK101 BK102 HB BK153 NB101_153 NB153_101 NB102_153 NB153_102; have GW153 := n6_; have GE153 := n6_; clear n6_; clear hb hbox hg; have hnb56 := NB153_101.out; have hnc56 := NB101_153.out; have hnb57 := NB153_102.out; have hnc57 := NB102_153.out; have hcz58 := q4 BK153.out; have hfz58 := fZ BK153.out; obtain ⟨Ao59, co59, eo59⟩ := Kd.R_slice HO149.out; subst eo59; obtain ⟨Ao60, co60, eo60⟩ := Kd.R_slice HO152.out; subst eo60) | ((with_reducible refine gate_builtin (b := .append) (xs := #[.tmp 32, .tmp 34]) rfl ?_); at_builtin; refine Kd.R_append Kd.string (w0 := w) w.heap.size rfl (.tmp 32) (.tmp 34) 23 9 (.string ⟨#[]⟩) 16 rfl Try.underlying23 info9 rfl (by decide) (by omega) (.slice Ao59 t147.length co59) t147 a1 [.string a1] (fun _ => True) (fun _ => False) rfl (by first | (go_simp; done) | (go_simp; rfl)) ?aP (fun _ hk => hk.elim) ?aF ?aO ?aB ?aS ?aL ?_; (case aP => exact rfl); (case aB => exact (bX HB.out)); (case aF => exact (fun _ _ => trivial)); (case aO => exact (by (with_reducible repeat (first | apply rA | apply rN | apply rD)); exact Rf4 HO149.out BK153.out (by decide) (fun _ hk => trivial))); (case aS => exact (bZ (bX HB.out))); (case aL => have := LMc50.out; omega); intro v155 w61 ho hb hg hat; rw [← Ny154.out] at ho; have _ := AM (blk_grown (g := gb101) (o := .cells #[.string a0_0, .int .i64 a0_1, .slice A0_2 l0_2.length c0_2, .slice A0_3 l0_3.length c0_3] 26 (0, 0)) (by (iterate 4 refine kF NB101_153.out ?_); (with_reducible repeat (first | apply kN | apply kD | apply kA)); exact BK101.out) hg (Kd.R_ne HO149.out BK101.out (by decide))); have _ := AM (blk_grown (g := gb102) (o := .cells #[.string (⟨#[]⟩ : ByteArray), .int .i64 0, .slice none 0 0, .slice none 0 0, .slice none 0 0, .int .i64 0, .int .i64 0] 30 (0, 0)) (by (iterate 4 refine kF NB102_153.out ?_); (with_reducible repeat (first | apply kN | apply kD | apply kA)); exact BK102.out) hg (Kd.R_ne HO149.out BK102.out (by decide))); have _ := AM (Kd.R_over' (by (with_reducible repeat (first | apply rA | apply rN | apply rD)); exact (Rf4 HO152.out BK153.out (by decide) (fun _ h_ => h_.1))) (Kd.R_typed (by (with_reducible repeat (first | apply rA | apply rN | apply rD)); exact (Rf4 HO149.out BK153.out (by decide) (fun _ h_ => h_.1)))) (by decide) hg); have _ := AM (blk_grown (g := gb153) (o := .cells #[.string t145, .int .i64 t146, .slice Ao59 t147.length co59, .slice Ao60 t150.length co60] 26 (0, 0)) (by refine kP (cs := #[.string t145, .int .i64 t146, .slice Ao59 t147.length co59, .slice none 0 0]) 3 ?_; refine kP (cs := #[.string t145, .int .i64 t146, .slice none 0 0, .slice none 0 0]) 2 ?_; refine kP (cs := #[.string t145, .int .i64 0, .slice none 0 0, .slice none 0 0]) 1 ?_; refine kP (cs := #[.string (⟨#[]⟩ : ByteArray), .int .i64 0, .slice none 0 0, .slice none 0 0]) 0 ?_; (with_reducible repeat (first | apply kN | apply kD | apply kA)); exact BK153.out) hg (Kd.R_ne HO149.out BK153.out (by decide))); have _ := AM (hb); have _ := AM (ho); clear BK101 BK102 HO152 BK153 HB HO149; rename_i BK101 BK102 HO152 BK153 HB HO156; clear ho hb hg hat; obtain ⟨Ao62, co62, eo62⟩ := Kd.R_slice HO156.out; subst eo62; have hcz63 := q4 BK153.out; have hfz63 := fZ BK153.out))
      have n0_ : Aside0 (Kd.R k36 36 (w61.setCell ⟨gb153, 2, none⟩ (.slice Ao62 y154.length co62)) w.heap.size (fun _ => True) (.slice Ao60 t150.length co60) t150) := ⟨by (with_reducible repeat (first | apply rA | apply rN | apply rD)); exact Kd.R_mono (Kd.R_far (p := ⟨gb153, 2, none⟩) (Kd.R_types HO152.out BK153.out (by decide)) (fun _ hk => hk.2) (.slice Ao62 y154.length co62)) (fun _ hk => trivial)⟩
      have n1_ : Aside0 (Kd.R Kd.string 9 (w61.setCell ⟨gb153, 2, none⟩ (.slice Ao62 y154.length co62)) w.heap.size (fun _ => True) (.slice Ao62 y154.length co62) y154) := ⟨by (with_reducible repeat (first | apply rA | apply rN | apply rD)); exact Kd.R_mono (Kd.R_far (p := ⟨gb153, 2, none⟩) (Kd.R_types HO156.out BK153.out (by decide)) (fun _ hk => hk.2) (.slice Ao62 y154.length co62)) (fun _ hk => trivial)⟩
      have n2_ : Aside0 ((w61.setCell ⟨gb153, 2, none⟩ (.slice Ao62 y154.length co62)).heap[gb101]? = some (.cells #[.string a0_0, .int .i64 a0_1, .slice A0_2 l0_2.length c0_2, .slice A0_3 l0_3.length c0_3] 26 (0, 0))) := ⟨by refine kF NB101_153.out ?_; (with_reducible repeat (first | apply kN | apply kD | apply kA)); exact BK101.out⟩
      have n3_ : Aside0 ((w61.setCell ⟨gb153, 2, none⟩ (.slice Ao62 y154.length co62)).heap[gb102]? = some (.cells #[.string (⟨#[]⟩ : ByteArray), .int .i64 0, .slice none 0 0, .slice none 0 0, .slice none 0 0, .int .i64 0, .int .i64 0] 30 (0, 0))) := ⟨by refine kF NB102_153.out ?_; (with_reducible repeat (first | apply kN | apply kD | apply kA)); exact BK102.out⟩
      have n4_ : Aside0 ((w61.setCell ⟨gb153, 2, none⟩ (.slice Ao62 y154.length co62)).heap[gb153]? = some (.cells #[.string t145, .int .i64 t146, .slice Ao62 y154.length co62, .slice Ao60 t150.length co60] 26 (0, 0))) := ⟨by refine kP (cs := #[.string t145, .int .i64 t146, .slice Ao59 t147.length co59, .slice Ao60 t150.length co60]) 2 ?_; (with_reducible repeat (first | apply kN | apply kD | apply kA)); exact BK153.out⟩
      have n5_ : Aside0 (Below w.heap.size w (w61.setCell ⟨gb153, 2, none⟩ (.slice Ao62 y154.length co62))) := ⟨bX HB.out⟩
      (try clear HO152)
      (try clear HO156)
      (try clear BK101)
      (try clear BK102)
      (try clear BK153)
      (try clear HB)
      generalize (w61.setCell ⟨gb153, 2, none⟩ (.slice Ao62 y154.length co62)) = w64 at n0_ n1_ n2_ n3_ n4_ n5_ ⊢
      have HO152 := n0_
      have HO156 := n1_
      have BK101 := n2_
      have BK102 := n3_
      have BK153 := n4_
      have HB := n5_
      clear n0_ n1_ n2_ n3_ n4_ n5_
      have _ := AM (rD HO152.out)
      have _ := AM (rD HO156.out)
      have _ := AM (kD BK101.out)
      have _ := AM (kD BK102.out)
      have _ := AM (kD BK153.out)
      have _ := AM (bD HB.out)
      clear HO152 HO156 BK101 BK102 BK153 HB
      rename_i HO152 HO156 BK101 BK102 BK153 HB
      refine start_ (n := 5) (S := fun w' => w'.cell? ⟨gb153, 0, none⟩ = some (.string t145) ∧ w'.cell? ⟨gb153, 1, none⟩ = some (.int .i64 t146) ∧ w'.cell? ⟨gb153, 2, none⟩ = some (.slice Ao62 y154.length co62) ∧ w'.cell? ⟨gb153, 3, none⟩ = some (.slice Ao60 t150.length co60) ∧ w'.cell? ⟨gb101, 0, none⟩ = some (.string a0_0) ∧ w'.cell? ⟨gb101, 1, none⟩ = some (.int .i64 a0_1) ∧ w'.cell? ⟨gb101, 2, none⟩ = some (.slice A0_2 l0_2.length c0_2) ∧ w'.cell? ⟨gb101, 3, none⟩ = some (.slice A0_3 l0_3.length c0_3)) (ds := []) #[false, false, false, false, false] (by kernel_rfl) rfl rfl ⟨(kC BK153.out 0).trans rfl, (kC BK153.out 1).trans rfl, (kC BK153.out 2).trans rfl, (kC BK153.out 3).trans rfl, (kC BK101.out 0).trans rfl, (kC BK101.out 1).trans rfl, (kC BK101.out 2).trans rfl, (kC BK101.out 3).trans rfl⟩ (fun hHeld => ?_)
      generalize w64.drew = w65 at HO152 HO156 BK101 BK102 BK153 HB hHeld ⊢
      refine take_ (i := 0) (N := some 37) (v := ?_) (a' := ?_) #[true, false, false, false, false] rfl rfl (by kernel_rfl) (fun _ _ _ h => h) (Or.inl ⟨by rfl, ?_⟩) hHeld ?_ ?_
      rotate_left; (focus (rintro w' ⟨s0, s1, s2, s3, s4, s5, s6, s7⟩; go_simp; with_reducible rfl))
      rotate_left; (focus (simp only [Act.put, sA, sB, sC, i64_w, i32_w]; rfl))
      refine take_ (i := 1) (N := some 38) (v := ?_) (a' := ?_) #[true, true, false, false, false] rfl rfl (by kernel_rfl) (fun _ _ _ h => h) (Or.inl ⟨by rfl, ?_⟩) hHeld ?_ ?_
      rotate_left; (focus (rintro w' ⟨s0, s1, s2, s3, s4, s5, s6, s7⟩; go_simp; with_reducible rfl))
      rotate_left; (focus (simp only [Act.put, sA, sB, sC, i64_w, i32_w]; rfl))
      refine one_ (i := 2) (N := some 39) #[true, true, true, false, false] rfl rfl (by kernel_rfl) (by decide) (fun K hK => ?_)
      refine goes_ Try.func31 (by kernel_rfl) rfl #[.agg #[.string a0_0, .int .i64 a0_1, .slice A0_2 l0_2.length c0_2, .slice A0_3 l0_3.length c0_3]] (by rfl) rfl rfl (by (try simp only [mA, mB, mC]); first | done | rfl | (simp only [mD, mE]; rfl)) ?_
      with_reducible refine (spec_l07End.calls a0_0 a0_1 _ _ l0_2 _ _ l0_3 t157 _ ?side1 ?side2 ?side3 ?side4 A51.out).mono ?_
      (case side1 => repeat (first | exact (cB HR0_2.out HB.out) | (with_reducible first | apply cA | apply cN | apply cD)))
      (case side2 => exact HC0_2.out)
      (case side3 => repeat (first | exact (cB HR0_3.out HB.out) | (with_reducible first | apply cA | apply cN | apply cD)))
      (case side4 => exact HC0_3.out)
      rintro e w66 ⟨rfl, hb⟩
      refine ⟨_, rfl, ?_⟩
      have _ := AM (Kd.R_below (rX HO152.out) hb)
      have _ := AM (Kd.R_below (rX HO156.out) hb)
      have _ := AM (nB BK101.out hb)
      have _ := AM (nB BK102.out hb)
      have _ := AM (nB BK153.out hb)
      have _ := AM (below_step (bX HB.out) hb)
      clear HO152 HO156 BK101 BK102 BK153 HB
      rename_i HO152 HO156 BK101 BK102 BK153 HB
      (try clear hb)
      (try clear hk)
      refine hK.out _ _ ⟨(kC BK153.out 0).trans rfl, (kC BK153.out 1).trans rfl, (kC BK153.out 2).trans rfl, (kC BK153.out 3).trans rfl, (kC BK101.out 0).trans rfl, (kC BK101.out 1).trans rfl, (kC BK101.out 2).trans rfl, (kC BK101.out 3).trans rfl⟩ (fun hHeld => ?_)
      clear hK K
      refine norm_ (a' := ?_) ?_ ?_
      rotate_left
      ·
       show Act.put _ (some 39) _ = _
       simp only [Act.put, sA, sB, sC, i64_w, i32_w]
       rfl
      refine pure_ (i := 3) (N := some 40) (v := ?_) (a' := ?_) #[true, true, true, true, false] rfl rfl (by kernel_rfl) (fun _ _ _ h => h) (Or.inl ⟨by rfl, ?_⟩) ?_ ?_
      rotate_left
      ·
       intro w'
       go_simp
       with_reducible rfl
      rotate_left
      ·
       simp only [Act.put, sA, sB, sC, i64_w, i32_w]
       rfl
      refine one_ (i := 4) (N := none) #[true, true, true, true, true] rfl rfl (by kernel_rfl) (by decide) (fun K hK => ?_)
      have hs67 : w66.cell? ⟨gb102, 0, none⟩ = some (.string (⟨#[]⟩ : ByteArray)) := (kC BK102.out 0).trans rfl
      have hfs67 := fZ BK102.out 0
      have hns67_0 := NB101_102.out
      have hns67_2 := NB153_102.out
      have hms67_0 := NB102_101.out
      have hms67_2 := NB102_153.out
      have hs68 : w66.cell? ⟨gb102, 1, none⟩ = some (.int .i64 0) := (kC BK102.out 1).trans rfl
      have hfs68 := fZ BK102.out 1
      have hns68_0 := NB101_102.out
      have hns68_2 := NB153_102.out
      have hms68_0 := NB102_101.out
      have hms68_2 := NB102_153.out
      have hs69 : w66.cell? ⟨gb102, 2, none⟩ = some (.slice none 0 0) := (kC BK102.out 2).trans rfl
      have hfs69 := fZ BK102.out 2
      have hns69_0 := NB101_102.out
      have hns69_2 := NB153_102.out
      have hms69_0 := NB102_101.out
      have hms69_2 := NB102_153.out
      have hs70 : w66.cell? ⟨gb102, 3, none⟩ = some (.slice none 0 0) := (kC BK102.out 3).trans rfl
      have hfs70 := fZ BK102.out 3
      have hns70_0 := NB101_102.out
      have hns70_2 := NB153_102.out
      have hms70_0 := NB102_101.out
      have hms70_2 := NB102_153.out
      have hs71 : w66.cell? ⟨gb102, 4, none⟩ = some (.slice none 0 0) := (kC BK102.out 4).trans rfl
      have hfs71 := fZ BK102.out 4
      have hns71_0 := NB101_102.out
      have hns71_2 := NB153_102.out
      have hms71_0 := NB102_101.out
      have hms71_2 := NB102_153.out
      have hs72 : w66.cell? ⟨gb102, 5, none⟩ = some (.int .i64 0) := (kC BK102.out 5).trans rfl
      have hfs72 := fZ BK102.out 5
      have hns72_0 := NB101_102.out
      have hns72_2 := NB153_102.out
      have hms72_0 := NB102_101.out
      have hms72_2 := NB102_153.out
      have hs73 : w66.cell? ⟨gb102, 6, none⟩ = some (.int .i64 0) := (kC BK102.out 6).trans rfl
      have hfs73 := fZ BK102.out 6
      have hns73_0 := NB101_102.out
      have hns73_2 := NB153_102.out
      have hms73_0 := NB102_101.out
      have hms73_2 := NB102_153.out
      refine skip_ (w1 := ?_) (by rfl) rfl ?_ ?_
      rotate_left
      ·
       go_simp
       rfl
      refine hK.out _ _ ⟨(cT NB153_102.out ((cT NB153_102.out ((cT NB153_102.out ((cT NB153_102.out ((cT NB153_102.out ((cT NB153_102.out ((cT NB153_102.out (hHeld.1)))))))))))))), (cT NB153_102.out ((cT NB153_102.out ((cT NB153_102.out ((cT NB153_102.out ((cT NB153_102.out ((cT NB153_102.out ((cT NB153_102.out (hHeld.2.1)))))))))))))), (cT NB153_102.out ((cT NB153_102.out ((cT NB153_102.out ((cT NB153_102.out ((cT NB153_102.out ((cT NB153_102.out ((cT NB153_102.out (hHeld.2.2.1)))))))))))))), (cT NB153_102.out ((cT NB153_102.out ((cT NB153_102.out ((cT NB153_102.out ((cT NB153_102.out ((cT NB153_102.out ((cT NB153_102.out (hHeld.2.2.2.1)))))))))))))), (cT NB101_102.out ((cT NB101_102.out ((cT NB101_102.out ((cT NB101_102.out ((cT NB101_102.out ((cT NB101_102.out ((cT NB101_102.out (hHeld.2.2.2.2.1)))))))))))))), (cT NB101_102.out ((cT NB101_102.out ((cT NB101_102.out ((cT NB101_102.out ((cT NB101_102.out ((cT NB101_102.out ((cT NB101_102.out (hHeld.2.2.2.2.2.1)))))))))))))), (cT NB101_102.out ((cT NB101_102.out ((cT NB101_102.out ((cT NB101_102.out ((cT NB101_102.out ((cT NB101_102.out ((cT NB101_102.out (hHeld.2.2.2.2.2.2.1)))))))))))))), (cT NB101_102.out ((cT NB101_102.out ((cT NB101_102.out ((cT NB101_102.out ((cT NB101_102.out ((cT NB101_102.out ((cT NB101_102.out (hHeld.2.2.2.2.2.2.2))))))))))))))⟩ (fun hHeld => ?_)
      clear hK K
      refine done_ (by kernel_rfl) ?_
      try go_wp2
      refine bodyPost_ret (results_cell_row rfl _ _ gb102 30 #[.string t145, .int .i64 t146, .slice Ao62 y154.length co62, .slice Ao60 t150.length co60, .slice none 0 0, .int .i64 t157, .int .i64 0] (0, 0) _ rfl (by refine kP (cs := #[.string t145, .int .i64 t146, .slice Ao62 y154.length co62, .slice Ao60 t150.length co60, .slice none 0 0, .int .i64 t157, .int .i64 0]) 6 ?_; refine kP (cs := #[.string t145, .int .i64 t146, .slice Ao62 y154.length co62, .slice Ao60 t150.length co60, .slice none 0 0, .int .i64 0, .int .i64 0]) 5 ?_; refine kP (cs := #[.string t145, .int .i64 t146, .slice Ao62 y154.length co62, .slice Ao60 t150.length co60, .slice none 0 0, .int .i64 0, .int .i64 0]) 4 ?_; refine kP (cs := #[.string t145, .int .i64 t146, .slice Ao62 y154.length co62, .slice none 0 0, .slice none 0 0, .int .i64 0, .int .i64 0]) 3 ?_; refine kP (cs := #[.string t145, .int .i64 t146, .slice none 0 0, .slice none 0 0, .slice none 0 0, .int .i64 0, .int .i64 0]) 2 ?_; refine kP (cs := #[.string t145, .int .i64 0, .slice none 0 0, .slice none 0 0, .slice none 0 0, .int .i64 0, .int .i64 0]) 1 ?_; refine kP (cs := #[.string (⟨#[]⟩ : ByteArray), .int .i64 0, .slice none 0 0, .slice none 0 0, .slice none 0 0, .int .i64 0, .int .i64 0]) 0 ?_; (with_reducible repeat (first | apply kN | apply kD | apply kA)); exact BK102.out) Try.underlying30 rfl (by kernel_rfl)) rfl ?_
      exact ⟨_, _, _, by first | rfl | (simp [*, errW_none, errW_some] <;> rfl), by (with_reducible repeat (first | apply rA | apply rN | apply rD)); exact Rf7 HO156.out BK102.out (by decide) (fun _ hk => (by simp [Value.ownBlock])), by (with_reducible repeat (first | apply rA | apply rN | apply rD)); exact Rf7 HO152.out BK102.out (by decide) (fun _ hk => trivial), by first | exact Kd.R_nil _ _ _ _ _ | exact Kd.N_nil _ _ _ _ _ | exact Kd.V_nil _ _ _ _ _ | exact Kd.Q_nil _ _ _ _ _ | exact Kd.S_nil _ _ _ _ _, bX HB.out⟩
     rw [if_neg c50] at H
     exact absurd H (by simp)

/-! ### spec_l01Src_n: function 21 (by hand) -/

theorem world_inv {P : Program} {c : Code} {K : Exit → Act → World → Prop} {a : Act} {w : World} (Inv : World → Prop) (h : Inv w) (k : ∀ W, Inv W → Code.wp P c K a W) : Code.wp P c K a w := k w h
def spec_l01Src_n.f (s0 : List Int) (s1 s2 s3 a1 : Int) : Option (Int × Int × Int × Int) :=
  if a1 ≤ 1 then some (0, s1, s2, s3) else if a1 ≤ 9223372036854775807 then
    (if s1 < (s0.length : Int) then (if 0 ≤ s1 then some (wrap64 ((IntKind.u64.wrap (IntKind.u64.wrap (rd s0 s1) + (Go.bits .xor .u64 (Go.bits .xor .u64 (Go.bits .xor .u64 s2 (IntKind.u64.wrap (s2 * 8192))) ((Go.bits .xor .u64 s2 (IntKind.u64.wrap (s2 * 8192))) / 128)) (IntKind.u64.wrap ((Go.bits .xor .u64 (Go.bits .xor .u64 s2 (IntKind.u64.wrap (s2 * 8192))) ((Go.bits .xor .u64 s2 (IntKind.u64.wrap (s2 * 8192))) / 128)) * 131072))) / 1048576)).tmod (IntKind.u64.wrap a1)), wrap64 (s1 + 1), Go.bits .xor .u64 (Go.bits .xor .u64 (Go.bits .xor .u64 s2 (IntKind.u64.wrap (s2 * 8192))) ((Go.bits .xor .u64 s2 (IntKind.u64.wrap (s2 * 8192))) / 128)) (IntKind.u64.wrap ((Go.bits .xor .u64 (Go.bits .xor .u64 s2 (IntKind.u64.wrap (s2 * 8192))) ((Go.bits .xor .u64 s2 (IntKind.u64.wrap (s2 * 8192))) / 128)) * 131072)), s3) else none)
     else some (wrap64 ((IntKind.u64.wrap ((Go.bits .xor .u64 (Go.bits .xor .u64 (Go.bits .xor .u64 s2 (IntKind.u64.wrap (s2 * 8192))) ((Go.bits .xor .u64 s2 (IntKind.u64.wrap (s2 * 8192))) / 128)) (IntKind.u64.wrap ((Go.bits .xor .u64 (Go.bits .xor .u64 s2 (IntKind.u64.wrap (s2 * 8192))) ((Go.bits .xor .u64 s2 (IntKind.u64.wrap (s2 * 8192))) / 128)) * 131072))) / 1048576)).tmod (IntKind.u64.wrap a1)), s1, Go.bits .xor .u64 (Go.bits .xor .u64 (Go.bits .xor .u64 s2 (IntKind.u64.wrap (s2 * 8192))) ((Go.bits .xor .u64 s2 (IntKind.u64.wrap (s2 * 8192))) / 128)) (IntKind.u64.wrap ((Go.bits .xor .u64 (Go.bits .xor .u64 s2 (IntKind.u64.wrap (s2 * 8192))) ((Go.bits .xor .u64 s2 (IntKind.u64.wrap (s2 * 8192))) / 128)) * 131072)), s3)) else none
set_option maxHeartbeats 4000000 in
set_option maxRecDepth 100000 in
theorem spec_l01Src_n.calls (g : Nat) (s0_0 : List Int) (s0_1 : Int) (s0_2 : Int) (s0_3 : Int) (a1 : Int) (r1 : Int) (r2 : Int) (r3 : Int) (r4 : Int) (w0 w : World) (hI : IsS63 w0 w g s0_0 s0_1 s0_2 s0_3) (hB : Below w0.heap.size w0 w) (h : spec_l01Src_n.f s0_0 s0_1 s0_2 s0_3 a1 = some (r1, r2, r3, r4)) :
    Calls Try.prog 21 #[.pointer (some ⟨g, 0, none⟩), .int .i64 a1] w fun e w' => e = .returned (.int .i64 r1) ∧ IsS63 w0 w' g s0_0 r2 r3 r4 ∧ Below w0.heap.size w0 w' ∧ KeepBut w w' g none := by
  have HI := Aside0.mk hI
  have HK := Aside0.mk (KeepBut.refl w g none)
  obtain ⟨A0, c0, HG, hg, HS⟩ := hI
  have HB := Aside0.mk hB
  have HR := Aside0.mk HS
  have HL := Aside0.mk hg
  have hc0 := cellS63_0 HG
  have hc1 := cellS63_1 HG
  have hc2 := cellS63_2 HG
  have hc3 := cellS63_3 HG
  have hf1 := blk_frozen HG 1
  have hf2 := blk_frozen HG 2
  have HH := Aside0.mk h
  clear hB HS hg HG h
  by_cases c1 : a1 ≤ 1
  · have c1b : decide (a1 ≤ 1) = true := decide_eq_true c1
    have HH2 : Aside0 ((0, s0_1, s0_2, s0_3) = (r1, r2, r3, r4)) := ⟨by have := HH.out; unfold spec_l01Src_n.f at this; rw [if_pos c1] at this; exact Option.some.inj this⟩
    clear c1
    go_enter Try.func21, Try.ntmps21
    go_wp2
    go_ret
    obtain ⟨rfl, rfl, rfl, rfl⟩ : 0 = r1 ∧ s0_1 = r2 ∧ s0_2 = r3 ∧ s0_3 = r4 := by simpa using HH2.out
    exact ⟨rfl, HI.out, HB.out, HK.out⟩
  · have c1b : decide (a1 ≤ 1) = false := decide_eq_false c1
    by_cases c5 : a1 ≤ 9223372036854775807
    · have C1 : Aside0 (2 ≤ a1 ∧ a1 ≤ 9223372036854775807) := ⟨by omega⟩
      have hz : IntKind.u64.wrap a1 ≠ 0 := by rw [show IntKind.u64.wrap a1 = a1 % 18446744073709551616 by simp [IntKind.wrap, IntKind.signed, IntKind.bits]]; omega
      have cz : (IntKind.u64.wrap a1 == 0) = false := beq_eq_false_iff_ne.2 hz
      clear c1 c5
      by_cases c2 : s0_1 < (s0_0.length : Int)
      · have c2b : decide (s0_1 < (s0_0.length : Int)) = true := decide_eq_true c2
        by_cases c3 : 0 ≤ s0_1
        · obtain ⟨ad, e, hx⟩ := Kd.at_int HR.out s0_1 c3 c2
          cases e
          replace hx := pw_cell_below HB.out hx
          have C2 := Aside0.mk c2
          have C3 := Aside0.mk c3
          replace c2 := eq_true c2
          replace c3 := eq_true c3
          go_enter Try.func21, Try.ntmps21
          go_wp2
          go_region
          go_wp2
          go_region
          go_wp2
          go_region
          go_wp2
          clear hx c2 c3
          refine world_inv (fun W => IsS63 w0 W g s0_0 (wrap64 (s0_1 + 1)) (Go.bits .xor .u64 s0_2 (IntKind.u64.wrap (s0_2 * 8192))) s0_3 ∧ Below w0.heap.size w0 W ∧ KeepBut w W g none) ⟨by repeat (first | (with_reducible first | exact HI.out | apply IsS63.drewN | apply IsS63.drew | apply IsS63.set_1 | apply IsS63.set_2) | exact HI.out), by repeat (first | (with_reducible first | exact HB.out | apply pw_below_drewN | apply below_drew1 | refine below_set ?_ HL.out) | exact HB.out), by repeat (first | (with_reducible first | exact HK.out | apply KeepBut.set_ | apply keep_drewN | apply keep_drew) | exact HK.out)⟩ ?_
          clear HI HB HK hc0 hc1 hc2 hc3 hf1 hf2
          rintro W ⟨hI, hB, hK⟩
          have HI := Aside0.mk hI
          have HB := Aside0.mk hB
          have HK := Aside0.mk hK
          obtain ⟨A0, c0, HG, hg, HS⟩ := hI
          have hc0 := cellS63_0 HG
          have hc1 := cellS63_1 HG
          have hc2 := cellS63_2 HG
          have hc3 := cellS63_3 HG
          have hf1 := blk_frozen HG 1
          have hf2 := blk_frozen HG 2
          clear hB hK HG hg HS
          go_region
          go_wp2
          refine world_inv (fun W => IsS63 w0 W g s0_0 (wrap64 (s0_1 + 1)) (Go.bits .xor .u64 (Go.bits .xor .u64 s0_2 (IntKind.u64.wrap (s0_2 * 8192))) ((Go.bits .xor .u64 s0_2 (IntKind.u64.wrap (s0_2 * 8192))) / 128)) s0_3 ∧ Below w0.heap.size w0 W ∧ KeepBut w W g none) ⟨by repeat (first | (with_reducible first | exact HI.out | apply IsS63.drewN | apply IsS63.drew | apply IsS63.set_1 | apply IsS63.set_2) | exact HI.out), by repeat (first | (with_reducible first | exact HB.out | apply pw_below_drewN | apply below_drew1 | refine below_set ?_ HL.out) | exact HB.out), by repeat (first | (with_reducible first | exact HK.out | apply KeepBut.set_ | apply keep_drewN | apply keep_drew) | exact HK.out)⟩ ?_
          clear HI HB HK hc0 hc1 hc2 hc3 hf1 hf2
          rintro W ⟨hI, hB, hK⟩
          have HI := Aside0.mk hI
          have HB := Aside0.mk hB
          have HK := Aside0.mk hK
          obtain ⟨A0, c0, HG, hg, HS⟩ := hI
          have hc0 := cellS63_0 HG
          have hc1 := cellS63_1 HG
          have hc2 := cellS63_2 HG
          have hc3 := cellS63_3 HG
          have hf1 := blk_frozen HG 1
          have hf2 := blk_frozen HG 2
          clear hB hK HG hg HS
          go_region
          go_wp2
          go_ret
          have HH2 : (wrap64 ((IntKind.u64.wrap (IntKind.u64.wrap (rd s0_0 s0_1) + (Go.bits .xor .u64 (Go.bits .xor .u64 (Go.bits .xor .u64 s0_2 (IntKind.u64.wrap (s0_2 * 8192))) ((Go.bits .xor .u64 s0_2 (IntKind.u64.wrap (s0_2 * 8192))) / 128)) (IntKind.u64.wrap ((Go.bits .xor .u64 (Go.bits .xor .u64 s0_2 (IntKind.u64.wrap (s0_2 * 8192))) ((Go.bits .xor .u64 s0_2 (IntKind.u64.wrap (s0_2 * 8192))) / 128)) * 131072))) / 1048576)).tmod (IntKind.u64.wrap a1)), wrap64 (s0_1 + 1), Go.bits .xor .u64 (Go.bits .xor .u64 (Go.bits .xor .u64 s0_2 (IntKind.u64.wrap (s0_2 * 8192))) ((Go.bits .xor .u64 s0_2 (IntKind.u64.wrap (s0_2 * 8192))) / 128)) (IntKind.u64.wrap ((Go.bits .xor .u64 (Go.bits .xor .u64 s0_2 (IntKind.u64.wrap (s0_2 * 8192))) ((Go.bits .xor .u64 s0_2 (IntKind.u64.wrap (s0_2 * 8192))) / 128)) * 131072)), s0_3) = (r1, r2, r3, r4) := by have := HH.out; unfold spec_l01Src_n.f at this; rw [if_neg (by have := C1.out; omega), if_pos C1.out.2, if_pos C2.out, if_pos C3.out] at this; exact Option.some.inj this
          simp only [Prod.mk.injEq] at HH2
          obtain ⟨rfl, rfl, rfl, rfl⟩ := HH2
          exact ⟨rfl, by repeat (first | (with_reducible first | exact HI.out | apply IsS63.drewN | apply IsS63.drew | apply IsS63.set_1 | apply IsS63.set_2) | exact HI.out), by repeat (first | (with_reducible first | exact HB.out | apply pw_below_drewN | apply below_drew1 | refine below_set ?_ HL.out) | exact HB.out), by repeat (first | (with_reducible first | exact HK.out | apply KeepBut.set_ | apply keep_drewN | apply keep_drew) | exact HK.out)⟩
        · exact absurd HH.out (by have h1 := C1.out; unfold spec_l01Src_n.f; rw [if_neg (by omega), if_pos h1.2, if_pos c2, if_neg c3]; simp)
      · have c2b : decide (s0_1 < (s0_0.length : Int)) = false := decide_eq_false c2
        have C2 := Aside0.mk c2
        clear c2
        go_enter Try.func21, Try.ntmps21
        go_wp2
        go_region
        go_wp2
        go_region
        go_wp2
        refine world_inv (fun W => IsS63 w0 W g s0_0 (s0_1) (Go.bits .xor .u64 s0_2 (IntKind.u64.wrap (s0_2 * 8192))) s0_3 ∧ Below w0.heap.size w0 W ∧ KeepBut w W g none) ⟨by repeat (first | (with_reducible first | exact HI.out | apply IsS63.drewN | apply IsS63.drew | apply IsS63.set_1 | apply IsS63.set_2) | exact HI.out), by repeat (first | (with_reducible first | exact HB.out | apply pw_below_drewN | apply below_drew1 | refine below_set ?_ HL.out) | exact HB.out), by repeat (first | (with_reducible first | exact HK.out | apply KeepBut.set_ | apply keep_drewN | apply keep_drew) | exact HK.out)⟩ ?_
        clear HI HB HK hc0 hc1 hc2 hc3 hf1 hf2
        rintro W ⟨hI, hB, hK⟩
        have HI := Aside0.mk hI
        have HB := Aside0.mk hB
        have HK := Aside0.mk hK
        obtain ⟨A0, c0, HG, hg, HS⟩ := hI
        have hc0 := cellS63_0 HG
        have hc1 := cellS63_1 HG
        have hc2 := cellS63_2 HG
        have hc3 := cellS63_3 HG
        have hf1 := blk_frozen HG 1
        have hf2 := blk_frozen HG 2
        clear hB hK HG hg HS
        go_region
        go_wp2
        refine world_inv (fun W => IsS63 w0 W g s0_0 (s0_1) (Go.bits .xor .u64 (Go.bits .xor .u64 s0_2 (IntKind.u64.wrap (s0_2 * 8192))) ((Go.bits .xor .u64 s0_2 (IntKind.u64.wrap (s0_2 * 8192))) / 128)) s0_3 ∧ Below w0.heap.size w0 W ∧ KeepBut w W g none) ⟨by repeat (first | (with_reducible first | exact HI.out | apply IsS63.drewN | apply IsS63.drew | apply IsS63.set_1 | apply IsS63.set_2) | exact HI.out), by repeat (first | (with_reducible first | exact HB.out | apply pw_below_drewN | apply below_drew1 | refine below_set ?_ HL.out) | exact HB.out), by repeat (first | (with_reducible first | exact HK.out | apply KeepBut.set_ | apply keep_drewN | apply keep_drew) | exact HK.out)⟩ ?_
        clear HI HB HK hc0 hc1 hc2 hc3 hf1 hf2
        rintro W ⟨hI, hB, hK⟩
        have HI := Aside0.mk hI
        have HB := Aside0.mk hB
        have HK := Aside0.mk hK
        obtain ⟨A0, c0, HG, hg, HS⟩ := hI
        have hc0 := cellS63_0 HG
        have hc1 := cellS63_1 HG
        have hc2 := cellS63_2 HG
        have hc3 := cellS63_3 HG
        have hf1 := blk_frozen HG 1
        have hf2 := blk_frozen HG 2
        clear hB hK HG hg HS
        go_region
        go_wp2
        go_ret
        have HH2 : (wrap64 ((IntKind.u64.wrap ((Go.bits .xor .u64 (Go.bits .xor .u64 (Go.bits .xor .u64 s0_2 (IntKind.u64.wrap (s0_2 * 8192))) ((Go.bits .xor .u64 s0_2 (IntKind.u64.wrap (s0_2 * 8192))) / 128)) (IntKind.u64.wrap ((Go.bits .xor .u64 (Go.bits .xor .u64 s0_2 (IntKind.u64.wrap (s0_2 * 8192))) ((Go.bits .xor .u64 s0_2 (IntKind.u64.wrap (s0_2 * 8192))) / 128)) * 131072))) / 1048576)).tmod (IntKind.u64.wrap a1)), s0_1, Go.bits .xor .u64 (Go.bits .xor .u64 (Go.bits .xor .u64 s0_2 (IntKind.u64.wrap (s0_2 * 8192))) ((Go.bits .xor .u64 s0_2 (IntKind.u64.wrap (s0_2 * 8192))) / 128)) (IntKind.u64.wrap ((Go.bits .xor .u64 (Go.bits .xor .u64 s0_2 (IntKind.u64.wrap (s0_2 * 8192))) ((Go.bits .xor .u64 s0_2 (IntKind.u64.wrap (s0_2 * 8192))) / 128)) * 131072)), s0_3) = (r1, r2, r3, r4) := by have := HH.out; unfold spec_l01Src_n.f at this; rw [if_neg (by have := C1.out; omega), if_pos C1.out.2, if_neg (by have := C2.out; omega)] at this; exact Option.some.inj this
        simp only [Prod.mk.injEq] at HH2
        obtain ⟨rfl, rfl, rfl, rfl⟩ := HH2
        exact ⟨rfl, by repeat (first | (with_reducible first | exact HI.out | apply IsS63.drewN | apply IsS63.drew | apply IsS63.set_1 | apply IsS63.set_2) | exact HI.out), by repeat (first | (with_reducible first | exact HB.out | apply pw_below_drewN | apply below_drew1 | refine below_set ?_ HL.out) | exact HB.out), by repeat (first | (with_reducible first | exact HK.out | apply KeepBut.set_ | apply keep_drewN | apply keep_drew) | exact HK.out)⟩
    · exact absurd HH.out (by unfold spec_l01Src_n.f; rw [if_neg c1, if_neg c5]; simp)


/-! ### spec_l01Src_one: function 32 -/

def spec_l01Src_one.f (s0_0 : List Int) (s0_1 : Int) (s0_2 : Int) (s0_3 : Int) (a1 : Int) : Option (Bool × Int × Int × Int) := (spec_l01Src_n.f s0_0 s0_1 s0_2 s0_3 a1).bind fun bt101 => (some ((bt101.1 == 0), bt101.2.1, bt101.2.2.1, bt101.2.2.2))
theorem bI63_0_spec_l01Src_one {n : Nat} {w W W' : World} (h : Below n w W) (f : Below n w W → Below n w W' := by intro h_; repeat (first | (with_reducible first | exact h_ | apply bA | apply bN | apply bD | refine bS ?_ (IsS63.ge HI0.out) | refine bS ?_ (Aside0.out (by assumption))) | exact h_)) : Below n w W' := f h
theorem iX63_6_spec_l01Src_one {p q : Prop} (h : p) (f : p → q := by intro h_; repeat (first | (with_reducible first | exact h_ | apply IsS63.alloc | apply IsS63.drewN | apply IsS63.drew | apply IsS63.set_1 | apply IsS63.set_2 | apply IsS63.set_3 | refine IsS63.far ?_ (Aside0.out (by assumption)) _) | exact h_)) : q := f h
set_option maxHeartbeats 60000000 in
set_option maxRecDepth 100000 in
theorem spec_l01Src_one.calls (g : Nat) (s0_0 : List Int) (s0_1 : Int) (s0_2 : Int) (s0_3 : Int) (a1 : Int) (r1 : Bool) (r2 : Int) (r3 : Int) (r4 : Int) (w0 w : World) (hI : IsS63 w0 w g s0_0 s0_1 s0_2 s0_3) (hB : Below w0.heap.size w0 w) (h : spec_l01Src_one.f s0_0 s0_1 s0_2 s0_3 a1 = some (r1, r2, r3, r4)) :
    Calls Try.prog 32 #[.pointer (some ⟨g, 0, none⟩), .int .i64 a1] w fun e w' => e = .returned (.bool r1) ∧ IsS63 w0 w' g s0_0 r2 r3 r4 ∧ Below w0.heap.size w0 w' ∧ KeepBut w w' g none := by
 have HI0 := AM hI
 have HK := AM (KeepBut.refl w g none)
 have HL := AM hB.size
 clear hI
 have HW0 := AM hB.size
 have HB := AM hB
 clear hB
 have H : ((spec_l01Src_n.f s0_0 s0_1 s0_2 s0_3 a1).bind fun bt101 => (some ((bt101.1 == 0), bt101.2.1, bt101.2.2.1, bt101.2.2.2))) = some (r1, r2, r3, r4) := h
 clear h
 replace H := Option.bind_eq_some_iff.mp H
 obtain ⟨⟨t101, t102, t103, t104⟩, A30, H⟩ := H
 try dsimp only at H
 have A3 := AM A30
 clear A30
 simp only [Option.some.injEq, Prod.mk.injEq] at H
 obtain ⟨rfl, rfl, rfl, rfl⟩ := H
 go_enter Try.func32, Try.ntmps32
 go_wp2_with (first | ((with_reducible refine gate_callee (f := 21) rfl ?_); refine goesL_ (some 7) rfl rfl Try.func21 (by kernel_rfl) rfl #[.pointer (some ⟨g, 0, none⟩), .int .i64 a1] rfl (by (try simp only [mA, mB, mC]); first | done | rfl | (simp only [mD, mE]; rfl)) ?_; (with_reducible refine (spec_l01Src_n.calls g s0_0 s0_1 s0_2 s0_3 a1 t101 t102 t103 t104 w0 _ ?side1 ?side2 A3.out).mono ?_); (case side1 => exact (iX63_6_spec_l01Src_one HI0.out)); (case side2 => exact (bI63_0_spec_l01Src_one HB.out)); rintro e w4 ⟨rfl, hi, hb, hk⟩; refine ⟨_, rfl, ?_⟩; have _ := AM (KeepBut.trans (hX HK.out) hk (.inl rfl)); have _ := AM (hb); have _ := AM (hi); clear HK HB HI0; rename_i HK HB HI0; (try clear hb); (try clear hb2); (try clear hk); (try clear hi)))
 go_ret
 exact ⟨by first | rfl | (simp [*, errW_none, errW_some] <;> rfl), iX63_6_spec_l01Src_one HI0.out, bI63_0_spec_l01Src_one HB.out, hX HK.out⟩

/-! ### spec_l01Src_pick: function 39 -/

def spec_l01Src_pick.f (s0_0 : List Int) (s0_1 : Int) (s0_2 : Int) (s0_3 : Int) (l1 : List ByteArray) : Option (ByteArray × Int × Int × Int) := (spec_l01Src_n.f s0_0 s0_1 s0_2 s0_3 (l1.length : Int)).bind fun bt101 => (if 0 ≤ bt101.1 then (if bt101.1 < (l1.length : Int) then (some (rdOf ByteArray.empty l1 bt101.1, bt101.2.1, bt101.2.2.1, bt101.2.2.2)) else (none)) else (none))
theorem bI63_0_spec_l01Src_pick {n : Nat} {w W W' : World} (h : Below n w W) (f : Below n w W → Below n w W' := by intro h_; repeat (first | (with_reducible first | exact h_ | apply bA | apply bN | apply bD | refine bS ?_ (IsS63.ge HI0.out) | refine bS ?_ (Aside0.out (by assumption))) | exact h_)) : Below n w W' := f h
theorem iX63_6_spec_l01Src_pick {p q : Prop} (h : p) (f : p → q := by intro h_; repeat (first | (with_reducible first | exact h_ | apply IsS63.alloc | apply IsS63.drewN | apply IsS63.drew | apply IsS63.set_1 | apply IsS63.set_2 | apply IsS63.set_3 | refine IsS63.far ?_ (Aside0.out (by assumption)) _) | exact h_)) : q := f h
set_option maxHeartbeats 60000000 in
set_option maxRecDepth 100000 in
theorem spec_l01Src_pick.calls (g : Nat) (s0_0 : List Int) (s0_1 : Int) (s0_2 : Int) (s0_3 : Int) (A1 : Option Addr) (c1 : Nat) (l1 : List ByteArray) (r1 : ByteArray) (r2 : Int) (r3 : Int) (r4 : Int) (w0 w : World) (hI : IsS63 w0 w g s0_0 s0_1 s0_2 s0_3) (hB : Below w0.heap.size w0 w) (hr1 : Kd.C Kd.string w A1 l1.length l1) (hc1 : l1.length ≤ c1) (hf1 : ∀ ad, A1 = some ad → 0 < l1.length → ad.block ≠ g) (h : spec_l01Src_pick.f s0_0 s0_1 s0_2 s0_3 l1 = some (r1, r2, r3, r4)) :
    Calls Try.prog 39 #[.pointer (some ⟨g, 0, none⟩), .slice A1 l1.length c1] w fun e w' => e = .returned (.string r1) ∧ IsS63 w0 w' g s0_0 r2 r3 r4 ∧ Below w0.heap.size w0 w' ∧ KeepBut w w' g none := by
 have HR1 := AM hr1
 have HC1 := AM hc1
 clear hr1 hc1
 have HI0 := AM hI
 have HK := AM (KeepBut.refl w g none)
 have HL := AM hB.size
 clear hI
 have HW0 := AM hB.size
 have HB := AM hB
 clear hB
 have H : ((spec_l01Src_n.f s0_0 s0_1 s0_2 s0_3 (l1.length : Int)).bind fun bt101 => (if 0 ≤ bt101.1 then (if bt101.1 < (l1.length : Int) then (some (rdOf ByteArray.empty l1 bt101.1, bt101.2.1, bt101.2.2.1, bt101.2.2.2)) else (none)) else (none))) = some (r1, r2, r3, r4) := h
 clear h
 replace H := Option.bind_eq_some_iff.mp H
 obtain ⟨⟨t101, t102, t103, t104⟩, A30, H⟩ := H
 try dsimp only at H
 have A3 := AM A30
 clear A30
 by_cases c4 : 0 ≤ t101
 ·
  rw [if_pos c4] at H
  have c4b0 : decide (0 ≤ t101) = true := decide_eq_true c4
  clear c4
  by_cases c5 : t101 < (l1.length : Int)
  ·
   rw [if_pos c5] at H
   have c5b0 : decide (t101 < (l1.length : Int)) = true := decide_eq_true c5
   clear c5
   simp only [Option.some.injEq, Prod.mk.injEq] at H
   obtain ⟨rfl, rfl, rfl, rfl⟩ := H
   go_enter Try.func39, Try.ntmps39
   go_wp2_with (first | ((with_reducible refine gate_callee (f := 21) rfl ?_); refine goesL_ (some 9) rfl rfl Try.func21 (by kernel_rfl) rfl #[.pointer (some ⟨g, 0, none⟩), .int .i64 (l1.length : Int)] rfl (by (try simp only [mA, mB, mC]); first | done | rfl | (simp only [mD, mE]; rfl)) ?_; (with_reducible refine (spec_l01Src_n.calls g s0_0 s0_1 s0_2 s0_3 (l1.length : Int) t101 t102 t103 t104 w0 _ ?side1 ?side2 A3.out).mono ?_); (case side1 => exact (iX63_6_spec_l01Src_pick HI0.out)); (case side2 => exact (bI63_0_spec_l01Src_pick HB.out)); rintro e w6 ⟨rfl, hi, hb, hk⟩; refine ⟨_, rfl, ?_⟩; have _ := AM (KeepBut.trans (hX HK.out) hk (.inl rfl)); have _ := AM (hb); have _ := AM (hi); clear HK HB HI0; rename_i HK HB HI0; (try clear hb); (try clear hb2); (try clear hk); (try clear hi); have p105 : 0 ≤ (t101 : Int) := of_decide_eq_true (by assumption); have q105 : t101 < (l1.length : Int) := of_decide_eq_true (by assumption); obtain ⟨ad105, e105, hx105_0⟩ := Kd.at_string HR1.out t101 p105 q105; cases e105; replace hx105_0 := keep_cell HK.out hx105_0 (by first | (rw [add_block]; exact hf1 _ rfl (by omega)) | exact hf1 _ rfl (by omega) | exact hf1 ad105 rfl (by omega)); replace p105 := eq_true p105; replace q105 := eq_true q105))
   go_ret
   exact ⟨by first | rfl | (simp [*, errW_none, errW_some] <;> rfl), iX63_6_spec_l01Src_pick HI0.out, bI63_0_spec_l01Src_pick HB.out, hX HK.out⟩
  rw [if_neg c5] at H
  exact absurd H (by simp)
 rw [if_neg c4] at H
 exact absurd H (by simp)

end Go.Proofs.Ytcnilcipcnjmjaa.Q
