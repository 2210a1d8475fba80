/- Printed by a program of this session (wip/mp.py over the kit's print.py): functions of the translation as plain Lean functions, and that the machine's calls do what these say. -/
import Derived.Test.YtcnilcipcnjmjaaQx0
import Derived.Test.YtcnilcipcnjmjaaQx2
import Derived.Test.YtcnilcipcnjmjaaQx5
import Derived.Test.YtcnilcipcnjmjaaQx15
namespace Go.Proofs.Ytcnilcipcnjmjaa.Q
open Go.RowKit Go.Proofs.Ytcnilcipcnjmjaa.HB Go.Proofs.YtcnilcipcnjmjaaW.PrintWords Go.Proofs.YtcnilcipcnjmjaaW.PrintLast Go.Proofs.YtcnilcipcnjmjaaW.PrintMore
attribute [local go_sem] max2_int min2_int max_two min_two max_three min_three max_four min_four   -- for this text's walks alone
set_option linter.unusedVariables false
set_option linter.unusedSimpArgs false

/-! ### spec_DrawTopicRetain: function 5 -/

def spec_DrawTopicRetain.f (k : Nat) (l0 : List Int) : Option (ByteArray × Int × List ByteArray × (List (S36)) × Int) := (spec_l01Source.f k l0).bind fun bt102 => ((spec_l01Src_l07Topic.f k bt102.1 bt102.2.1 bt102.2.2.1 bt102.2.2.2).bind fun bt107 => ((spec_l01Src_n.f bt102.1 bt107.2.2.2.2.1 bt107.2.2.2.2.2.1 bt107.2.2.2.2.2.2 24).bind fun bt119 => (some (bt107.1, bt107.2.1, bt107.2.2.1, bt107.2.2.2.1, wrap64 (bt119.1 - 1)))))
theorem spec_DrawTopicRetain.mono : ∀ a0 k, LeO (spec_DrawTopicRetain.f k a0) (spec_DrawTopicRetain.f (k + 1) a0) := by
  intro a0 k
  unfold spec_DrawTopicRetain.f
  repeat' first
      | (with_reducible exact spec_l01Source.mono _ _)
      | (with_reducible exact spec_l01Src_l07Topic.mono _ _ _ _ _)
      | (with_reducible exact LeO.refl _)
      | (with_reducible exact LeO.none _)
      | (with_reducible refine LeO.ite ?_ ?_)
      | (with_reducible refine LeO.bind ?_ (fun _ => ?_))
      | exact spec_l01Source.mono _ _
      | exact spec_l01Src_l07Topic.mono _ _ _ _ _
      | exact LeO.none _
      | refine LeO.ite ?_ ?_
      | refine LeO.bind ?_ (fun _ => ?_)
theorem bI63_106_spec_DrawTopicRetain {n : Nat} {w W W' : World} (h : Below n w W) (f : Below n w W → Below n w W' := by intro h_; repeat (first | (with_reducible first | exact h_ | apply bA | apply bN | apply bD | refine bS ?_ (IsS63.ge HI106.out) | refine bS ?_ (Aside0.out (by assumption))) | exact h_)) : Below n w W' := f h
theorem iX63_6_spec_DrawTopicRetain {p q : Prop} (h : p) (f : p → q := by intro h_; repeat (first | (with_reducible first | exact h_ | apply IsS63.alloc | apply IsS63.drewN | apply IsS63.drew | apply IsS63.set_1 | apply IsS63.set_2 | apply IsS63.set_3 | refine IsS63.far ?_ (Aside0.out (by assumption)) _) | exact h_)) : q := f h
set_option maxHeartbeats 60000000 in
set_option maxRecDepth 100000 in
theorem spec_DrawTopicRetain.calls (k : Nat) (A0 : Option Addr) (c0 : Nat) (l0 : List Int) (r1 : ByteArray) (r2 : Int) (r3 : List ByteArray) (r4 : List (S36)) (r5 : Int) (w : World) (hr0 : Kd.C (Kd.int .u8) w A0 l0.length l0) (hc0 : l0.length ≤ c0) (h : spec_DrawTopicRetain.f k l0 = some (r1, r2, r3, r4, r5)) :
    Calls Try.prog 5 #[.slice A0 l0.length c0] w fun e w' => ∃ v2_ v3_ : Value, e = .returned (.tuple #[.agg #[.string r1, .int .i64 r2, v2_, v3_], .int .i64 r5]) ∧ Kd.Q Kd.string 9 w' w.heap.size (fun _ => True) v2_ r3 ∧ Kd.R k36 36 w' w.heap.size (fun _ => True) v3_ r4 ∧ Below w.heap.size w w' := by
 have hu26 := Try.underlying26
 have HR0 := AM hr0
 have HC0 := AM hc0
 clear hr0 hc0
 have HB := AM (Below.refl w.heap.size w)
 have H : ((spec_l01Source.f k l0).bind fun bt102 => ((spec_l01Src_l07Topic.f k bt102.1 bt102.2.1 bt102.2.2.1 bt102.2.2.2).bind fun bt107 => ((spec_l01Src_n.f bt102.1 bt107.2.2.2.2.1 bt107.2.2.2.2.2.1 bt107.2.2.2.2.2.2 24).bind fun bt119 => (some (bt107.1, bt107.2.1, bt107.2.2.1, bt107.2.2.2.1, wrap64 (bt119.1 - 1)))))) = some (r1, r2, r3, r4, r5) := h
 clear h
 replace H := Option.bind_eq_some_iff.mp H
 obtain ⟨⟨t102, t103, t104, t105⟩, A20, H⟩ := H
 try dsimp only at H
 have A2 := AM A20
 clear A20
 replace H := Option.bind_eq_some_iff.mp H
 obtain ⟨⟨t107, t108, t109, t112, t115, t116, t117⟩, A30, H⟩ := H
 try dsimp only at H
 have A3 := AM A30
 clear A30
 replace H := Option.bind_eq_some_iff.mp H
 obtain ⟨⟨t119, t120, t121, t122⟩, A40, H⟩ := H
 try dsimp only at H
 have A4 := AM A40
 clear A40
 simp only [Option.some.injEq, Prod.mk.injEq] at H
 obtain ⟨rfl, rfl, rfl, rfl, rfl⟩ := H
 go_enter Try.func5, Try.ntmps5
 try go_wp2_with (first | ((with_reducible refine gate_dst (N := 2) rfl ?_); refine box_event (by rfl) (N := 2) (by rfl) (cs := #[.string (⟨#[]⟩ : ByteArray), .int .i64 0, .slice none 0 0, .slice none 0 0]) (t := 26) (by first | (go_simp; done) | (go_simp; rfl)) ?_; intro gb101 hg w5 hbox hb; have _ := AM (below_step (bX HB.out) hb); have _ := AM (hbox); have n2_ := AM ((by rw [hg]; exact (bZ (bX HB.out)) : w.heap.size ≤ gb101)); clear HB; rename_i HB BK101; have GW101 := n2_; have GE101 := n2_; clear n2_; clear hb hbox hg) | ((with_reducible refine gate_callee (f := 19) rfl ?_); refine goesL_ (some 7) rfl rfl Try.func19 (by kernel_rfl) rfl #[.slice A0 l0.length c0] rfl (by (try simp only [mA, mB, mC]); first | done | rfl | (simp only [mD, mE]; rfl)) ?_; (with_reducible refine (spec_l01Source.calls k _ _ l0 t102 t103 t104 t105 w _ ?side1 ?side2 ?side3 A2.out).mono ?_); (case side1 => exact (bX HB.out)); (case side2 => exact HR0.out); (case side3 => exact HC0.out); rintro e w6 ⟨g106, rfl, hi, hb, hb2⟩; refine ⟨_, rfl, ?_⟩; have _ := AM (nB BK101.out hb2); have _ := AM (hb); have _ := AM (hi); have _ := AM (IsS63.ne_blk hi (nB BK101.out hb2) (by decide)); have _ := AM (Ne.symm (IsS63.ne_blk hi (nB BK101.out hb2) (by decide))); clear BK101 HB; rename_i BK101 HB HI106 NB106_101 NB101_106; (try clear hb); (try clear hb2); (try clear hk); (try clear hi)) | ((with_reducible refine gate_callee (f := 20) rfl ?_); refine goesL_ (some 9) rfl rfl Try.func20 (by kernel_rfl) rfl #[.pointer (some ⟨g106, 0, none⟩)] rfl (by (try simp only [mA, mB, mC]); first | done | rfl | (simp only [mD, mE]; rfl)) ?_; (with_reducible refine (spec_l01Src_l07Topic.calls k g106 t102 t103 t104 t105 t107 t108 t109 t112 t115 t116 t117 w _ ?side1 ?side2 A3.out).mono ?_); (case side1 => exact (iX63_6_spec_DrawTopicRetain HI106.out)); (case side2 => exact (bI63_106_spec_DrawTopicRetain HB.out)); rintro e w7 ⟨v110, v113, rfl, ho0, ho1, hi, hb, hk⟩; refine ⟨_, rfl, ?_⟩; have _ := AM (kB hk BK101.out NB101_106.out (by simp)); have _ := AM (Kd.Q_lower ho0 (bZ (bI63_106_spec_DrawTopicRetain HB.out))); have _ := AM (Kd.R_lower ho1 (bZ (bI63_106_spec_DrawTopicRetain HB.out))); have _ := AM (hb); have _ := AM (hi); clear BK101 HB HI106; rename_i BK101 HO111 HO114 HB HI106; (try clear hb); (try clear hb2); (try clear hk); (try clear hi); (try clear ho0); (try clear ho1)) | ((with_reducible refine gate_dst (N := 5) rfl ?_); refine box_event (by rfl) (N := 5) (by rfl) (cs := #[.string (⟨#[]⟩ : ByteArray), .int .i64 0, .slice none 0 0, .slice none 0 0]) (t := 26) (by first | (go_simp; done) | (go_simp; rfl)) ?_; intro gb118 hg w8 hbox hb; have _ := AM (Kd.Q_below (qX HO111.out) hb); have _ := AM (Kd.R_below (rX HO114.out) hb); have _ := AM (nB BK101.out hb); have _ := AM (IsS63.below (iX63_6_spec_DrawTopicRetain HI106.out) hb); have _ := AM (below_step (bI63_106_spec_DrawTopicRetain HB.out) hb); have _ := AM (hbox); have n6_ := AM ((by rw [hg]; exact (bZ (bI63_106_spec_DrawTopicRetain HB.out)) : w.heap.size ≤ gb118)); have _ := AM (lX hg BK101.out); have _ := AM (lX hg BK101.out).symm; have _ := AM ((by rw [hg]; exact Nat.ne_of_lt (IsS63.lt (show IsS63 w _ g106 t102 t115 t116 t117 from iX63_6_spec_DrawTopicRetain HI106.out)) : g106 ≠ gb118)); have _ := AM ((by rw [hg]; exact Nat.ne_of_gt (IsS63.lt (show IsS63 w _ g106 t102 t115 t116 t117 from iX63_6_spec_DrawTopicRetain HI106.out)) : gb118 ≠ g106)); clear HO111 HO114 BK101 HI106 HB; rename_i HO111 HO114 BK101 HI106 HB BK118 NB101_118 NB118_101 NB106_118 NB118_106; have GW118 := n6_; have GE118 := n6_; clear n6_; clear hb hbox hg; have hnb9 := NB118_101.out; have hnc9 := NB101_118.out; have hnb10 := NB118_106.out; have hnc10 := NB106_118.out; have hcz11 := q4 BK118.out; have hfz11 := fZ BK118.out; obtain ⟨Ao12, co12, eo12, _⟩ := Kd.Q_slice HO111.out; subst eo12; obtain ⟨Ao13, co13, eo13⟩ := Kd.R_slice HO114.out; subst eo13))
 have n0_ : Aside0 (Kd.Q Kd.string 9 ((((w8.setCell ⟨gb118, 0, none⟩ (.string t107)).setCell ⟨gb118, 1, none⟩ (.int .i64 t108)).setCell ⟨gb118, 2, none⟩ (.slice Ao12 t109.length co12)).setCell ⟨gb118, 3, none⟩ (.slice Ao13 t112.length co13)) w.heap.size (fun _ => True) (.slice Ao12 t109.length co12) t109) := ⟨by (with_reducible repeat (first | apply Kd.Q_alloc | apply Kd.Q_drewN | apply Kd.Q_drew)); exact Qf4 HO111.out BK118.out (by decide) (fun _ hk => trivial)⟩
 have n1_ : Aside0 (Kd.R k36 36 ((((w8.setCell ⟨gb118, 0, none⟩ (.string t107)).setCell ⟨gb118, 1, none⟩ (.int .i64 t108)).setCell ⟨gb118, 2, none⟩ (.slice Ao12 t109.length co12)).setCell ⟨gb118, 3, none⟩ (.slice Ao13 t112.length co13)) w.heap.size (fun _ => True) (.slice Ao13 t112.length co13) t112) := ⟨by (with_reducible repeat (first | apply rA | apply rN | apply rD)); exact Rf4 HO114.out BK118.out (by decide) (fun _ hk => trivial)⟩
 have n2_ : Aside0 (((((w8.setCell ⟨gb118, 0, none⟩ (.string t107)).setCell ⟨gb118, 1, none⟩ (.int .i64 t108)).setCell ⟨gb118, 2, none⟩ (.slice Ao12 t109.length co12)).setCell ⟨gb118, 3, none⟩ (.slice Ao13 t112.length co13)).heap[gb101]? = some (.cells #[.string (⟨#[]⟩ : ByteArray), .int .i64 0, .slice none 0 0, .slice none 0 0] 26 (0, 0))) := ⟨by (iterate 4 refine kF NB101_118.out ?_); (with_reducible repeat (first | apply kN | apply kD | apply kA)); exact BK101.out⟩
 have n3_ : Aside0 (((((w8.setCell ⟨gb118, 0, none⟩ (.string t107)).setCell ⟨gb118, 1, none⟩ (.int .i64 t108)).setCell ⟨gb118, 2, none⟩ (.slice Ao12 t109.length co12)).setCell ⟨gb118, 3, none⟩ (.slice Ao13 t112.length co13)).heap[gb118]? = some (.cells #[.string t107, .int .i64 t108, .slice Ao12 t109.length co12, .slice Ao13 t112.length co13] 26 (0, 0))) := ⟨by refine kP (cs := #[.string t107, .int .i64 t108, .slice Ao12 t109.length co12, .slice none 0 0]) 3 ?_; refine kP (cs := #[.string t107, .int .i64 t108, .slice none 0 0, .slice none 0 0]) 2 ?_; refine kP (cs := #[.string t107, .int .i64 0, .slice none 0 0, .slice none 0 0]) 1 ?_; refine kP (cs := #[.string (⟨#[]⟩ : ByteArray), .int .i64 0, .slice none 0 0, .slice none 0 0]) 0 ?_; (with_reducible repeat (first | apply kN | apply kD | apply kA)); exact BK118.out⟩
 have n4_ : Aside0 (IsS63 w ((((w8.setCell ⟨gb118, 0, none⟩ (.string t107)).setCell ⟨gb118, 1, none⟩ (.int .i64 t108)).setCell ⟨gb118, 2, none⟩ (.slice Ao12 t109.length co12)).setCell ⟨gb118, 3, none⟩ (.slice Ao13 t112.length co13)) g106 t102 t115 t116 t117) := ⟨iX63_6_spec_DrawTopicRetain HI106.out⟩
 have n5_ : Aside0 (Below w.heap.size w ((((w8.setCell ⟨gb118, 0, none⟩ (.string t107)).setCell ⟨gb118, 1, none⟩ (.int .i64 t108)).setCell ⟨gb118, 2, none⟩ (.slice Ao12 t109.length co12)).setCell ⟨gb118, 3, none⟩ (.slice Ao13 t112.length co13))) := ⟨bI63_106_spec_DrawTopicRetain HB.out⟩
 (try clear HO111)
 (try clear HO114)
 (try clear BK101)
 (try clear BK118)
 (try clear HI106)
 (try clear HB)
 generalize ((((w8.setCell ⟨gb118, 0, none⟩ (.string t107)).setCell ⟨gb118, 1, none⟩ (.int .i64 t108)).setCell ⟨gb118, 2, none⟩ (.slice Ao12 t109.length co12)).setCell ⟨gb118, 3, none⟩ (.slice Ao13 t112.length co13)) = w14 at n0_ n1_ n2_ n3_ n4_ n5_ ⊢
 have HO111 := n0_
 have HO114 := n1_
 have BK101 := n2_
 have BK118 := n3_
 have HI106 := n4_
 have HB := n5_
 clear n0_ n1_ n2_ n3_ n4_ n5_
 have _ := AM (Kd.Q_drew HO111.out)
 have _ := AM (rD HO114.out)
 have _ := AM (kD BK101.out)
 have _ := AM (kD BK118.out)
 have _ := AM (IsS63.drew HI106.out)
 have _ := AM (bD HB.out)
 clear HO111 HO114 BK101 BK118 HI106 HB
 rename_i HO111 HO114 BK101 BK118 HI106 HB
 refine start_ (n := 6) (S := fun w' => w'.cell? ⟨gb118, 0, none⟩ = some (.string t107) ∧ w'.cell? ⟨gb118, 1, none⟩ = some (.int .i64 t108) ∧ w'.cell? ⟨gb118, 2, none⟩ = some (.slice Ao12 t109.length co12) ∧ w'.cell? ⟨gb118, 3, none⟩ = some (.slice Ao13 t112.length co13)) (ds := []) (upTo 0 6) (by kernel_rfl) rfl rfl (q4 BK118.out) (fun hHeld => ?_)
 generalize w14.drew = w15 at HO111 HO114 BK101 BK118 HI106 HB hHeld ⊢
 refine pure_ (i := 1) (N := some 11) (v := ?_) (a' := ?_) #[false, true, false, false, false, false] rfl rfl (by kernel_rfl) (fun _ _ _ h => h) (Or.inl ⟨by rfl, ?_⟩) ?_ ?_
 rotate_left
 ·
  intro w'
  go_simp
  with_reducible rfl
 rotate_left
 ·
  simp only [Act.put, sA, sB, sC, i64_w, i32_w]
  rfl
 refine take_ (i := 0) (N := some 10) (v := ?_) (a' := ?_) (upTo 2 6) rfl rfl (by kernel_rfl) (fun _ _ _ h => h) (Or.inl ⟨by rfl, ?_⟩) hHeld ?_ ?_
 rotate_left; (focus (rintro w' ⟨s0, s1, s2, s3⟩; go_simp; with_reducible rfl))
 rotate_left; (focus (simp only [Act.put, sA, sB, sC, i64_w, i32_w]; rfl))
 refine one_ (i := 2) (N := some 12) (upTo 3 6) rfl rfl (by kernel_rfl) (by decide) (fun K hK => ?_)
 refine goes_ Try.func21 (by kernel_rfl) rfl #[.pointer (some ⟨g106, 0, none⟩), .int .i64 24] (by rfl) rfl rfl (by (try simp only [mA, mB, mC]); first | done | rfl | (simp only [mD, mE]; rfl)) ?_
 with_reducible refine (spec_l01Src_n.calls g106 t102 t115 t116 t117 24 t119 t120 t121 t122 w _ ?side1 ?side2 A4.out).mono ?_
 (case side1 => exact (iX63_6_spec_DrawTopicRetain HI106.out))
 (case side2 => exact (bI63_106_spec_DrawTopicRetain HB.out))
 rintro e w16 ⟨rfl, hi, hb, hk⟩
 refine ⟨_, rfl, ?_⟩
 have _ := AM (kB hk BK101.out NB101_106.out (by simp))
 have _ := AM (Kd.Q_mono (Kd.Q_keep (IsS63.apartQ (show IsS63 w _ g106 t102 t115 t116 t117 from iX63_6_spec_DrawTopicRetain HI106.out) (qX HO111.out) (by decide)) hk (fun _ h => h.2)) (fun _ h => h.1))
 have _ := AM (Kd.R_mono (Kd.R_keep (IsS63.apart (show IsS63 w _ g106 t102 t115 t116 t117 from iX63_6_spec_DrawTopicRetain HI106.out) (rX HO114.out) (by decide)) hk (fun _ h => h.2)) (fun _ h => h.1))
 have _ := AM (kB hk BK118.out NB118_106.out (by simp))
 have _ := AM (hb)
 have _ := AM (hi)
 clear BK101 HO111 HO114 BK118 HB HI106
 rename_i BK101 HO111 HO114 BK118 HB HI106
 (try clear hb)
 (try clear hb2)
 (try clear hk)
 (try clear hi)
 refine hK.out _ _ (q4 BK118.out) (fun hHeld => ?_)
 clear hK K
 refine norm_ (a' := ?_) ?_ ?_
 rotate_left
 ·
  show Act.put _ (some 12) _ = _
  simp only [Act.put, sA, sB, sC, i64_w, i32_w]
  rfl
 refine pure_ (i := 3) (N := some 13) (v := ?_) (a' := ?_) (upTo 4 6) rfl rfl (by kernel_rfl) (fun _ _ _ h => h) (Or.inl ⟨by rfl, ?_⟩) ?_ ?_
 rotate_left
 ·
  intro w'
  go_simp
  with_reducible rfl
 rotate_left
 ·
  simp only [Act.put, sA, sB, sC, i64_w, i32_w]
  rfl
 refine one_ (i := 4) (N := none) (upTo 5 6) rfl rfl (by kernel_rfl) (by decide) (fun K hK => ?_)
 have hs17 : w16.cell? ⟨gb101, 0, none⟩ = some (.string (⟨#[]⟩ : ByteArray)) := (kC BK101.out 0).trans rfl
 have hfs17 := fZ BK101.out 0
 have hns17_1 := NB118_101.out
 have hms17_1 := NB101_118.out
 have hs18 : w16.cell? ⟨gb101, 1, none⟩ = some (.int .i64 0) := (kC BK101.out 1).trans rfl
 have hfs18 := fZ BK101.out 1
 have hns18_1 := NB118_101.out
 have hms18_1 := NB101_118.out
 have hs19 : w16.cell? ⟨gb101, 2, none⟩ = some (.slice none 0 0) := (kC BK101.out 2).trans rfl
 have hfs19 := fZ BK101.out 2
 have hns19_1 := NB118_101.out
 have hms19_1 := NB101_118.out
 have hs20 : w16.cell? ⟨gb101, 3, none⟩ = some (.slice none 0 0) := (kC BK101.out 3).trans rfl
 have hfs20 := fZ BK101.out 3
 have hns20_1 := NB118_101.out
 have hms20_1 := NB101_118.out
 refine skip_ (w1 := ?_) (by rfl) rfl ?_ ?_
 rotate_left
 ·
  go_simp
  rfl
 refine hK.out _ _ ⟨(cT NB118_101.out ((cT NB118_101.out ((cT NB118_101.out ((cT NB118_101.out (hHeld.1)))))))), (cT NB118_101.out ((cT NB118_101.out ((cT NB118_101.out ((cT NB118_101.out (hHeld.2.1)))))))), (cT NB118_101.out ((cT NB118_101.out ((cT NB118_101.out ((cT NB118_101.out (hHeld.2.2.1)))))))), (cT NB118_101.out ((cT NB118_101.out ((cT NB118_101.out ((cT NB118_101.out (hHeld.2.2.2))))))))⟩ (fun hHeld => ?_)
 clear hK K
 refine pure_ (i := 5) (N := some 3) (v := ?_) (a' := ?_) (upTo 6 6) rfl rfl (by kernel_rfl) (fun _ _ _ h => h) (Or.inl ⟨by rfl, ?_⟩) ?_ ?_
 rotate_left
 ·
  intro w'
  go_simp
  with_reducible rfl
 rotate_left
 ·
  simp only [Act.put, sA, sB, sC, i64_w, i32_w]
  rfl
 refine done_ (by kernel_rfl) ?_
 try go_wp2
 refine bodyPost_ret (results_ct rfl _ _ gb101 26 #[.string t107, .int .i64 t108, .slice Ao12 t109.length co12, .slice Ao13 t112.length co13] (0, 0) _ rfl (by refine kP (cs := #[.string t107, .int .i64 t108, .slice Ao12 t109.length co12, .slice none 0 0]) 3 ?_; refine kP (cs := #[.string t107, .int .i64 t108, .slice none 0 0, .slice none 0 0]) 2 ?_; refine kP (cs := #[.string t107, .int .i64 0, .slice none 0 0, .slice none 0 0]) 1 ?_; refine kP (cs := #[.string (⟨#[]⟩ : ByteArray), .int .i64 0, .slice none 0 0, .slice none 0 0]) 0 ?_; (with_reducible repeat (first | apply kN | apply kD | apply kA)); exact BK101.out) Try.underlying26 rfl (by kernel_rfl)) rfl ?_
 exact ⟨_, _, by first | rfl | (simp [*, errW_none, errW_some] <;> rfl), by (with_reducible repeat (first | apply Kd.Q_alloc | apply Kd.Q_drewN | apply Kd.Q_drew)); exact Qf4 HO111.out BK101.out (by decide) (fun _ hk => trivial), by (with_reducible repeat (first | apply rA | apply rN | apply rD)); exact Rf4 HO114.out BK101.out (by decide) (fun _ hk => trivial), bI63_106_spec_DrawTopicRetain HB.out⟩

end Go.Proofs.Ytcnilcipcnjmjaa.Q
