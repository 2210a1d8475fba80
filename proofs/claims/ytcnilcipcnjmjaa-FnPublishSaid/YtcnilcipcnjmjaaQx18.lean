/- Printed by a program of this session (wip/mp.py over the kit's print.py): functions of the translation as plain Lean functions, and that the machine's calls do what these say. -/
import Derived.Test.YtcnilcipcnjmjaaQx0
import Derived.Test.YtcnilcipcnjmjaaQx2
import Derived.Test.YtcnilcipcnjmjaaQx5
import Derived.Test.YtcnilcipcnjmjaaQx15
namespace Go.Proofs.Ytcnilcipcnjmjaa.Q
open Go.RowKit Go.Proofs.Ytcnilcipcnjmjaa.HB Go.Proofs.YtcnilcipcnjmjaaW.PrintWords Go.Proofs.YtcnilcipcnjmjaaW.PrintLast Go.Proofs.YtcnilcipcnjmjaaW.PrintMore
attribute [local go_sem] max2_int min2_int max_two min_two max_three min_three max_four min_four   -- for this text's walks alone
set_option linter.unusedVariables false
set_option linter.unusedSimpArgs false

/-! ### spec_DrawTopicPublish: function 11 -/
abbrev spec_DrawTopicPublish.b0 : Array Bool := #[false, false, true, false, false, false, false, false, false, false]
abbrev spec_DrawTopicPublish.b1 : Array Bool := #[true, false, true, false, false, false, false, false, false, false]
abbrev spec_DrawTopicPublish.b2 : Array Bool := #[true, true, true, true, true, true, true, false, true, false]
abbrev spec_DrawTopicPublish.b3 : Array Bool := #[true, true, true, true, true, true, false, false, true, false]
abbrev spec_DrawTopicPublish.b4 : Array Bool := #[true, true, true, true, true, false, false, false, true, false]
abbrev spec_DrawTopicPublish.b5 : Array Bool := #[true, false, true, true, false, false, false, false, true, false]
abbrev spec_DrawTopicPublish.b6 : Array Bool := #[true, false, true, true, false, false, false, false, false, false]
abbrev spec_DrawTopicPublish.b7 : Array Bool := #[true, true, true, true, false, false, false, false, true, false]
def spec_DrawTopicPublish.f (k : Nat) (l0 : List Int) : Option (ByteArray × Int × List ByteArray × (List (S36)) × ByteArray) := (spec_l01Source.f k l0).bind fun bt102 => ((spec_l01Src_l07Topic.f k bt102.1 bt102.2.1 bt102.2.2.1 bt102.2.2.2).bind fun bt107 => ((spec_l01Src_one.f bt102.1 bt107.2.2.2.2.1 bt107.2.2.2.2.2.1 bt107.2.2.2.2.2.2 10).bind fun bt119 => (if bt119.1 = true then ((some (([0, 40, 41] : List Int) : List Int)).bind fun y123 => ((spec_l01Src_n.f bt102.1 bt119.2.1 bt119.2.2.1 bt119.2.2.2 3).bind fun bt126 => (if 0 ≤ bt126.1 then (if bt126.1 < (y123.length : Int) then (if 0 ≤ (rd y123 bt126.1) then (if (rd y123 bt126.1 : Int).toNat ≤ 281474976710656 then (some (bt107.1, bt107.2.1, bt107.2.2.1, bt107.2.2.2.1, strOfNums (List.replicate (rd y123 bt126.1 : Int).toNat 0))) else (none)) else (none)) else (none)) else (none)))) else (some (bt107.1, bt107.2.1, bt107.2.2.1, bt107.2.2.2.1, (⟨#[110, 101, 119]⟩ : ByteArray))))))
theorem spec_DrawTopicPublish.mono : ∀ a0 k, LeO (spec_DrawTopicPublish.f k a0) (spec_DrawTopicPublish.f (k + 1) a0) := by
  intro a0 k
  unfold spec_DrawTopicPublish.f
  repeat' first
      | (with_reducible exact spec_l01Source.mono _ _)
      | (with_reducible exact spec_l01Src_l07Topic.mono _ _ _ _ _)
      | (with_reducible exact LeO.refl _)
      | (with_reducible exact LeO.none _)
      | (with_reducible refine LeO.ite ?_ ?_)
      | (with_reducible refine LeO.bind ?_ (fun _ => ?_))
      | exact spec_l01Source.mono _ _
      | exact spec_l01Src_l07Topic.mono _ _ _ _ _
      | exact LeO.none _
      | refine LeO.ite ?_ ?_
      | refine LeO.bind ?_ (fun _ => ?_)
def spec_DrawTopicPublish.T4 : Bool × List (List Nat × List Nat) := (true, [([], []), ([], []), ([], []), ([2], [2]), ([1, 3], [1, 3]), ([4], [4]), ([5, 5], [5]), ([6], [6]), ([0, 3, 0], [0]), ([7, 8, 0, 1, 2, 3, 4, 5, 6, 7, 8], [7])])
def spec_DrawTopicPublish.B4 : List Nat := [0, 0, 0, 4, 14, 30, 62, 126, 13, 511]
theorem spec_DrawTopicPublish.tab4 : rtab .any (opsOf Try.f11 4) = spec_DrawTopicPublish.T4 := by kernel_rfl
theorem spec_DrawTopicPublish.bits4 : waitsOk spec_DrawTopicPublish.T4.2 spec_DrawTopicPublish.B4 = true := by kernel_rfl
theorem bI63_106_spec_DrawTopicPublish {n : Nat} {w W W' : World} (h : Below n w W) (f : Below n w W → Below n w W' := by intro h_; repeat (first | (with_reducible first | exact h_ | apply bA | apply bN | apply bD | refine bS ?_ (IsS63.ge HI106.out) | refine bS ?_ (Aside0.out (by assumption))) | exact h_)) : Below n w W' := f h
theorem iX63_6_spec_DrawTopicPublish {p q : Prop} (h : p) (f : p → q := by intro h_; repeat (first | (with_reducible first | exact h_ | apply IsS63.alloc | apply IsS63.drewN | apply IsS63.drew | apply IsS63.set_1 | apply IsS63.set_2 | apply IsS63.set_3 | refine IsS63.far ?_ (Aside0.out (by assumption)) _) | exact h_)) : q := f h
set_option maxHeartbeats 60000000 in
set_option maxRecDepth 100000 in
theorem spec_DrawTopicPublish.calls (k : Nat) (A0 : Option Addr) (c0 : Nat) (l0 : List Int) (r1 : ByteArray) (r2 : Int) (r3 : List ByteArray) (r4 : List (S36)) (r5 : ByteArray) (w : World) (hr0 : Kd.C (Kd.int .u8) w A0 l0.length l0) (hc0 : l0.length ≤ c0) (h : spec_DrawTopicPublish.f k l0 = some (r1, r2, r3, r4, r5)) :
    Calls Try.prog 11 #[.slice A0 l0.length c0] w fun e w' => ∃ v2_ v3_ : Value, e = .returned (.tuple #[.agg #[.string r1, .int .i64 r2, v2_, v3_], .string r5]) ∧ Kd.Q Kd.string 9 w' w.heap.size (fun _ => True) v2_ r3 ∧ Kd.R k36 36 w' w.heap.size (fun _ => True) v3_ r4 ∧ Below w.heap.size w w' := by
 have hu26 := Try.underlying26
 have HR0 := AM hr0
 have HC0 := AM hc0
 clear hr0 hc0
 have HB := AM (Below.refl w.heap.size w)
 have H : ((spec_l01Source.f k l0).bind fun bt102 => ((spec_l01Src_l07Topic.f k bt102.1 bt102.2.1 bt102.2.2.1 bt102.2.2.2).bind fun bt107 => ((spec_l01Src_one.f bt102.1 bt107.2.2.2.2.1 bt107.2.2.2.2.2.1 bt107.2.2.2.2.2.2 10).bind fun bt119 => (if bt119.1 = true then ((some (([0, 40, 41] : List Int) : List Int)).bind fun y123 => ((spec_l01Src_n.f bt102.1 bt119.2.1 bt119.2.2.1 bt119.2.2.2 3).bind fun bt126 => (if 0 ≤ bt126.1 then (if bt126.1 < (y123.length : Int) then (if 0 ≤ (rd y123 bt126.1) then (if (rd y123 bt126.1 : Int).toNat ≤ 281474976710656 then (some (bt107.1, bt107.2.1, bt107.2.2.1, bt107.2.2.2.1, strOfNums (List.replicate (rd y123 bt126.1 : Int).toNat 0))) else (none)) else (none)) else (none)) else (none)))) else (some (bt107.1, bt107.2.1, bt107.2.2.1, bt107.2.2.2.1, (⟨#[110, 101, 119]⟩ : ByteArray))))))) = some (r1, r2, r3, r4, r5) := h
 clear h
 replace H := Option.bind_eq_some_iff.mp H
 obtain ⟨⟨t102, t103, t104, t105⟩, A20, H⟩ := H
 try dsimp only at H
 have A2 := AM A20
 clear A20
 replace H := Option.bind_eq_some_iff.mp H
 obtain ⟨⟨t107, t108, t109, t112, t115, t116, t117⟩, A30, H⟩ := H
 try dsimp only at H
 have A3 := AM A30
 clear A30
 replace H := Option.bind_eq_some_iff.mp H
 obtain ⟨⟨t119, t120, t121, t122⟩, A40, H⟩ := H
 try dsimp only at H
 have A4 := AM A40
 clear A40
 by_cases c5 : t119 = true
 ·
  subst c5
  have H1 : ((some (([0, 40, 41] : List Int) : List Int)).bind fun y123 => ((spec_l01Src_n.f t102 t120 t121 t122 3).bind fun bt126 => (if 0 ≤ bt126.1 then (if bt126.1 < (y123.length : Int) then (if 0 ≤ (rd y123 bt126.1) then (if (rd y123 bt126.1 : Int).toNat ≤ 281474976710656 then (some (t107, t108, t109, t112, strOfNums (List.replicate (rd y123 bt126.1 : Int).toNat 0))) else (none)) else (none)) else (none)) else (none)))) = some (r1, r2, r3, r4, r5) := by rw [if_pos rfl] at H; exact H
  clear H
  have H := H1
  clear H1
  obtain ⟨y123, hy123⟩ : ∃ y_ : List Int, y_ = (([0, 40, 41] : List Int)) := ⟨_, rfl⟩
  replace H : ((spec_l01Src_n.f t102 t120 t121 t122 3).bind fun bt126 => (if 0 ≤ bt126.1 then (if bt126.1 < (y123.length : Int) then (if 0 ≤ (rd y123 bt126.1) then (if (rd y123 bt126.1 : Int).toNat ≤ 281474976710656 then (some (t107, t108, t109, t112, strOfNums (List.replicate (rd y123 bt126.1 : Int).toNat 0))) else (none)) else (none)) else (none)) else (none))) = some (r1, r2, r3, r4, r5) := by first | (rw [hy123]; with_reducible exact H) | (have H2_ := (Option.bind_some _ _).symm.trans H; rw [hy123]; with_reducible exact H2_) | (have H2_ := (Option.bind_some _ _).symm.trans H; with_reducible exact H2_) | with_reducible exact H | (rw [hy123]; exact H) | exact H
  have Ny123 := AM hy123
  clear hy123
  replace H := Option.bind_eq_some_iff.mp H
  obtain ⟨⟨t126, t127, t128, t129⟩, A60, H⟩ := H
  try dsimp only at H
  have A6 := AM A60
  clear A60
  by_cases c7 : 0 ≤ t126
  ·
   rw [if_pos c7] at H
   have c7b0 : decide (0 ≤ t126) = true := decide_eq_true c7
   clear c7
   by_cases c8 : t126 < (y123.length : Int)
   ·
    rw [if_pos c8] at H
    have c8b0 : decide (t126 < (y123.length : Int)) = true := decide_eq_true c8
    clear c8
    by_cases c9 : 0 ≤ (rd y123 t126)
    ·
     rw [if_pos c9] at H
     have c9b0 := eq_true c9
     have c9b1 : decide (0 ≤ (rd y123 t126)) = true := decide_eq_true c9
     clear c9
     by_cases c10 : (rd y123 t126 : Int).toNat ≤ 281474976710656
     ·
      rw [if_pos c10] at H
      have c10b0 := eq_true c10
      have c10b1 : decide ((rd y123 t126 : Int).toNat ≤ 281474976710656) = true := decide_eq_true c10
      clear c10
      obtain ⟨y131, hy131⟩ : ∃ y_ : List Int, y_ = (List.replicate (rd y123 t126 : Int).toNat 0) := ⟨_, rfl⟩
      replace H : (some (t107, t108, t109, t112, strOfNums y131)) = some (r1, r2, r3, r4, r5) := by first | (rw [hy131]; with_reducible exact H) | (have H2_ := (Option.bind_some _ _).symm.trans H; rw [hy131]; with_reducible exact H2_) | (have H2_ := (Option.bind_some _ _).symm.trans H; with_reducible exact H2_) | with_reducible exact H | (rw [hy131]; exact H) | exact H
      have Ny131 := AM hy131
      clear hy131
      simp only [Option.some.injEq, Prod.mk.injEq] at H
      obtain ⟨rfl, rfl, rfl, rfl, rfl⟩ := H
      go_enter Try.func11, Try.ntmps11
      try go_wp2_with (first | ((with_reducible refine gate_dst (N := 2) rfl ?_); refine box_event (by rfl) (N := 2) (by rfl) (cs := #[.string (⟨#[]⟩ : ByteArray), .int .i64 0, .slice none 0 0, .slice none 0 0]) (t := 26) (by first | (go_simp; done) | (go_simp; rfl)) ?_; intro gb101 hg w11 hbox hb; have _ := AM (below_step (bX HB.out) hb); have _ := AM (hbox); have n2_ := AM ((by rw [hg]; exact (bZ (bX HB.out)) : w.heap.size ≤ gb101)); clear HB; rename_i HB BK101; have GW101 := n2_; have GE101 := n2_; clear n2_; clear hb hbox hg) | ((with_reducible refine gate_callee (f := 19) rfl ?_); refine goesL_ (some 7) rfl rfl Try.func19 (by kernel_rfl) rfl #[.slice A0 l0.length c0] rfl (by (try simp only [mA, mB, mC]); first | done | rfl | (simp only [mD, mE]; rfl)) ?_; (with_reducible refine (spec_l01Source.calls k _ _ l0 t102 t103 t104 t105 w _ ?side1 ?side2 ?side3 A2.out).mono ?_); (case side1 => exact (bX HB.out)); (case side2 => exact HR0.out); (case side3 => exact HC0.out); rintro e w12 ⟨g106, rfl, hi, hb, hb2⟩; refine ⟨_, rfl, ?_⟩; have _ := AM (nB BK101.out hb2); have _ := AM (hb); have _ := AM (hi); have _ := AM (IsS63.ne_blk hi (nB BK101.out hb2) (by decide)); have _ := AM (Ne.symm (IsS63.ne_blk hi (nB BK101.out hb2) (by decide))); clear BK101 HB; rename_i BK101 HB HI106 NB106_101 NB101_106; (try clear hb); (try clear hb2); (try clear hk); (try clear hi)) | ((with_reducible refine gate_callee (f := 20) rfl ?_); refine goesL_ (some 9) rfl rfl Try.func20 (by kernel_rfl) rfl #[.pointer (some ⟨g106, 0, none⟩)] rfl (by (try simp only [mA, mB, mC]); first | done | rfl | (simp only [mD, mE]; rfl)) ?_; (with_reducible refine (spec_l01Src_l07Topic.calls k g106 t102 t103 t104 t105 t107 t108 t109 t112 t115 t116 t117 w _ ?side1 ?side2 A3.out).mono ?_); (case side1 => exact (iX63_6_spec_DrawTopicPublish HI106.out)); (case side2 => exact (bI63_106_spec_DrawTopicPublish HB.out)); rintro e w13 ⟨v110, v113, rfl, ho0, ho1, hi, hb, hk⟩; refine ⟨_, rfl, ?_⟩; have _ := AM (kB hk BK101.out NB101_106.out (by simp)); have _ := AM (Kd.Q_lower ho0 (bZ (bI63_106_spec_DrawTopicPublish HB.out))); have _ := AM (Kd.R_lower ho1 (bZ (bI63_106_spec_DrawTopicPublish HB.out))); have _ := AM (hb); have _ := AM (hi); clear BK101 HB HI106; rename_i BK101 HO111 HO114 HB HI106; (try clear hb); (try clear hb2); (try clear hk); (try clear hi); (try clear ho0); (try clear ho1)) | ((with_reducible refine gate_dst (N := 5) rfl ?_); refine box_event (by rfl) (N := 5) (by rfl) (cs := #[.string (⟨#[]⟩ : ByteArray), .int .i64 0, .slice none 0 0, .slice none 0 0]) (t := 26) (by first | (go_simp; done) | (go_simp; rfl)) ?_; intro gb118 hg w14 hbox hb; have _ := AM (Kd.Q_below (qX HO111.out) hb); have _ := AM (Kd.R_below (rX HO114.out) hb); have _ := AM (nB BK101.out hb); have _ := AM (IsS63.below (iX63_6_spec_DrawTopicPublish HI106.out) hb); have _ := AM (below_step (bI63_106_spec_DrawTopicPublish HB.out) hb); have _ := AM (hbox); have n6_ := AM ((by rw [hg]; exact (bZ (bI63_106_spec_DrawTopicPublish HB.out)) : w.heap.size ≤ gb118)); have _ := AM (lX hg BK101.out); have _ := AM (lX hg BK101.out).symm; have _ := AM ((by rw [hg]; exact Nat.ne_of_lt (IsS63.lt (show IsS63 w _ g106 t102 t115 t116 t117 from iX63_6_spec_DrawTopicPublish HI106.out)) : g106 ≠ gb118)); have _ := AM ((by rw [hg]; exact Nat.ne_of_gt (IsS63.lt (show IsS63 w _ g106 t102 t115 t116 t117 from iX63_6_spec_DrawTopicPublish HI106.out)) : gb118 ≠ g106)); clear HO111 HO114 BK101 HI106 HB; rename_i HO111 HO114 BK101 HI106 HB BK118 NB101_118 NB118_101 NB106_118 NB118_106; have GW118 := n6_; have GE118 := n6_; clear n6_; clear hb hbox hg; have hnb15 := NB118_101.out; have hnc15 := NB101_118.out; have hnb16 := NB118_106.out; have hnc16 := NB106_118.out; have hcz17 := q4 BK118.out; have hfz17 := fZ BK118.out; obtain ⟨Ao18, co18, eo18, _⟩ := Kd.Q_slice HO111.out; subst eo18; obtain ⟨Ao19, co19, eo19⟩ := Kd.R_slice HO114.out; subst eo19) | ((with_reducible refine gate_callee (f := 32) rfl ?_); refine goesL_ (some 11) rfl rfl Try.func32 (by kernel_rfl) rfl #[.pointer (some ⟨g106, 0, none⟩), .int .i64 10] rfl (by (try simp only [mA, mB, mC]); first | done | rfl | (simp only [mD, mE]; rfl)) ?_; (with_reducible refine (spec_l01Src_one.calls g106 t102 t115 t116 t117 10 true t120 t121 t122 w _ ?side1 ?side2 A4.out).mono ?_); (case side1 => exact (iX63_6_spec_DrawTopicPublish HI106.out)); (case side2 => exact (bI63_106_spec_DrawTopicPublish HB.out)); rintro e w20 ⟨rfl, hi, hb, hk⟩; refine ⟨_, rfl, ?_⟩; have _ := AM (KeepBut.blk hk (g' := gb101) (o := .cells #[.string (⟨#[]⟩ : ByteArray), .int .i64 0, .slice none 0 0, .slice none 0 0] 26 (0, 0)) (by (iterate 4 refine kF NB101_118.out ?_); (with_reducible repeat (first | apply kN | apply kD | apply kA)); exact BK101.out) NB101_106.out (by simp)); have _ := AM (Kd.Q_mono (Kd.Q_keep (IsS63.apartQ (show IsS63 w _ g106 t102 t115 t116 t117 from iX63_6_spec_DrawTopicPublish HI106.out) (by (with_reducible repeat (first | apply Kd.Q_alloc | apply Kd.Q_drewN | apply Kd.Q_drew)); exact (Qf4 HO111.out BK118.out (by decide) (fun _ h_ => h_.1))) (by decide)) hk (fun _ h => h.2)) (fun _ h => h.1)); have _ := AM (Kd.R_mono (Kd.R_keep (IsS63.apart (show IsS63 w _ g106 t102 t115 t116 t117 from iX63_6_spec_DrawTopicPublish HI106.out) (by (with_reducible repeat (first | apply rA | apply rN | apply rD)); exact (Rf4 HO114.out BK118.out (by decide) (fun _ h_ => h_.1))) (by decide)) hk (fun _ h => h.2)) (fun _ h => h.1)); have _ := AM (KeepBut.blk hk (g' := gb118) (o := .cells #[.string t107, .int .i64 t108, .slice Ao18 t109.length co18, .slice Ao19 t112.length co19] 26 (0, 0)) (by refine kP (cs := #[.string t107, .int .i64 t108, .slice Ao18 t109.length co18, .slice none 0 0]) 3 ?_; refine kP (cs := #[.string t107, .int .i64 t108, .slice none 0 0, .slice none 0 0]) 2 ?_; refine kP (cs := #[.string t107, .int .i64 0, .slice none 0 0, .slice none 0 0]) 1 ?_; refine kP (cs := #[.string (⟨#[]⟩ : ByteArray), .int .i64 0, .slice none 0 0, .slice none 0 0]) 0 ?_; (with_reducible repeat (first | apply kN | apply kD | apply kA)); exact BK118.out) NB118_106.out (by simp)); have _ := AM (hb); have _ := AM (hi); clear BK101 HO111 HO114 BK118 HB HI106; rename_i BK101 HO111 HO114 BK118 HB HI106; (try clear hb); (try clear hb2); (try clear hk); (try clear hi)))
      have pi130 : (0 ≤ (t126 : Int)) = True := eq_true (of_decide_eq_true (by assumption))
      have qi130 : (t126 < (y123.length : Int)) = True := eq_true (of_decide_eq_true (by assumption))
      have _ := AM (Kd.Q_drew HO111.out)
      have _ := AM (rD HO114.out)
      have _ := AM (kD BK101.out)
      have _ := AM (kD BK118.out)
      have _ := AM (IsS63.drew HI106.out)
      have _ := AM (bD HB.out)
      clear HO111 HO114 BK101 BK118 HI106 HB
      rename_i HO111 HO114 BK101 BK118 HI106 HB
      refine start_ (n := 10) (S := fun w' => w'.cell? ⟨gb118, 0, none⟩ = some (.string t107) ∧ w'.cell? ⟨gb118, 1, none⟩ = some (.int .i64 t108) ∧ w'.cell? ⟨gb118, 2, none⟩ = some (.slice Ao18 t109.length co18) ∧ w'.cell? ⟨gb118, 3, none⟩ = some (.slice Ao19 t112.length co19)) (ds := []) (upTo 0 10) (by kernel_rfl) rfl rfl (q4 BK118.out) (fun hHeld => ?_); refine with_tabW spec_DrawTopicPublish.tab4 spec_DrawTopicPublish.bits4 (fun HT_ HW_ => ?_)
      generalize w20.drew = w21 at HO111 HO114 BK101 BK118 HI106 HB hHeld ⊢
      refine pF2 2 14 spec_DrawTopicPublish.b0 ?_
      refine pT2 0 12 spec_DrawTopicPublish.b1 ?_ hHeld
      refine join_ (σ := Value × Addr × Value) 1 (upTo 9 10) (fun s_ => [(13, s_.1), (15, .int .i64 t126), (17, .int .i64 (rd y123 t126)), (18, s_.2.2), (19, .string (strOfNums y131)), (16, .pointer (some (s_.2.1.add (t126).toNat)))]) (fun s_ w' => (w'.cell? ⟨gb118, 0, none⟩ = some (.string t107) ∧ w'.cell? ⟨gb118, 1, none⟩ = some (.int .i64 t108) ∧ w'.cell? ⟨gb118, 2, none⟩ = some (.slice Ao18 t109.length co18) ∧ w'.cell? ⟨gb118, 3, none⟩ = some (.slice Ao19 t112.length co19)) ∧ (Kd.Q Kd.string 9 w' w.heap.size (fun _ => True) (.slice Ao18 t109.length co18) t109) ∧ (Kd.R k36 36 w' w.heap.size (fun _ => True) (.slice Ao19 t112.length co19) t112) ∧ (Kd.R (Kd.int .i64) 3 w' w.heap.size (fun _ => True) s_.1 y123) ∧ (Kd.R (Kd.int .u8) 5 w' w.heap.size (fun _ => True) s_.2.2 y131) ∧ (∃ c_, (s_.1 : Value) = .slice (some s_.2.1) y123.length c_) ∧ (w'.heap[gb101]? = some (.cells #[.string t107, .int .i64 t108, .slice Ao18 t109.length co18, .slice Ao19 t112.length co19] 26 (0, 0))) ∧ (w'.heap[gb118]? = some (.cells #[.string t107, .int .i64 t108, .slice Ao18 t109.length co18, .slice Ao19 t112.length co19] 26 (0, 0))) ∧ (IsS63 w w' g106 t102 t127 t128 t129) ∧ (Below w.heap.size w w')) ?_ ?_
      rotate_left
      ·
       intro hJ1_3_5_6_7_8
       refine join_ (σ := Value × Addr × Value) 2 (upTo 8 10) (fun s_ => [(13, s_.1), (15, .int .i64 t126), (17, .int .i64 (rd y123 t126)), (18, s_.2.2), (19, .string (strOfNums y131)), (16, .pointer (some (s_.2.1.add (t126).toNat)))]) (fun s_ w' => (w'.cell? ⟨gb118, 0, none⟩ = some (.string t107) ∧ w'.cell? ⟨gb118, 1, none⟩ = some (.int .i64 t108) ∧ w'.cell? ⟨gb118, 2, none⟩ = some (.slice Ao18 t109.length co18) ∧ w'.cell? ⟨gb118, 3, none⟩ = some (.slice Ao19 t112.length co19)) ∧ (Kd.Q Kd.string 9 w' w.heap.size (fun _ => True) (.slice Ao18 t109.length co18) t109) ∧ (Kd.R k36 36 w' w.heap.size (fun _ => True) (.slice Ao19 t112.length co19) t112) ∧ (Kd.R (Kd.int .i64) 3 w' w.heap.size (fun _ => True) s_.1 y123) ∧ (Kd.R (Kd.int .u8) 5 w' w.heap.size (fun _ => True) s_.2.2 y131) ∧ (∃ c_, (s_.1 : Value) = .slice (some s_.2.1) y123.length c_) ∧ (w'.heap[gb101]? = some (.cells #[.string (⟨#[]⟩ : ByteArray), .int .i64 0, .slice none 0 0, .slice none 0 0] 26 (0, 0))) ∧ (w'.heap[gb118]? = some (.cells #[.string t107, .int .i64 t108, .slice Ao18 t109.length co18, .slice Ao19 t112.length co19] 26 (0, 0))) ∧ (IsS63 w w' g106 t102 t127 t128 t129) ∧ (Below w.heap.size w w')) ?_ ?_
       rotate_left
       ·
        intro hJ1_3_5_6_7
        refine join_ (σ := Value × Addr × Value) 2 spec_DrawTopicPublish.b2 (fun s_ => [(13, s_.1), (15, .int .i64 t126), (17, .int .i64 (rd y123 t126)), (18, s_.2.2), (16, .pointer (some (s_.2.1.add (t126).toNat)))]) (fun s_ w' => (w'.cell? ⟨gb118, 0, none⟩ = some (.string t107) ∧ w'.cell? ⟨gb118, 1, none⟩ = some (.int .i64 t108) ∧ w'.cell? ⟨gb118, 2, none⟩ = some (.slice Ao18 t109.length co18) ∧ w'.cell? ⟨gb118, 3, none⟩ = some (.slice Ao19 t112.length co19)) ∧ (Kd.Q Kd.string 9 w' w.heap.size (fun _ => True) (.slice Ao18 t109.length co18) t109) ∧ (Kd.R k36 36 w' w.heap.size (fun _ => True) (.slice Ao19 t112.length co19) t112) ∧ (Kd.R (Kd.int .i64) 3 w' w.heap.size (fun _ => True) s_.1 y123) ∧ (Kd.R (Kd.int .u8) 5 w' w.heap.size (fun _ => True) s_.2.2 y131) ∧ (∃ c_, (s_.1 : Value) = .slice (some s_.2.1) y123.length c_) ∧ (w'.heap[gb101]? = some (.cells #[.string t107, .int .i64 t108, .slice Ao18 t109.length co18, .slice Ao19 t112.length co19] 26 (0, 0))) ∧ (w'.heap[gb118]? = some (.cells #[.string t107, .int .i64 t108, .slice Ao18 t109.length co18, .slice Ao19 t112.length co19] 26 (0, 0))) ∧ (IsS63 w w' g106 t102 t127 t128 t129) ∧ (Below w.heap.size w w')) ?_ ?_
        rotate_left
        ·
         intro hJ1_3_5_6_8
         refine join_ (σ := Value × Addr × Value) 3 (upTo 7 10) (fun s_ => [(13, s_.1), (15, .int .i64 t126), (17, .int .i64 (rd y123 t126)), (18, s_.2.2), (16, .pointer (some (s_.2.1.add (t126).toNat)))]) (fun s_ w' => (w'.cell? ⟨gb118, 0, none⟩ = some (.string t107) ∧ w'.cell? ⟨gb118, 1, none⟩ = some (.int .i64 t108) ∧ w'.cell? ⟨gb118, 2, none⟩ = some (.slice Ao18 t109.length co18) ∧ w'.cell? ⟨gb118, 3, none⟩ = some (.slice Ao19 t112.length co19)) ∧ (Kd.Q Kd.string 9 w' w.heap.size (fun _ => True) (.slice Ao18 t109.length co18) t109) ∧ (Kd.R k36 36 w' w.heap.size (fun _ => True) (.slice Ao19 t112.length co19) t112) ∧ (Kd.R (Kd.int .i64) 3 w' w.heap.size (fun _ => True) s_.1 y123) ∧ (Kd.R (Kd.int .u8) 5 w' w.heap.size (fun _ => True) s_.2.2 y131) ∧ (∃ c_, (s_.1 : Value) = .slice (some s_.2.1) y123.length c_) ∧ (w'.heap[gb101]? = some (.cells #[.string (⟨#[]⟩ : ByteArray), .int .i64 0, .slice none 0 0, .slice none 0 0] 26 (0, 0))) ∧ (w'.heap[gb118]? = some (.cells #[.string t107, .int .i64 t108, .slice Ao18 t109.length co18, .slice Ao19 t112.length co19] 26 (0, 0))) ∧ (IsS63 w w' g106 t102 t127 t128 t129) ∧ (Below w.heap.size w w')) ?_ ?_
         rotate_left
         ·
          intro hJ1_3_5_6
          refine join_ (σ := Value × Addr) 3 spec_DrawTopicPublish.b3 (fun s_ => [(13, s_.1), (15, .int .i64 t126), (17, .int .i64 (rd y123 t126)), (16, .pointer (some (s_.2.add (t126).toNat)))]) (fun s_ w' => (w'.cell? ⟨gb118, 0, none⟩ = some (.string t107) ∧ w'.cell? ⟨gb118, 1, none⟩ = some (.int .i64 t108) ∧ w'.cell? ⟨gb118, 2, none⟩ = some (.slice Ao18 t109.length co18) ∧ w'.cell? ⟨gb118, 3, none⟩ = some (.slice Ao19 t112.length co19)) ∧ (Kd.Q Kd.string 9 w' w.heap.size (fun _ => True) (.slice Ao18 t109.length co18) t109) ∧ (Kd.R k36 36 w' w.heap.size (fun _ => True) (.slice Ao19 t112.length co19) t112) ∧ (Kd.R (Kd.int .i64) 3 w' w.heap.size (fun _ => True) s_.1 y123) ∧ (∃ c_, (s_.1 : Value) = .slice (some s_.2) y123.length c_) ∧ (w'.heap[gb101]? = some (.cells #[.string t107, .int .i64 t108, .slice Ao18 t109.length co18, .slice Ao19 t112.length co19] 26 (0, 0))) ∧ (w'.heap[gb118]? = some (.cells #[.string t107, .int .i64 t108, .slice Ao18 t109.length co18, .slice Ao19 t112.length co19] 26 (0, 0))) ∧ (IsS63 w w' g106 t102 t127 t128 t129) ∧ (Below w.heap.size w w')) ?_ ?_
          rotate_left
          ·
           intro hJ1_3_5_8
           refine join_ (σ := Value × Addr) 4 (upTo 6 10) (fun s_ => [(13, s_.1), (15, .int .i64 t126), (17, .int .i64 (rd y123 t126)), (16, .pointer (some (s_.2.add (t126).toNat)))]) (fun s_ w' => (w'.cell? ⟨gb118, 0, none⟩ = some (.string t107) ∧ w'.cell? ⟨gb118, 1, none⟩ = some (.int .i64 t108) ∧ w'.cell? ⟨gb118, 2, none⟩ = some (.slice Ao18 t109.length co18) ∧ w'.cell? ⟨gb118, 3, none⟩ = some (.slice Ao19 t112.length co19)) ∧ (Kd.Q Kd.string 9 w' w.heap.size (fun _ => True) (.slice Ao18 t109.length co18) t109) ∧ (Kd.R k36 36 w' w.heap.size (fun _ => True) (.slice Ao19 t112.length co19) t112) ∧ (Kd.R (Kd.int .i64) 3 w' w.heap.size (fun _ => True) s_.1 y123) ∧ (∃ c_, (s_.1 : Value) = .slice (some s_.2) y123.length c_) ∧ (w'.heap[gb101]? = some (.cells #[.string (⟨#[]⟩ : ByteArray), .int .i64 0, .slice none 0 0, .slice none 0 0] 26 (0, 0))) ∧ (w'.heap[gb118]? = some (.cells #[.string t107, .int .i64 t108, .slice Ao18 t109.length co18, .slice Ao19 t112.length co19] 26 (0, 0))) ∧ (IsS63 w w' g106 t102 t127 t128 t129) ∧ (Below w.heap.size w w')) ?_ ?_
           rotate_left
           ·
            intro hJ1_3_5
            refine join_ (σ := Value × Addr) 4 spec_DrawTopicPublish.b4 (fun s_ => [(13, s_.1), (15, .int .i64 t126), (16, .pointer (some (s_.2.add (t126).toNat)))]) (fun s_ w' => (w'.cell? ⟨gb118, 0, none⟩ = some (.string t107) ∧ w'.cell? ⟨gb118, 1, none⟩ = some (.int .i64 t108) ∧ w'.cell? ⟨gb118, 2, none⟩ = some (.slice Ao18 t109.length co18) ∧ w'.cell? ⟨gb118, 3, none⟩ = some (.slice Ao19 t112.length co19)) ∧ (Kd.Q Kd.string 9 w' w.heap.size (fun _ => True) (.slice Ao18 t109.length co18) t109) ∧ (Kd.R k36 36 w' w.heap.size (fun _ => True) (.slice Ao19 t112.length co19) t112) ∧ (Kd.R (Kd.int .i64) 3 w' w.heap.size (fun _ => True) s_.1 y123) ∧ (∃ c_, (s_.1 : Value) = .slice (some s_.2) y123.length c_) ∧ (w'.heap[gb101]? = some (.cells #[.string t107, .int .i64 t108, .slice Ao18 t109.length co18, .slice Ao19 t112.length co19] 26 (0, 0))) ∧ (w'.heap[gb118]? = some (.cells #[.string t107, .int .i64 t108, .slice Ao18 t109.length co18, .slice Ao19 t112.length co19] 26 (0, 0))) ∧ (IsS63 w w' g106 t102 t127 t128 t129) ∧ (Below w.heap.size w w')) ?_ ?_
            rotate_left
            ·
             intro hJ1_3_8
             refine join_ (σ := Value × Addr) 5 (upTo 5 10) (fun s_ => [(13, s_.1), (15, .int .i64 t126), (16, .pointer (some (s_.2.add (t126).toNat)))]) (fun s_ w' => (w'.cell? ⟨gb118, 0, none⟩ = some (.string t107) ∧ w'.cell? ⟨gb118, 1, none⟩ = some (.int .i64 t108) ∧ w'.cell? ⟨gb118, 2, none⟩ = some (.slice Ao18 t109.length co18) ∧ w'.cell? ⟨gb118, 3, none⟩ = some (.slice Ao19 t112.length co19)) ∧ (Kd.Q Kd.string 9 w' w.heap.size (fun _ => True) (.slice Ao18 t109.length co18) t109) ∧ (Kd.R k36 36 w' w.heap.size (fun _ => True) (.slice Ao19 t112.length co19) t112) ∧ (Kd.R (Kd.int .i64) 3 w' w.heap.size (fun _ => True) s_.1 y123) ∧ (∃ c_, (s_.1 : Value) = .slice (some s_.2) y123.length c_) ∧ (w'.heap[gb101]? = some (.cells #[.string (⟨#[]⟩ : ByteArray), .int .i64 0, .slice none 0 0, .slice none 0 0] 26 (0, 0))) ∧ (w'.heap[gb118]? = some (.cells #[.string t107, .int .i64 t108, .slice Ao18 t109.length co18, .slice Ao19 t112.length co19] 26 (0, 0))) ∧ (IsS63 w w' g106 t102 t127 t128 t129) ∧ (Below w.heap.size w w')) ?_ ?_
             rotate_left
             ·
              intro hJ1_3
              refine join_ (σ := Unit) 6 spec_DrawTopicPublish.b5 (fun s_ => [(15, .int .i64 t126)]) (fun s_ w' => (w'.cell? ⟨gb118, 0, none⟩ = some (.string t107) ∧ w'.cell? ⟨gb118, 1, none⟩ = some (.int .i64 t108) ∧ w'.cell? ⟨gb118, 2, none⟩ = some (.slice Ao18 t109.length co18) ∧ w'.cell? ⟨gb118, 3, none⟩ = some (.slice Ao19 t112.length co19)) ∧ (Kd.Q Kd.string 9 w' w.heap.size (fun _ => True) (.slice Ao18 t109.length co18) t109) ∧ (Kd.R k36 36 w' w.heap.size (fun _ => True) (.slice Ao19 t112.length co19) t112) ∧ (w'.heap[gb101]? = some (.cells #[.string t107, .int .i64 t108, .slice Ao18 t109.length co18, .slice Ao19 t112.length co19] 26 (0, 0))) ∧ (w'.heap[gb118]? = some (.cells #[.string t107, .int .i64 t108, .slice Ao18 t109.length co18, .slice Ao19 t112.length co19] 26 (0, 0))) ∧ (IsS63 w w' g106 t102 t127 t128 t129) ∧ (Below w.heap.size w w')) ?_ ?_
              rotate_left
              ·
               intro hJ3_8
               refine join_ (σ := Value × Addr) 7 (upTo 3 10) (fun s_ => [(13, s_.1)]) (fun s_ w' => (w'.cell? ⟨gb118, 0, none⟩ = some (.string t107) ∧ w'.cell? ⟨gb118, 1, none⟩ = some (.int .i64 t108) ∧ w'.cell? ⟨gb118, 2, none⟩ = some (.slice Ao18 t109.length co18) ∧ w'.cell? ⟨gb118, 3, none⟩ = some (.slice Ao19 t112.length co19)) ∧ (Kd.Q Kd.string 9 w' w.heap.size (fun _ => True) (.slice Ao18 t109.length co18) t109) ∧ (Kd.R k36 36 w' w.heap.size (fun _ => True) (.slice Ao19 t112.length co19) t112) ∧ (Kd.R (Kd.int .i64) 3 w' w.heap.size (fun _ => True) s_.1 y123) ∧ (∃ c_, (s_.1 : Value) = .slice (some s_.2) y123.length c_) ∧ (w'.heap[gb101]? = some (.cells #[.string (⟨#[]⟩ : ByteArray), .int .i64 0, .slice none 0 0, .slice none 0 0] 26 (0, 0))) ∧ (w'.heap[gb118]? = some (.cells #[.string t107, .int .i64 t108, .slice Ao18 t109.length co18, .slice Ao19 t112.length co19] 26 (0, 0))) ∧ (IsS63 w w' g106 t102 t120 t121 t122) ∧ (Below w.heap.size w w')) ?_ ?_
               rotate_left
               ·
                intro hJ1
                refine join_ (σ := Unit) 7 spec_DrawTopicPublish.b6 (fun s_ => [(15, .int .i64 t126)]) (fun s_ w' => (w'.cell? ⟨gb118, 0, none⟩ = some (.string t107) ∧ w'.cell? ⟨gb118, 1, none⟩ = some (.int .i64 t108) ∧ w'.cell? ⟨gb118, 2, none⟩ = some (.slice Ao18 t109.length co18) ∧ w'.cell? ⟨gb118, 3, none⟩ = some (.slice Ao19 t112.length co19)) ∧ (Kd.Q Kd.string 9 w' w.heap.size (fun _ => True) (.slice Ao18 t109.length co18) t109) ∧ (Kd.R k36 36 w' w.heap.size (fun _ => True) (.slice Ao19 t112.length co19) t112) ∧ (w'.heap[gb101]? = some (.cells #[.string (⟨#[]⟩ : ByteArray), .int .i64 0, .slice none 0 0, .slice none 0 0] 26 (0, 0))) ∧ (w'.heap[gb118]? = some (.cells #[.string t107, .int .i64 t108, .slice Ao18 t109.length co18, .slice Ao19 t112.length co19] 26 (0, 0))) ∧ (IsS63 w w' g106 t102 t127 t128 t129) ∧ (Below w.heap.size w w')) ?_ ?_
                rotate_left
                ·
                 intro hJ3
                 refine two_ (i := 1) (j := 3) (Ni := some 13) (Nj := some 15) (upTo 3 10) spec_DrawTopicPublish.b6 rfl rfl rfl rfl (two_of HT_.out (by kernel_rfl)) (by decide) (by decide) (fun K hK => ?_) (fun K hK => ?_)
                 ·
                  skip
                  refine Kd.R_lit_step (Kd.int .i64) _ 3 ?hg (N := 13) ?hd (xs := ([0, 40, 41] : List Int)) (inner := [.int .i64 0, .int .i64 40, .int .i64 41]) (ok := fun _ => True) (okp := fun _ => True) ?hr ?hp (fun _ hk => hk) trivial (Below.refl _ _) (Nat.le_refl _) (by simp) ?_; (case hd => rfl); (case hg => rfl); (case hr => first | (go_simp; done) | (go_simp; rfl)); (case hp => exact (Reps.one (show Kd.M (Kd.int .i64) _ _ _ 0 [.int .i64 0] from rfl) (Reps.one (show Kd.M (Kd.int .i64) _ _ _ 40 [.int .i64 40] from rfl) (Reps.one (show Kd.M (Kd.int .i64) _ _ _ 41 [.int .i64 41] from rfl) (Reps.none _ _)))))
                  intro v124 w22 ho23 hb hg_ hnew_
                  clear hg_ hnew_
                  (first | rw [← Ny123.out] at ho23 | (simp only [Int.reduceToNat] at ho23; rw [← Ny123.out] at ho23))
                  have _ := AM (Kd.Q_below (qX HO111.out) hb)
                  have _ := AM (Kd.R_below (rX HO114.out) hb)
                  have _ := AM (Kd.R_lower ho23 (bZ (bI63_106_spec_DrawTopicPublish HB.out)))
                  have _ := AM (nB BK101.out hb)
                  have _ := AM (IsS63.below (iX63_6_spec_DrawTopicPublish HI106.out) hb)
                  have _ := AM (nB BK118.out hb)
                  have _ := AM (below_step (bI63_106_spec_DrawTopicPublish HB.out) hb)
                  clear HO111 HO114 BK101 HI106 BK118 HB
                  rename_i HO111 HO114 HO125 BK101 HI106 BK118 HB
                  clear hb ho23
                  obtain ⟨Ao24, co24, eo24⟩ := Kd.R_slice HO125.out
                  subst eo24
                  obtain ⟨ado24, fo24, _⟩ := Kd.at_int (Kd.R_reads' HO125.out).2.2 0 (by decide) (by rw [Ny123.out]; simp)
                  cases fo24
                  refine hK.out _ _ (q4 BK118.out) (fun hHeld => ?_)
                  clear hK K
                  refine norm_ (a' := ?_) ?_ ?_
                  rotate_left
                  ·
                   show Act.put _ (some 13) _ = _
                   simp only [Act.put, sA, sB, sC, i64_w, i32_w]
                   rfl
                  exact norm_ (by first | (simp only [putAll, Act.put, List.setIfInBounds_toArray, List.set_cons_zero, List.set_cons_succ]; done) | (simp only [putAll, Act.put, List.setIfInBounds_toArray, List.set_cons_zero, List.set_cons_succ]; rfl)) (hJ1 (.slice (some ado24) y123.length co24, ado24) _ ⟨hHeld, (qX HO111.out), (rX HO114.out), (rX HO125.out), ⟨_, rfl⟩, (kX BK101.out), (kX BK118.out), (iX63_6_spec_DrawTopicPublish HI106.out), (bI63_106_spec_DrawTopicPublish HB.out)⟩)
                 skip
                 refine goes_ Try.func21 (by kernel_rfl) rfl #[.pointer (some ⟨g106, 0, none⟩), .int .i64 3] (by rfl) rfl rfl (by (try simp only [mA, mB, mC]); first | done | rfl | (simp only [mD, mE]; rfl)) ?_
                 with_reducible refine (spec_l01Src_n.calls g106 t102 t120 t121 t122 3 t126 t127 t128 t129 w _ ?side1 ?side2 A6.out).mono ?_
                 (case side1 => exact (iX63_6_spec_DrawTopicPublish HI106.out))
                 (case side2 => exact (bI63_106_spec_DrawTopicPublish HB.out))
                 rintro e w22 ⟨rfl, hi, hb, hk⟩
                 refine ⟨_, rfl, ?_⟩
                 have _ := AM (kB hk BK101.out NB101_106.out (by simp))
                 have _ := AM (Kd.Q_mono (Kd.Q_keep (IsS63.apartQ (show IsS63 w _ g106 t102 t120 t121 t122 from iX63_6_spec_DrawTopicPublish HI106.out) (qX HO111.out) (by decide)) hk (fun _ h => h.2)) (fun _ h => h.1))
                 have _ := AM (Kd.R_mono (Kd.R_keep (IsS63.apart (show IsS63 w _ g106 t102 t120 t121 t122 from iX63_6_spec_DrawTopicPublish HI106.out) (rX HO114.out) (by decide)) hk (fun _ h => h.2)) (fun _ h => h.1))
                 have _ := AM (kB hk BK118.out NB118_106.out (by simp))
                 have _ := AM (hb)
                 have _ := AM (hi)
                 clear BK101 HO111 HO114 BK118 HB HI106
                 rename_i BK101 HO111 HO114 BK118 HB HI106
                 (try clear hb)
                 (try clear hb2)
                 (try clear hk)
                 (try clear hi)
                 refine hK.out _ _ (q4 BK118.out) (fun hHeld => ?_)
                 clear hK K
                 refine norm_ (a' := ?_) ?_ ?_
                 rotate_left
                 ·
                  show Act.put _ (some 15) _ = _
                  simp only [Act.put, sA, sB, sC, i64_w, i32_w]
                  rfl
                 exact norm_ (by first | (simp only [putAll, Act.put, List.setIfInBounds_toArray, List.set_cons_zero, List.set_cons_succ]; done) | (simp only [putAll, Act.put, List.setIfInBounds_toArray, List.set_cons_zero, List.set_cons_succ]; rfl)) (hJ3 () _ ⟨hHeld, (qX HO111.out), (rX HO114.out), (kX BK101.out), (kX BK118.out), (iX63_6_spec_DrawTopicPublish HI106.out), (bI63_106_spec_DrawTopicPublish HB.out)⟩)
                skip
                rintro _ w23 ⟨hS_, h0_, h1_, h2_, h3_, h4_, h5_⟩
                have _ : Aside0 (Kd.Q Kd.string 9 w23 w.heap.size (fun _ => True) (.slice Ao18 t109.length co18) t109) := ⟨h0_⟩
                have _ : Aside0 (Kd.R k36 36 w23 w.heap.size (fun _ => True) (.slice Ao19 t112.length co19) t112) := ⟨h1_⟩
                have _ : Aside0 (w23.heap[gb101]? = some (.cells #[.string (⟨#[]⟩ : ByteArray), .int .i64 0, .slice none 0 0, .slice none 0 0] 26 (0, 0))) := ⟨h2_⟩
                have _ : Aside0 (w23.heap[gb118]? = some (.cells #[.string t107, .int .i64 t108, .slice Ao18 t109.length co18, .slice Ao19 t112.length co19] 26 (0, 0))) := ⟨h3_⟩
                have _ : Aside0 (IsS63 w w23 g106 t102 t127 t128 t129) := ⟨h4_⟩
                have _ : Aside0 (Below w.heap.size w w23) := ⟨h5_⟩
                clear HO111 HO114 BK101 BK118 HI106 HB h0_ h1_ h2_ h3_ h4_ h5_
                rename_i HO111 HO114 BK101 BK118 HI106 HB
                have hHeld : w23.cell? ⟨gb118, 0, none⟩ = some (.string t107) ∧ w23.cell? ⟨gb118, 1, none⟩ = some (.int .i64 t108) ∧ w23.cell? ⟨gb118, 2, none⟩ = some (.slice Ao18 t109.length co18) ∧ w23.cell? ⟨gb118, 3, none⟩ = some (.slice Ao19 t112.length co19) := hS_
                refine norm_ (a' := ?_) ?_ ?_
                rotate_left
                ·
                 simp only [putAll, Act.put, List.setIfInBounds_toArray, List.set_cons_zero, List.set_cons_succ]
                 rfl
                refine two_ (i := 1) (j := 8) (Ni := some 13) (Nj := none) (upTo 4 10) spec_DrawTopicPublish.b5 rfl rfl rfl rfl (two_of HT_.out (by kernel_rfl)) (by decide) (by decide) (fun K hK => ?_) (fun K hK => ?_)
                ·
                 skip
                 refine Kd.R_lit_step (Kd.int .i64) _ 3 ?hg (N := 13) ?hd (xs := ([0, 40, 41] : List Int)) (inner := [.int .i64 0, .int .i64 40, .int .i64 41]) (ok := fun _ => True) (okp := fun _ => True) ?hr ?hp (fun _ hk => hk) trivial (Below.refl _ _) (Nat.le_refl _) (by simp) ?_; (case hd => rfl); (case hg => rfl); (case hr => first | (go_simp; done) | (go_simp; rfl)); (case hp => exact (Reps.one (show Kd.M (Kd.int .i64) _ _ _ 0 [.int .i64 0] from rfl) (Reps.one (show Kd.M (Kd.int .i64) _ _ _ 40 [.int .i64 40] from rfl) (Reps.one (show Kd.M (Kd.int .i64) _ _ _ 41 [.int .i64 41] from rfl) (Reps.none _ _)))))
                 intro v124 w24 ho25 hb hg_ hnew_
                 clear hg_ hnew_
                 (first | rw [← Ny123.out] at ho25 | (simp only [Int.reduceToNat] at ho25; rw [← Ny123.out] at ho25))
                 have _ := AM (Kd.Q_below (qX HO111.out) hb)
                 have _ := AM (Kd.R_below (rX HO114.out) hb)
                 have _ := AM (Kd.R_lower ho25 (bZ (bI63_106_spec_DrawTopicPublish HB.out)))
                 have _ := AM (nB BK101.out hb)
                 have _ := AM (IsS63.below (iX63_6_spec_DrawTopicPublish HI106.out) hb)
                 have _ := AM (nB BK118.out hb)
                 have _ := AM (below_step (bI63_106_spec_DrawTopicPublish HB.out) hb)
                 clear HO111 HO114 BK101 HI106 BK118 HB
                 rename_i HO111 HO114 HO125 BK101 HI106 BK118 HB
                 clear hb ho25
                 obtain ⟨Ao26, co26, eo26⟩ := Kd.R_slice HO125.out
                 subst eo26
                 obtain ⟨ado26, fo26, _⟩ := Kd.at_int (Kd.R_reads' HO125.out).2.2 0 (by decide) (by rw [Ny123.out]; simp)
                 cases fo26
                 refine hK.out _ _ (q4 BK118.out) (fun hHeld => ?_)
                 clear hK K
                 refine norm_ (a' := ?_) ?_ ?_
                 rotate_left
                 ·
                  show Act.put _ (some 13) _ = _
                  simp only [Act.put, sA, sB, sC, i64_w, i32_w]
                  rfl
                 refine pF 4 5 10 16 ?_
                 exact norm_ (by first | (simp only [putAll, Act.put, List.setIfInBounds_toArray, List.set_cons_zero, List.set_cons_succ]; done) | (simp only [putAll, Act.put, List.setIfInBounds_toArray, List.set_cons_zero, List.set_cons_succ]; rfl)) (hJ1_3 (.slice (some ado26) y123.length co26, ado26) _ ⟨hHeld, (qX HO111.out), (rX HO114.out), (rX HO125.out), ⟨_, rfl⟩, (kX BK101.out), (kX BK118.out), (iX63_6_spec_DrawTopicPublish HI106.out), (bI63_106_spec_DrawTopicPublish HB.out)⟩)
                skip
                have hs24 : w23.cell? ⟨gb101, 0, none⟩ = some (.string (⟨#[]⟩ : ByteArray)) := (kC BK101.out 0).trans rfl
                have hfs24 := fZ BK101.out 0
                have hns24_1 := NB118_101.out
                have hms24_1 := NB101_118.out
                have hs25 : w23.cell? ⟨gb101, 1, none⟩ = some (.int .i64 0) := (kC BK101.out 1).trans rfl
                have hfs25 := fZ BK101.out 1
                have hns25_1 := NB118_101.out
                have hms25_1 := NB101_118.out
                have hs26 : w23.cell? ⟨gb101, 2, none⟩ = some (.slice none 0 0) := (kC BK101.out 2).trans rfl
                have hfs26 := fZ BK101.out 2
                have hns26_1 := NB118_101.out
                have hms26_1 := NB101_118.out
                have hs27 : w23.cell? ⟨gb101, 3, none⟩ = some (.slice none 0 0) := (kC BK101.out 3).trans rfl
                have hfs27 := fZ BK101.out 3
                have hns27_1 := NB118_101.out
                have hms27_1 := NB101_118.out
                refine skip_ (w1 := ?_) (by rfl) rfl ?_ ?_
                rotate_left
                ·
                 go_simp
                 rfl
                refine hK.out _ _ ⟨(cT NB118_101.out ((cT NB118_101.out ((cT NB118_101.out ((cT NB118_101.out (hHeld.1)))))))), (cT NB118_101.out ((cT NB118_101.out ((cT NB118_101.out ((cT NB118_101.out (hHeld.2.1)))))))), (cT NB118_101.out ((cT NB118_101.out ((cT NB118_101.out ((cT NB118_101.out (hHeld.2.2.1)))))))), (cT NB118_101.out ((cT NB118_101.out ((cT NB118_101.out ((cT NB118_101.out (hHeld.2.2.2))))))))⟩ (fun hHeld => ?_)
                clear hK K
                exact norm_ (by first | (simp only [putAll, Act.put, List.setIfInBounds_toArray, List.set_cons_zero, List.set_cons_succ]; done) | (simp only [putAll, Act.put, List.setIfInBounds_toArray, List.set_cons_zero, List.set_cons_succ]; rfl)) (hJ3_8 () _ ⟨hHeld, (by (with_reducible repeat (first | apply Kd.Q_alloc | apply Kd.Q_drewN | apply Kd.Q_drew)); exact Qf4 HO111.out BK101.out (by decide) (fun _ hk => trivial)), (by (with_reducible repeat (first | apply rA | apply rN | apply rD)); exact Rf4 HO114.out BK101.out (by decide) (fun _ hk => trivial)), (by refine kP (cs := #[.string t107, .int .i64 t108, .slice Ao18 t109.length co18, .slice none 0 0]) 3 ?_; refine kP (cs := #[.string t107, .int .i64 t108, .slice none 0 0, .slice none 0 0]) 2 ?_; refine kP (cs := #[.string t107, .int .i64 0, .slice none 0 0, .slice none 0 0]) 1 ?_; refine kP (cs := #[.string (⟨#[]⟩ : ByteArray), .int .i64 0, .slice none 0 0, .slice none 0 0]) 0 ?_; (with_reducible repeat (first | apply kN | apply kD | apply kA)); exact BK101.out), (by (iterate 4 refine kF NB118_101.out ?_); (with_reducible repeat (first | apply kN | apply kD | apply kA)); exact BK118.out), (iX63_6_spec_DrawTopicPublish HI106.out), (bI63_106_spec_DrawTopicPublish HB.out)⟩)
               skip
               rintro ⟨v124, adz_v124⟩ w25 ⟨hS_, h0_, h1_, h2_, h3_, h4_, h5_, h6_, h7_⟩
               have _ : Aside0 (Kd.Q Kd.string 9 w25 w.heap.size (fun _ => True) (.slice Ao18 t109.length co18) t109) := ⟨h0_⟩
               have _ : Aside0 (Kd.R k36 36 w25 w.heap.size (fun _ => True) (.slice Ao19 t112.length co19) t112) := ⟨h1_⟩
               have _ : Aside0 (Kd.R (Kd.int .i64) 3 w25 w.heap.size (fun _ => True) v124 y123) := ⟨h2_⟩
               have _ : Aside0 (∃ c_, (v124 : Value) = .slice (some adz_v124) y123.length c_) := ⟨h3_⟩
               have _ : Aside0 (w25.heap[gb101]? = some (.cells #[.string (⟨#[]⟩ : ByteArray), .int .i64 0, .slice none 0 0, .slice none 0 0] 26 (0, 0))) := ⟨h4_⟩
               have _ : Aside0 (w25.heap[gb118]? = some (.cells #[.string t107, .int .i64 t108, .slice Ao18 t109.length co18, .slice Ao19 t112.length co19] 26 (0, 0))) := ⟨h5_⟩
               have _ : Aside0 (IsS63 w w25 g106 t102 t120 t121 t122) := ⟨h6_⟩
               have _ : Aside0 (Below w.heap.size w w25) := ⟨h7_⟩
               clear HO111 HO114 BK101 BK118 HI106 HB h0_ h1_ h2_ h3_ h4_ h5_ h6_ h7_
               rename_i HO111 HO114 HO125 HA_HO125 BK101 BK118 HI106 HB
               have hHeld : w25.cell? ⟨gb118, 0, none⟩ = some (.string t107) ∧ w25.cell? ⟨gb118, 1, none⟩ = some (.int .i64 t108) ∧ w25.cell? ⟨gb118, 2, none⟩ = some (.slice Ao18 t109.length co18) ∧ w25.cell? ⟨gb118, 3, none⟩ = some (.slice Ao19 t112.length co19) := hS_
               obtain ⟨co26, eo26⟩ := HA_HO125.out
               clear HA_HO125
               subst eo26
               refine norm_ (a' := ?_) ?_ ?_
               rotate_left
               ·
                simp only [putAll, Act.put, List.setIfInBounds_toArray, List.set_cons_zero, List.set_cons_succ]
                rfl
               refine one_ (i := 3) (N := some 15) (upTo 4 10) rfl rfl (one_of HT_.out (by kernel_rfl)) (by decide) (fun K hK => ?_)
               refine goes_ Try.func21 (by kernel_rfl) rfl #[.pointer (some ⟨g106, 0, none⟩), .int .i64 3] (by rfl) rfl rfl (by (try simp only [mA, mB, mC]); first | done | rfl | (simp only [mD, mE]; rfl)) ?_
               with_reducible refine (spec_l01Src_n.calls g106 t102 t120 t121 t122 3 t126 t127 t128 t129 w _ ?side1 ?side2 A6.out).mono ?_
               (case side1 => exact (iX63_6_spec_DrawTopicPublish HI106.out))
               (case side2 => exact (bI63_106_spec_DrawTopicPublish HB.out))
               rintro e w27 ⟨rfl, hi, hb, hk⟩
               refine ⟨_, rfl, ?_⟩
               have _ := AM (kB hk BK101.out NB101_106.out (by simp))
               have _ := AM (Kd.Q_mono (Kd.Q_keep (IsS63.apartQ (show IsS63 w _ g106 t102 t120 t121 t122 from iX63_6_spec_DrawTopicPublish HI106.out) (qX HO111.out) (by decide)) hk (fun _ h => h.2)) (fun _ h => h.1))
               have _ := AM (Kd.R_mono (Kd.R_keep (IsS63.apart (show IsS63 w _ g106 t102 t120 t121 t122 from iX63_6_spec_DrawTopicPublish HI106.out) (rX HO114.out) (by decide)) hk (fun _ h => h.2)) (fun _ h => h.1))
               have _ := AM (kB hk BK118.out NB118_106.out (by simp))
               have _ := AM (Kd.R_mono (Kd.R_keep (IsS63.apart (show IsS63 w _ g106 t102 t120 t121 t122 from iX63_6_spec_DrawTopicPublish HI106.out) (rX HO125.out) (by decide)) hk (fun _ h => h.2)) (fun _ h => h.1))
               have _ := AM (hb)
               have _ := AM (hi)
               clear BK101 HO111 HO114 BK118 HO125 HB HI106
               rename_i BK101 HO111 HO114 BK118 HO125 HB HI106
               (try clear hb)
               (try clear hb2)
               (try clear hk)
               (try clear hi)
               refine hK.out _ _ (q4 BK118.out) (fun hHeld => ?_)
               clear hK K
               refine norm_ (a' := ?_) ?_ ?_
               rotate_left
               ·
                show Act.put _ (some 15) _ = _
                simp only [Act.put, sA, sB, sC, i64_w, i32_w]
                rfl
               refine pF 4 5 10 16 ?_
               exact norm_ (by first | (simp only [putAll, Act.put, List.setIfInBounds_toArray, List.set_cons_zero, List.set_cons_succ]; done) | (simp only [putAll, Act.put, List.setIfInBounds_toArray, List.set_cons_zero, List.set_cons_succ]; rfl)) (hJ1_3 (.slice (some adz_v124) y123.length co26, adz_v124) _ ⟨hHeld, (qX HO111.out), (rX HO114.out), (rX HO125.out), ⟨_, rfl⟩, (kX BK101.out), (kX BK118.out), (iX63_6_spec_DrawTopicPublish HI106.out), (bI63_106_spec_DrawTopicPublish HB.out)⟩)
              skip
              rintro _ w27 ⟨hS_, h0_, h1_, h2_, h3_, h4_, h5_⟩
              have _ : Aside0 (Kd.Q Kd.string 9 w27 w.heap.size (fun _ => True) (.slice Ao18 t109.length co18) t109) := ⟨h0_⟩
              have _ : Aside0 (Kd.R k36 36 w27 w.heap.size (fun _ => True) (.slice Ao19 t112.length co19) t112) := ⟨h1_⟩
              have _ : Aside0 (w27.heap[gb101]? = some (.cells #[.string t107, .int .i64 t108, .slice Ao18 t109.length co18, .slice Ao19 t112.length co19] 26 (0, 0))) := ⟨h2_⟩
              have _ : Aside0 (w27.heap[gb118]? = some (.cells #[.string t107, .int .i64 t108, .slice Ao18 t109.length co18, .slice Ao19 t112.length co19] 26 (0, 0))) := ⟨h3_⟩
              have _ : Aside0 (IsS63 w w27 g106 t102 t127 t128 t129) := ⟨h4_⟩
              have _ : Aside0 (Below w.heap.size w w27) := ⟨h5_⟩
              clear HO111 HO114 BK101 BK118 HI106 HB h0_ h1_ h2_ h3_ h4_ h5_
              rename_i HO111 HO114 BK101 BK118 HI106 HB
              have hHeld : w27.cell? ⟨gb118, 0, none⟩ = some (.string t107) ∧ w27.cell? ⟨gb118, 1, none⟩ = some (.int .i64 t108) ∧ w27.cell? ⟨gb118, 2, none⟩ = some (.slice Ao18 t109.length co18) ∧ w27.cell? ⟨gb118, 3, none⟩ = some (.slice Ao19 t112.length co19) := hS_
              refine norm_ (a' := ?_) ?_ ?_
              rotate_left
              ·
               simp only [putAll, Act.put, List.setIfInBounds_toArray, List.set_cons_zero, List.set_cons_succ]
               rfl
              refine one_ (i := 1) (N := some 13) spec_DrawTopicPublish.b7 rfl rfl (one_of HT_.out (by kernel_rfl)) (by decide) (fun K hK => ?_)
              refine Kd.R_lit_step (Kd.int .i64) _ 3 ?hg (N := 13) ?hd (xs := ([0, 40, 41] : List Int)) (inner := [.int .i64 0, .int .i64 40, .int .i64 41]) (ok := fun _ => True) (okp := fun _ => True) ?hr ?hp (fun _ hk => hk) trivial (Below.refl _ _) (Nat.le_refl _) (by simp) ?_; (case hd => rfl); (case hg => rfl); (case hr => first | (go_simp; done) | (go_simp; rfl)); (case hp => exact (Reps.one (show Kd.M (Kd.int .i64) _ _ _ 0 [.int .i64 0] from rfl) (Reps.one (show Kd.M (Kd.int .i64) _ _ _ 40 [.int .i64 40] from rfl) (Reps.one (show Kd.M (Kd.int .i64) _ _ _ 41 [.int .i64 41] from rfl) (Reps.none _ _)))))
              intro v124 w28 ho29 hb hg_ hnew_
              clear hg_ hnew_
              (first | rw [← Ny123.out] at ho29 | (simp only [Int.reduceToNat] at ho29; rw [← Ny123.out] at ho29))
              have _ := AM (Kd.Q_below (qX HO111.out) hb)
              have _ := AM (Kd.R_below (rX HO114.out) hb)
              have _ := AM (Kd.R_lower ho29 (bZ (bI63_106_spec_DrawTopicPublish HB.out)))
              have _ := AM (nB BK101.out hb)
              have _ := AM (IsS63.below (iX63_6_spec_DrawTopicPublish HI106.out) hb)
              have _ := AM (nB BK118.out hb)
              have _ := AM (below_step (bI63_106_spec_DrawTopicPublish HB.out) hb)
              clear HO111 HO114 BK101 HI106 BK118 HB
              rename_i HO111 HO114 HO125 BK101 HI106 BK118 HB
              clear hb ho29
              obtain ⟨Ao30, co30, eo30⟩ := Kd.R_slice HO125.out
              subst eo30
              obtain ⟨ado30, fo30, _⟩ := Kd.at_int (Kd.R_reads' HO125.out).2.2 0 (by decide) (by rw [Ny123.out]; simp)
              cases fo30
              refine hK.out _ _ (q4 BK118.out) (fun hHeld => ?_)
              clear hK K
              refine norm_ (a' := ?_) ?_ ?_
              rotate_left
              ·
               show Act.put _ (some 13) _ = _
               simp only [Act.put, sA, sB, sC, i64_w, i32_w]
               rfl
              refine pF2 4 16 spec_DrawTopicPublish.b4 ?_
              exact norm_ (by first | (simp only [putAll, Act.put, List.setIfInBounds_toArray, List.set_cons_zero, List.set_cons_succ]; done) | (simp only [putAll, Act.put, List.setIfInBounds_toArray, List.set_cons_zero, List.set_cons_succ]; rfl)) (hJ1_3_8 (.slice (some ado30) y123.length co30, ado30) _ ⟨hHeld, (qX HO111.out), (rX HO114.out), (rX HO125.out), ⟨_, rfl⟩, (kX BK101.out), (kX BK118.out), (iX63_6_spec_DrawTopicPublish HI106.out), (bI63_106_spec_DrawTopicPublish HB.out)⟩)
             skip
             rintro ⟨v124, adz_v124⟩ w26 ⟨hS_, h0_, h1_, h2_, h3_, h4_, h5_, h6_, h7_⟩
             have _ : Aside0 (Kd.Q Kd.string 9 w26 w.heap.size (fun _ => True) (.slice Ao18 t109.length co18) t109) := ⟨h0_⟩
             have _ : Aside0 (Kd.R k36 36 w26 w.heap.size (fun _ => True) (.slice Ao19 t112.length co19) t112) := ⟨h1_⟩
             have _ : Aside0 (Kd.R (Kd.int .i64) 3 w26 w.heap.size (fun _ => True) v124 y123) := ⟨h2_⟩
             have _ : Aside0 (∃ c_, (v124 : Value) = .slice (some adz_v124) y123.length c_) := ⟨h3_⟩
             have _ : Aside0 (w26.heap[gb101]? = some (.cells #[.string (⟨#[]⟩ : ByteArray), .int .i64 0, .slice none 0 0, .slice none 0 0] 26 (0, 0))) := ⟨h4_⟩
             have _ : Aside0 (w26.heap[gb118]? = some (.cells #[.string t107, .int .i64 t108, .slice Ao18 t109.length co18, .slice Ao19 t112.length co19] 26 (0, 0))) := ⟨h5_⟩
             have _ : Aside0 (IsS63 w w26 g106 t102 t127 t128 t129) := ⟨h6_⟩
             have _ : Aside0 (Below w.heap.size w w26) := ⟨h7_⟩
             clear HO111 HO114 BK101 BK118 HI106 HB h0_ h1_ h2_ h3_ h4_ h5_ h6_ h7_
             rename_i HO111 HO114 HO125 HA_HO125 BK101 BK118 HI106 HB
             have hHeld : w26.cell? ⟨gb118, 0, none⟩ = some (.string t107) ∧ w26.cell? ⟨gb118, 1, none⟩ = some (.int .i64 t108) ∧ w26.cell? ⟨gb118, 2, none⟩ = some (.slice Ao18 t109.length co18) ∧ w26.cell? ⟨gb118, 3, none⟩ = some (.slice Ao19 t112.length co19) := hS_
             obtain ⟨co27, eo27⟩ := HA_HO125.out
             clear HA_HO125
             subst eo27
             refine norm_ (a' := ?_) ?_ ?_
             rotate_left
             ·
              simp only [putAll, Act.put, List.setIfInBounds_toArray, List.set_cons_zero, List.set_cons_succ]
              rfl
             refine two_ (i := 5) (j := 8) (Ni := some 17) (Nj := none) (upTo 6 10) spec_DrawTopicPublish.b4 rfl rfl rfl rfl (two_of HT_.out (by kernel_rfl)) (by decide) (by decide) (fun K hK => ?_) (fun K hK => ?_)
             ·
              skip
              (have p130 : 0 ≤ (t126 : Int) := of_decide_eq_true (by assumption); have q130 : t126 < (y123.length : Int) := of_decide_eq_true (by assumption); obtain ⟨ad130, e130, hx130_0⟩ := Kd.at_int (Kd.R_reads' HO125.out).2.2 t126 p130 q130; obtain rfl : adz_v124 = ad130 := (by injection e130))
              refine value_ (w1 := ?_) (v := ?_) (by rfl) rfl ?_ ?_
              rotate_left 2
              ·
               go_simp
               constructor
               ·
                rfl
               rfl
              clear hx130_0
              refine hK.out _ _ (q4 BK118.out) (fun hHeld => ?_)
              clear hK K
              refine norm_ (a' := ?_) ?_ ?_
              rotate_left
              ·
               show Act.put _ (some 17) _ = _
               simp only [Act.put, sA, sB, sC, i64_w, i32_w]
               rfl
              exact norm_ (by first | (simp only [putAll, Act.put, List.setIfInBounds_toArray, List.set_cons_zero, List.set_cons_succ]; done) | (simp only [putAll, Act.put, List.setIfInBounds_toArray, List.set_cons_zero, List.set_cons_succ]; rfl)) (hJ1_3_5 (.slice (some adz_v124) y123.length co27, adz_v124) _ ⟨hHeld, (qX HO111.out), (rX HO114.out), (rX HO125.out), ⟨_, rfl⟩, (kX BK101.out), (kX BK118.out), (iX63_6_spec_DrawTopicPublish HI106.out), (bI63_106_spec_DrawTopicPublish HB.out)⟩)
             skip
             have hs28 : w26.cell? ⟨gb101, 0, none⟩ = some (.string (⟨#[]⟩ : ByteArray)) := (kC BK101.out 0).trans rfl
             have hfs28 := fZ BK101.out 0
             have hns28_1 := NB118_101.out
             have hms28_1 := NB101_118.out
             have hs29 : w26.cell? ⟨gb101, 1, none⟩ = some (.int .i64 0) := (kC BK101.out 1).trans rfl
             have hfs29 := fZ BK101.out 1
             have hns29_1 := NB118_101.out
             have hms29_1 := NB101_118.out
             have hs30 : w26.cell? ⟨gb101, 2, none⟩ = some (.slice none 0 0) := (kC BK101.out 2).trans rfl
             have hfs30 := fZ BK101.out 2
             have hns30_1 := NB118_101.out
             have hms30_1 := NB101_118.out
             have hs31 : w26.cell? ⟨gb101, 3, none⟩ = some (.slice none 0 0) := (kC BK101.out 3).trans rfl
             have hfs31 := fZ BK101.out 3
             have hns31_1 := NB118_101.out
             have hms31_1 := NB101_118.out
             refine skip_ (w1 := ?_) (by rfl) rfl ?_ ?_
             rotate_left
             ·
              go_simp
              rfl
             refine hK.out _ _ ⟨(cT NB118_101.out ((cT NB118_101.out ((cT NB118_101.out ((cT NB118_101.out (hHeld.1)))))))), (cT NB118_101.out ((cT NB118_101.out ((cT NB118_101.out ((cT NB118_101.out (hHeld.2.1)))))))), (cT NB118_101.out ((cT NB118_101.out ((cT NB118_101.out ((cT NB118_101.out (hHeld.2.2.1)))))))), (cT NB118_101.out ((cT NB118_101.out ((cT NB118_101.out ((cT NB118_101.out (hHeld.2.2.2))))))))⟩ (fun hHeld => ?_)
             clear hK K
             exact norm_ (by first | (simp only [putAll, Act.put, List.setIfInBounds_toArray, List.set_cons_zero, List.set_cons_succ]; done) | (simp only [putAll, Act.put, List.setIfInBounds_toArray, List.set_cons_zero, List.set_cons_succ]; rfl)) (hJ1_3_8 (.slice (some adz_v124) y123.length co27, adz_v124) _ ⟨hHeld, (by (with_reducible repeat (first | apply Kd.Q_alloc | apply Kd.Q_drewN | apply Kd.Q_drew)); exact Qf4 HO111.out BK101.out (by decide) (fun _ hk => trivial)), (by (with_reducible repeat (first | apply rA | apply rN | apply rD)); exact Rf4 HO114.out BK101.out (by decide) (fun _ hk => trivial)), (by (with_reducible repeat (first | apply rA | apply rN | apply rD)); exact Rf4 HO125.out BK101.out (by decide) (fun _ hk => trivial)), ⟨_, rfl⟩, (by refine kP (cs := #[.string t107, .int .i64 t108, .slice Ao18 t109.length co18, .slice none 0 0]) 3 ?_; refine kP (cs := #[.string t107, .int .i64 t108, .slice none 0 0, .slice none 0 0]) 2 ?_; refine kP (cs := #[.string t107, .int .i64 0, .slice none 0 0, .slice none 0 0]) 1 ?_; refine kP (cs := #[.string (⟨#[]⟩ : ByteArray), .int .i64 0, .slice none 0 0, .slice none 0 0]) 0 ?_; (with_reducible repeat (first | apply kN | apply kD | apply kA)); exact BK101.out), (by (iterate 4 refine kF NB118_101.out ?_); (with_reducible repeat (first | apply kN | apply kD | apply kA)); exact BK118.out), (iX63_6_spec_DrawTopicPublish HI106.out), (bI63_106_spec_DrawTopicPublish HB.out)⟩)
            skip
            rintro ⟨v124, adz_v124⟩ w30 ⟨hS_, h0_, h1_, h2_, h3_, h4_, h5_, h6_, h7_⟩
            have _ : Aside0 (Kd.Q Kd.string 9 w30 w.heap.size (fun _ => True) (.slice Ao18 t109.length co18) t109) := ⟨h0_⟩
            have _ : Aside0 (Kd.R k36 36 w30 w.heap.size (fun _ => True) (.slice Ao19 t112.length co19) t112) := ⟨h1_⟩
            have _ : Aside0 (Kd.R (Kd.int .i64) 3 w30 w.heap.size (fun _ => True) v124 y123) := ⟨h2_⟩
            have _ : Aside0 (∃ c_, (v124 : Value) = .slice (some adz_v124) y123.length c_) := ⟨h3_⟩
            have _ : Aside0 (w30.heap[gb101]? = some (.cells #[.string t107, .int .i64 t108, .slice Ao18 t109.length co18, .slice Ao19 t112.length co19] 26 (0, 0))) := ⟨h4_⟩
            have _ : Aside0 (w30.heap[gb118]? = some (.cells #[.string t107, .int .i64 t108, .slice Ao18 t109.length co18, .slice Ao19 t112.length co19] 26 (0, 0))) := ⟨h5_⟩
            have _ : Aside0 (IsS63 w w30 g106 t102 t127 t128 t129) := ⟨h6_⟩
            have _ : Aside0 (Below w.heap.size w w30) := ⟨h7_⟩
            clear HO111 HO114 BK101 BK118 HI106 HB h0_ h1_ h2_ h3_ h4_ h5_ h6_ h7_
            rename_i HO111 HO114 HO125 HA_HO125 BK101 BK118 HI106 HB
            have hHeld : w30.cell? ⟨gb118, 0, none⟩ = some (.string t107) ∧ w30.cell? ⟨gb118, 1, none⟩ = some (.int .i64 t108) ∧ w30.cell? ⟨gb118, 2, none⟩ = some (.slice Ao18 t109.length co18) ∧ w30.cell? ⟨gb118, 3, none⟩ = some (.slice Ao19 t112.length co19) := hS_
            obtain ⟨co31, eo31⟩ := HA_HO125.out
            clear HA_HO125
            subst eo31
            refine norm_ (a' := ?_) ?_ ?_
            rotate_left
            ·
             simp only [putAll, Act.put, List.setIfInBounds_toArray, List.set_cons_zero, List.set_cons_succ]
             rfl
            refine one_ (i := 5) (N := some 17) spec_DrawTopicPublish.b3 rfl rfl (one_of HT_.out (by kernel_rfl)) (by decide) (fun K hK => ?_)
            (have p130 : 0 ≤ (t126 : Int) := of_decide_eq_true (by assumption); have q130 : t126 < (y123.length : Int) := of_decide_eq_true (by assumption); obtain ⟨ad130, e130, hx130_0⟩ := Kd.at_int (Kd.R_reads' HO125.out).2.2 t126 p130 q130; obtain rfl : adz_v124 = ad130 := (by injection e130))
            refine value_ (w1 := ?_) (v := ?_) (by rfl) rfl ?_ ?_
            rotate_left 2
            ·
             go_simp
             constructor
             ·
              rfl
             rfl
            clear hx130_0
            refine hK.out _ _ (q4 BK118.out) (fun hHeld => ?_)
            clear hK K
            refine norm_ (a' := ?_) ?_ ?_
            rotate_left
            ·
             show Act.put _ (some 17) _ = _
             simp only [Act.put, sA, sB, sC, i64_w, i32_w]
             rfl
            exact norm_ (by first | (simp only [putAll, Act.put, List.setIfInBounds_toArray, List.set_cons_zero, List.set_cons_succ]; done) | (simp only [putAll, Act.put, List.setIfInBounds_toArray, List.set_cons_zero, List.set_cons_succ]; rfl)) (hJ1_3_5_8 (.slice (some adz_v124) y123.length co31, adz_v124) _ ⟨hHeld, (qX HO111.out), (rX HO114.out), (rX HO125.out), ⟨_, rfl⟩, (kX BK101.out), (kX BK118.out), (iX63_6_spec_DrawTopicPublish HI106.out), (bI63_106_spec_DrawTopicPublish HB.out)⟩)
           skip
           rintro ⟨v124, adz_v124⟩ w26 ⟨hS_, h0_, h1_, h2_, h3_, h4_, h5_, h6_, h7_⟩
           have _ : Aside0 (Kd.Q Kd.string 9 w26 w.heap.size (fun _ => True) (.slice Ao18 t109.length co18) t109) := ⟨h0_⟩
           have _ : Aside0 (Kd.R k36 36 w26 w.heap.size (fun _ => True) (.slice Ao19 t112.length co19) t112) := ⟨h1_⟩
           have _ : Aside0 (Kd.R (Kd.int .i64) 3 w26 w.heap.size (fun _ => True) v124 y123) := ⟨h2_⟩
           have _ : Aside0 (∃ c_, (v124 : Value) = .slice (some adz_v124) y123.length c_) := ⟨h3_⟩
           have _ : Aside0 (w26.heap[gb101]? = some (.cells #[.string (⟨#[]⟩ : ByteArray), .int .i64 0, .slice none 0 0, .slice none 0 0] 26 (0, 0))) := ⟨h4_⟩
           have _ : Aside0 (w26.heap[gb118]? = some (.cells #[.string t107, .int .i64 t108, .slice Ao18 t109.length co18, .slice Ao19 t112.length co19] 26 (0, 0))) := ⟨h5_⟩
           have _ : Aside0 (IsS63 w w26 g106 t102 t127 t128 t129) := ⟨h6_⟩
           have _ : Aside0 (Below w.heap.size w w26) := ⟨h7_⟩
           clear HO111 HO114 BK101 BK118 HI106 HB h0_ h1_ h2_ h3_ h4_ h5_ h6_ h7_
           rename_i HO111 HO114 HO125 HA_HO125 BK101 BK118 HI106 HB
           have hHeld : w26.cell? ⟨gb118, 0, none⟩ = some (.string t107) ∧ w26.cell? ⟨gb118, 1, none⟩ = some (.int .i64 t108) ∧ w26.cell? ⟨gb118, 2, none⟩ = some (.slice Ao18 t109.length co18) ∧ w26.cell? ⟨gb118, 3, none⟩ = some (.slice Ao19 t112.length co19) := hS_
           obtain ⟨co27, eo27⟩ := HA_HO125.out
           clear HA_HO125
           subst eo27
           refine norm_ (a' := ?_) ?_ ?_
           rotate_left
           ·
            simp only [putAll, Act.put, List.setIfInBounds_toArray, List.set_cons_zero, List.set_cons_succ]
            rfl
           refine two_ (i := 6) (j := 8) (Ni := some 18) (Nj := none) (upTo 7 10) spec_DrawTopicPublish.b3 rfl rfl rfl rfl (two_of HT_.out (by kernel_rfl)) (by decide) (by decide) (fun K hK => ?_) (fun K hK => ?_)
           ·
            skip
            refine Kd.R_make_step (Kd.int .u8) _ 5 (by rfl) (N := 18) rfl 22 _ _ rfl (rd y123 t126) rfl rfl Try.underlying22 (.int .u8 0) 1 info5 rfl (by decide) (by omega) 0 (ok := fun _ => True) (okp := fun _ => True) rfl (fun _ hk => hk) trivial (of_decide_eq_true (by assumption)) (Nat.le_trans (Nat.mul_le_mul_right _ (of_decide_eq_true (by assumption) : (rd y123 t126).toNat ≤ 281474976710656)) (by omega)) (Below.refl _ _) (Nat.le_refl _) ?_
            intro v132 w28 ho29 hb hg_ hnew_
            clear hg_ hnew_
            (first | rw [← Ny131.out] at ho29 | (simp only [Int.reduceToNat] at ho29; rw [← Ny131.out] at ho29))
            have _ := AM (Kd.Q_below (qX HO111.out) hb)
            have _ := AM (Kd.R_below (rX HO114.out) hb)
            have _ := AM (Kd.R_below (rX HO125.out) hb)
            have _ := AM (Kd.R_lower ho29 (bZ (bI63_106_spec_DrawTopicPublish HB.out)))
            have _ := AM (nB BK101.out hb)
            have _ := AM (IsS63.below (iX63_6_spec_DrawTopicPublish HI106.out) hb)
            have _ := AM (nB BK118.out hb)
            have _ := AM (below_step (bI63_106_spec_DrawTopicPublish HB.out) hb)
            clear HO111 HO114 HO125 BK101 HI106 BK118 HB
            rename_i HO111 HO114 HO125 HO133 BK101 HI106 BK118 HB
            clear hb ho29
            refine hK.out _ _ (q4 BK118.out) (fun hHeld => ?_)
            clear hK K
            refine norm_ (a' := ?_) ?_ ?_
            rotate_left
            ·
             show Act.put _ (some 18) _ = _
             simp only [Act.put, sA, sB, sC, i64_w, i32_w]
             rfl
            exact norm_ (by first | (simp only [putAll, Act.put, List.setIfInBounds_toArray, List.set_cons_zero, List.set_cons_succ]; done) | (simp only [putAll, Act.put, List.setIfInBounds_toArray, List.set_cons_zero, List.set_cons_succ]; rfl)) (hJ1_3_5_6 (.slice (some adz_v124) y123.length co27, adz_v124, v132) _ ⟨hHeld, (qX HO111.out), (rX HO114.out), (rX HO125.out), (rX HO133.out), ⟨_, rfl⟩, (kX BK101.out), (kX BK118.out), (iX63_6_spec_DrawTopicPublish HI106.out), (bI63_106_spec_DrawTopicPublish HB.out)⟩)
           skip
           have hs28 : w26.cell? ⟨gb101, 0, none⟩ = some (.string (⟨#[]⟩ : ByteArray)) := (kC BK101.out 0).trans rfl
           have hfs28 := fZ BK101.out 0
           have hns28_1 := NB118_101.out
           have hms28_1 := NB101_118.out
           have hs29 : w26.cell? ⟨gb101, 1, none⟩ = some (.int .i64 0) := (kC BK101.out 1).trans rfl
           have hfs29 := fZ BK101.out 1
           have hns29_1 := NB118_101.out
           have hms29_1 := NB101_118.out
           have hs30 : w26.cell? ⟨gb101, 2, none⟩ = some (.slice none 0 0) := (kC BK101.out 2).trans rfl
           have hfs30 := fZ BK101.out 2
           have hns30_1 := NB118_101.out
           have hms30_1 := NB101_118.out
           have hs31 : w26.cell? ⟨gb101, 3, none⟩ = some (.slice none 0 0) := (kC BK101.out 3).trans rfl
           have hfs31 := fZ BK101.out 3
           have hns31_1 := NB118_101.out
           have hms31_1 := NB101_118.out
           refine skip_ (w1 := ?_) (by rfl) rfl ?_ ?_
           rotate_left
           ·
            go_simp
            rfl
           refine hK.out _ _ ⟨(cT NB118_101.out ((cT NB118_101.out ((cT NB118_101.out ((cT NB118_101.out (hHeld.1)))))))), (cT NB118_101.out ((cT NB118_101.out ((cT NB118_101.out ((cT NB118_101.out (hHeld.2.1)))))))), (cT NB118_101.out ((cT NB118_101.out ((cT NB118_101.out ((cT NB118_101.out (hHeld.2.2.1)))))))), (cT NB118_101.out ((cT NB118_101.out ((cT NB118_101.out ((cT NB118_101.out (hHeld.2.2.2))))))))⟩ (fun hHeld => ?_)
           clear hK K
           exact norm_ (by first | (simp only [putAll, Act.put, List.setIfInBounds_toArray, List.set_cons_zero, List.set_cons_succ]; done) | (simp only [putAll, Act.put, List.setIfInBounds_toArray, List.set_cons_zero, List.set_cons_succ]; rfl)) (hJ1_3_5_8 (.slice (some adz_v124) y123.length co27, adz_v124) _ ⟨hHeld, (by (with_reducible repeat (first | apply Kd.Q_alloc | apply Kd.Q_drewN | apply Kd.Q_drew)); exact Qf4 HO111.out BK101.out (by decide) (fun _ hk => trivial)), (by (with_reducible repeat (first | apply rA | apply rN | apply rD)); exact Rf4 HO114.out BK101.out (by decide) (fun _ hk => trivial)), (by (with_reducible repeat (first | apply rA | apply rN | apply rD)); exact Rf4 HO125.out BK101.out (by decide) (fun _ hk => trivial)), ⟨_, rfl⟩, (by refine kP (cs := #[.string t107, .int .i64 t108, .slice Ao18 t109.length co18, .slice none 0 0]) 3 ?_; refine kP (cs := #[.string t107, .int .i64 t108, .slice none 0 0, .slice none 0 0]) 2 ?_; refine kP (cs := #[.string t107, .int .i64 0, .slice none 0 0, .slice none 0 0]) 1 ?_; refine kP (cs := #[.string (⟨#[]⟩ : ByteArray), .int .i64 0, .slice none 0 0, .slice none 0 0]) 0 ?_; (with_reducible repeat (first | apply kN | apply kD | apply kA)); exact BK101.out), (by (iterate 4 refine kF NB118_101.out ?_); (with_reducible repeat (first | apply kN | apply kD | apply kA)); exact BK118.out), (iX63_6_spec_DrawTopicPublish HI106.out), (bI63_106_spec_DrawTopicPublish HB.out)⟩)
          skip
          rintro ⟨v124, adz_v124⟩ w30 ⟨hS_, h0_, h1_, h2_, h3_, h4_, h5_, h6_, h7_⟩
          have _ : Aside0 (Kd.Q Kd.string 9 w30 w.heap.size (fun _ => True) (.slice Ao18 t109.length co18) t109) := ⟨h0_⟩
          have _ : Aside0 (Kd.R k36 36 w30 w.heap.size (fun _ => True) (.slice Ao19 t112.length co19) t112) := ⟨h1_⟩
          have _ : Aside0 (Kd.R (Kd.int .i64) 3 w30 w.heap.size (fun _ => True) v124 y123) := ⟨h2_⟩
          have _ : Aside0 (∃ c_, (v124 : Value) = .slice (some adz_v124) y123.length c_) := ⟨h3_⟩
          have _ : Aside0 (w30.heap[gb101]? = some (.cells #[.string t107, .int .i64 t108, .slice Ao18 t109.length co18, .slice Ao19 t112.length co19] 26 (0, 0))) := ⟨h4_⟩
          have _ : Aside0 (w30.heap[gb118]? = some (.cells #[.string t107, .int .i64 t108, .slice Ao18 t109.length co18, .slice Ao19 t112.length co19] 26 (0, 0))) := ⟨h5_⟩
          have _ : Aside0 (IsS63 w w30 g106 t102 t127 t128 t129) := ⟨h6_⟩
          have _ : Aside0 (Below w.heap.size w w30) := ⟨h7_⟩
          clear HO111 HO114 BK101 BK118 HI106 HB h0_ h1_ h2_ h3_ h4_ h5_ h6_ h7_
          rename_i HO111 HO114 HO125 HA_HO125 BK101 BK118 HI106 HB
          have hHeld : w30.cell? ⟨gb118, 0, none⟩ = some (.string t107) ∧ w30.cell? ⟨gb118, 1, none⟩ = some (.int .i64 t108) ∧ w30.cell? ⟨gb118, 2, none⟩ = some (.slice Ao18 t109.length co18) ∧ w30.cell? ⟨gb118, 3, none⟩ = some (.slice Ao19 t112.length co19) := hS_
          obtain ⟨co31, eo31⟩ := HA_HO125.out
          clear HA_HO125
          subst eo31
          refine norm_ (a' := ?_) ?_ ?_
          rotate_left
          ·
           simp only [putAll, Act.put, List.setIfInBounds_toArray, List.set_cons_zero, List.set_cons_succ]
           rfl
          refine one_ (i := 6) (N := some 18) spec_DrawTopicPublish.b2 rfl rfl (one_of HT_.out (by kernel_rfl)) (by decide) (fun K hK => ?_)
          refine Kd.R_make_step (Kd.int .u8) _ 5 (by rfl) (N := 18) rfl 22 _ _ rfl (rd y123 t126) rfl rfl Try.underlying22 (.int .u8 0) 1 info5 rfl (by decide) (by omega) 0 (ok := fun _ => True) (okp := fun _ => True) rfl (fun _ hk => hk) trivial (of_decide_eq_true (by assumption)) (Nat.le_trans (Nat.mul_le_mul_right _ (of_decide_eq_true (by assumption) : (rd y123 t126).toNat ≤ 281474976710656)) (by omega)) (Below.refl _ _) (Nat.le_refl _) ?_
          intro v132 w32 ho33 hb hg_ hnew_
          clear hg_ hnew_
          (first | rw [← Ny131.out] at ho33 | (simp only [Int.reduceToNat] at ho33; rw [← Ny131.out] at ho33))
          have _ := AM (Kd.Q_below (qX HO111.out) hb)
          have _ := AM (Kd.R_below (rX HO114.out) hb)
          have _ := AM (Kd.R_below (rX HO125.out) hb)
          have _ := AM (Kd.R_lower ho33 (bZ (bI63_106_spec_DrawTopicPublish HB.out)))
          have _ := AM (nB BK101.out hb)
          have _ := AM (IsS63.below (iX63_6_spec_DrawTopicPublish HI106.out) hb)
          have _ := AM (nB BK118.out hb)
          have _ := AM (below_step (bI63_106_spec_DrawTopicPublish HB.out) hb)
          clear HO111 HO114 HO125 BK101 HI106 BK118 HB
          rename_i HO111 HO114 HO125 HO133 BK101 HI106 BK118 HB
          clear hb ho33
          refine hK.out _ _ (q4 BK118.out) (fun hHeld => ?_)
          clear hK K
          refine norm_ (a' := ?_) ?_ ?_
          rotate_left
          ·
           show Act.put _ (some 18) _ = _
           simp only [Act.put, sA, sB, sC, i64_w, i32_w]
           rfl
          exact norm_ (by first | (simp only [putAll, Act.put, List.setIfInBounds_toArray, List.set_cons_zero, List.set_cons_succ]; done) | (simp only [putAll, Act.put, List.setIfInBounds_toArray, List.set_cons_zero, List.set_cons_succ]; rfl)) (hJ1_3_5_6_8 (.slice (some adz_v124) y123.length co31, adz_v124, v132) _ ⟨hHeld, (qX HO111.out), (rX HO114.out), (rX HO125.out), (rX HO133.out), ⟨_, rfl⟩, (kX BK101.out), (kX BK118.out), (iX63_6_spec_DrawTopicPublish HI106.out), (bI63_106_spec_DrawTopicPublish HB.out)⟩)
         skip
         rintro ⟨v124, adz_v124, v132⟩ w28 ⟨hS_, h0_, h1_, h2_, h3_, h4_, h5_, h6_, h7_, h8_⟩
         have _ : Aside0 (Kd.Q Kd.string 9 w28 w.heap.size (fun _ => True) (.slice Ao18 t109.length co18) t109) := ⟨h0_⟩
         have _ : Aside0 (Kd.R k36 36 w28 w.heap.size (fun _ => True) (.slice Ao19 t112.length co19) t112) := ⟨h1_⟩
         have _ : Aside0 (Kd.R (Kd.int .i64) 3 w28 w.heap.size (fun _ => True) v124 y123) := ⟨h2_⟩
         have _ : Aside0 (Kd.R (Kd.int .u8) 5 w28 w.heap.size (fun _ => True) v132 y131) := ⟨h3_⟩
         have _ : Aside0 (∃ c_, (v124 : Value) = .slice (some adz_v124) y123.length c_) := ⟨h4_⟩
         have _ : Aside0 (w28.heap[gb101]? = some (.cells #[.string (⟨#[]⟩ : ByteArray), .int .i64 0, .slice none 0 0, .slice none 0 0] 26 (0, 0))) := ⟨h5_⟩
         have _ : Aside0 (w28.heap[gb118]? = some (.cells #[.string t107, .int .i64 t108, .slice Ao18 t109.length co18, .slice Ao19 t112.length co19] 26 (0, 0))) := ⟨h6_⟩
         have _ : Aside0 (IsS63 w w28 g106 t102 t127 t128 t129) := ⟨h7_⟩
         have _ : Aside0 (Below w.heap.size w w28) := ⟨h8_⟩
         clear HO111 HO114 BK101 BK118 HI106 HB h0_ h1_ h2_ h3_ h4_ h5_ h6_ h7_ h8_
         rename_i HO111 HO114 HO125 HO133 HA_HO125 BK101 BK118 HI106 HB
         have hHeld : w28.cell? ⟨gb118, 0, none⟩ = some (.string t107) ∧ w28.cell? ⟨gb118, 1, none⟩ = some (.int .i64 t108) ∧ w28.cell? ⟨gb118, 2, none⟩ = some (.slice Ao18 t109.length co18) ∧ w28.cell? ⟨gb118, 3, none⟩ = some (.slice Ao19 t112.length co19) := hS_
         obtain ⟨co29, eo29⟩ := HA_HO125.out
         clear HA_HO125
         subst eo29
         refine norm_ (a' := ?_) ?_ ?_
         rotate_left
         ·
          simp only [putAll, Act.put, List.setIfInBounds_toArray, List.set_cons_zero, List.set_cons_succ]
          rfl
         refine two_ (i := 7) (j := 8) (Ni := some 19) (Nj := none) (upTo 8 10) spec_DrawTopicPublish.b2 rfl rfl rfl rfl (two_of HT_.out (by kernel_rfl)) (by decide) (by decide) (fun K hK => ?_) (fun K hK => ?_)
         ·
          skip
          have hcv30 := own_string (P := Try.prog) Try.underlying22 Try.underlying5 Try.underlying9 (Kd.own_of_R HO133.out)
          refine value_ (w1 := ?_) (v := ?_) (by rfl) rfl ?_ ?_
          rotate_left 2
          ·
           go_simp
           constructor
           ·
            rfl
           rfl
          clear hcv30
          refine hK.out _ _ (q4 BK118.out) (fun hHeld => ?_)
          clear hK K
          refine norm_ (a' := ?_) ?_ ?_
          rotate_left
          ·
           show Act.put _ (some 19) _ = _
           simp only [Act.put, sA, sB, sC, i64_w, i32_w]
           rfl
          exact norm_ (by first | (simp only [putAll, Act.put, List.setIfInBounds_toArray, List.set_cons_zero, List.set_cons_succ]; done) | (simp only [putAll, Act.put, List.setIfInBounds_toArray, List.set_cons_zero, List.set_cons_succ]; rfl)) (hJ1_3_5_6_7 (.slice (some adz_v124) y123.length co29, adz_v124, v132) _ ⟨hHeld, (qX HO111.out), (rX HO114.out), (rX HO125.out), (rX HO133.out), ⟨_, rfl⟩, (kX BK101.out), (kX BK118.out), (iX63_6_spec_DrawTopicPublish HI106.out), (bI63_106_spec_DrawTopicPublish HB.out)⟩)
         skip
         have hs30 : w28.cell? ⟨gb101, 0, none⟩ = some (.string (⟨#[]⟩ : ByteArray)) := (kC BK101.out 0).trans rfl
         have hfs30 := fZ BK101.out 0
         have hns30_1 := NB118_101.out
         have hms30_1 := NB101_118.out
         have hs31 : w28.cell? ⟨gb101, 1, none⟩ = some (.int .i64 0) := (kC BK101.out 1).trans rfl
         have hfs31 := fZ BK101.out 1
         have hns31_1 := NB118_101.out
         have hms31_1 := NB101_118.out
         have hs32 : w28.cell? ⟨gb101, 2, none⟩ = some (.slice none 0 0) := (kC BK101.out 2).trans rfl
         have hfs32 := fZ BK101.out 2
         have hns32_1 := NB118_101.out
         have hms32_1 := NB101_118.out
         have hs33 : w28.cell? ⟨gb101, 3, none⟩ = some (.slice none 0 0) := (kC BK101.out 3).trans rfl
         have hfs33 := fZ BK101.out 3
         have hns33_1 := NB118_101.out
         have hms33_1 := NB101_118.out
         refine skip_ (w1 := ?_) (by rfl) rfl ?_ ?_
         rotate_left
         ·
          go_simp
          rfl
         refine hK.out _ _ ⟨(cT NB118_101.out ((cT NB118_101.out ((cT NB118_101.out ((cT NB118_101.out (hHeld.1)))))))), (cT NB118_101.out ((cT NB118_101.out ((cT NB118_101.out ((cT NB118_101.out (hHeld.2.1)))))))), (cT NB118_101.out ((cT NB118_101.out ((cT NB118_101.out ((cT NB118_101.out (hHeld.2.2.1)))))))), (cT NB118_101.out ((cT NB118_101.out ((cT NB118_101.out ((cT NB118_101.out (hHeld.2.2.2))))))))⟩ (fun hHeld => ?_)
         clear hK K
         exact norm_ (by first | (simp only [putAll, Act.put, List.setIfInBounds_toArray, List.set_cons_zero, List.set_cons_succ]; done) | (simp only [putAll, Act.put, List.setIfInBounds_toArray, List.set_cons_zero, List.set_cons_succ]; rfl)) (hJ1_3_5_6_8 (.slice (some adz_v124) y123.length co29, adz_v124, v132) _ ⟨hHeld, (by (with_reducible repeat (first | apply Kd.Q_alloc | apply Kd.Q_drewN | apply Kd.Q_drew)); exact Qf4 HO111.out BK101.out (by decide) (fun _ hk => trivial)), (by (with_reducible repeat (first | apply rA | apply rN | apply rD)); exact Rf4 HO114.out BK101.out (by decide) (fun _ hk => trivial)), (by (with_reducible repeat (first | apply rA | apply rN | apply rD)); exact Rf4 HO125.out BK101.out (by decide) (fun _ hk => trivial)), (by (with_reducible repeat (first | apply rA | apply rN | apply rD)); exact Rf4 HO133.out BK101.out (by decide) (fun _ hk => trivial)), ⟨_, rfl⟩, (by refine kP (cs := #[.string t107, .int .i64 t108, .slice Ao18 t109.length co18, .slice none 0 0]) 3 ?_; refine kP (cs := #[.string t107, .int .i64 t108, .slice none 0 0, .slice none 0 0]) 2 ?_; refine kP (cs := #[.string t107, .int .i64 0, .slice none 0 0, .slice none 0 0]) 1 ?_; refine kP (cs := #[.string (⟨#[]⟩ : ByteArray), .int .i64 0, .slice none 0 0, .slice none 0 0]) 0 ?_; (with_reducible repeat (first | apply kN | apply kD | apply kA)); exact BK101.out), (by (iterate 4 refine kF NB118_101.out ?_); (with_reducible repeat (first | apply kN | apply kD | apply kA)); exact BK118.out), (iX63_6_spec_DrawTopicPublish HI106.out), (bI63_106_spec_DrawTopicPublish HB.out)⟩)
        skip
        rintro ⟨v124, adz_v124, v132⟩ w32 ⟨hS_, h0_, h1_, h2_, h3_, h4_, h5_, h6_, h7_, h8_⟩
        have _ : Aside0 (Kd.Q Kd.string 9 w32 w.heap.size (fun _ => True) (.slice Ao18 t109.length co18) t109) := ⟨h0_⟩
        have _ : Aside0 (Kd.R k36 36 w32 w.heap.size (fun _ => True) (.slice Ao19 t112.length co19) t112) := ⟨h1_⟩
        have _ : Aside0 (Kd.R (Kd.int .i64) 3 w32 w.heap.size (fun _ => True) v124 y123) := ⟨h2_⟩
        have _ : Aside0 (Kd.R (Kd.int .u8) 5 w32 w.heap.size (fun _ => True) v132 y131) := ⟨h3_⟩
        have _ : Aside0 (∃ c_, (v124 : Value) = .slice (some adz_v124) y123.length c_) := ⟨h4_⟩
        have _ : Aside0 (w32.heap[gb101]? = some (.cells #[.string t107, .int .i64 t108, .slice Ao18 t109.length co18, .slice Ao19 t112.length co19] 26 (0, 0))) := ⟨h5_⟩
        have _ : Aside0 (w32.heap[gb118]? = some (.cells #[.string t107, .int .i64 t108, .slice Ao18 t109.length co18, .slice Ao19 t112.length co19] 26 (0, 0))) := ⟨h6_⟩
        have _ : Aside0 (IsS63 w w32 g106 t102 t127 t128 t129) := ⟨h7_⟩
        have _ : Aside0 (Below w.heap.size w w32) := ⟨h8_⟩
        clear HO111 HO114 BK101 BK118 HI106 HB h0_ h1_ h2_ h3_ h4_ h5_ h6_ h7_ h8_
        rename_i HO111 HO114 HO125 HO133 HA_HO125 BK101 BK118 HI106 HB
        have hHeld : w32.cell? ⟨gb118, 0, none⟩ = some (.string t107) ∧ w32.cell? ⟨gb118, 1, none⟩ = some (.int .i64 t108) ∧ w32.cell? ⟨gb118, 2, none⟩ = some (.slice Ao18 t109.length co18) ∧ w32.cell? ⟨gb118, 3, none⟩ = some (.slice Ao19 t112.length co19) := hS_
        obtain ⟨co33, eo33⟩ := HA_HO125.out
        clear HA_HO125
        subst eo33
        refine norm_ (a' := ?_) ?_ ?_
        rotate_left
        ·
         simp only [putAll, Act.put, List.setIfInBounds_toArray, List.set_cons_zero, List.set_cons_succ]
         rfl
        refine one_ (i := 7) (N := some 19) (upTo 9 10) rfl rfl (one_of HT_.out (by kernel_rfl)) (by decide) (fun K hK => ?_)
        have hcv34 := own_string (P := Try.prog) Try.underlying22 Try.underlying5 Try.underlying9 (Kd.own_of_R HO133.out)
        refine value_ (w1 := ?_) (v := ?_) (by rfl) rfl ?_ ?_
        rotate_left 2
        ·
         go_simp
         constructor
         ·
          rfl
         rfl
        clear hcv34
        refine hK.out _ _ (q4 BK118.out) (fun hHeld => ?_)
        clear hK K
        refine norm_ (a' := ?_) ?_ ?_
        rotate_left
        ·
         show Act.put _ (some 19) _ = _
         simp only [Act.put, sA, sB, sC, i64_w, i32_w]
         rfl
        exact norm_ (by first | (simp only [putAll, Act.put, List.setIfInBounds_toArray, List.set_cons_zero, List.set_cons_succ]; done) | (simp only [putAll, Act.put, List.setIfInBounds_toArray, List.set_cons_zero, List.set_cons_succ]; rfl)) (hJ1_3_5_6_7_8 (.slice (some adz_v124) y123.length co33, adz_v124, v132) _ ⟨hHeld, (qX HO111.out), (rX HO114.out), (rX HO125.out), (rX HO133.out), ⟨_, rfl⟩, (kX BK101.out), (kX BK118.out), (iX63_6_spec_DrawTopicPublish HI106.out), (bI63_106_spec_DrawTopicPublish HB.out)⟩)
       skip
       rintro ⟨v124, adz_v124, v132⟩ w29 ⟨hS_, h0_, h1_, h2_, h3_, h4_, h5_, h6_, h7_, h8_⟩
       have _ : Aside0 (Kd.Q Kd.string 9 w29 w.heap.size (fun _ => True) (.slice Ao18 t109.length co18) t109) := ⟨h0_⟩
       have _ : Aside0 (Kd.R k36 36 w29 w.heap.size (fun _ => True) (.slice Ao19 t112.length co19) t112) := ⟨h1_⟩
       have _ : Aside0 (Kd.R (Kd.int .i64) 3 w29 w.heap.size (fun _ => True) v124 y123) := ⟨h2_⟩
       have _ : Aside0 (Kd.R (Kd.int .u8) 5 w29 w.heap.size (fun _ => True) v132 y131) := ⟨h3_⟩
       have _ : Aside0 (∃ c_, (v124 : Value) = .slice (some adz_v124) y123.length c_) := ⟨h4_⟩
       have _ : Aside0 (w29.heap[gb101]? = some (.cells #[.string (⟨#[]⟩ : ByteArray), .int .i64 0, .slice none 0 0, .slice none 0 0] 26 (0, 0))) := ⟨h5_⟩
       have _ : Aside0 (w29.heap[gb118]? = some (.cells #[.string t107, .int .i64 t108, .slice Ao18 t109.length co18, .slice Ao19 t112.length co19] 26 (0, 0))) := ⟨h6_⟩
       have _ : Aside0 (IsS63 w w29 g106 t102 t127 t128 t129) := ⟨h7_⟩
       have _ : Aside0 (Below w.heap.size w w29) := ⟨h8_⟩
       clear HO111 HO114 BK101 BK118 HI106 HB h0_ h1_ h2_ h3_ h4_ h5_ h6_ h7_ h8_
       rename_i HO111 HO114 HO125 HO133 HA_HO125 BK101 BK118 HI106 HB
       have hHeld : w29.cell? ⟨gb118, 0, none⟩ = some (.string t107) ∧ w29.cell? ⟨gb118, 1, none⟩ = some (.int .i64 t108) ∧ w29.cell? ⟨gb118, 2, none⟩ = some (.slice Ao18 t109.length co18) ∧ w29.cell? ⟨gb118, 3, none⟩ = some (.slice Ao19 t112.length co19) := hS_
       obtain ⟨co30, eo30⟩ := HA_HO125.out
       clear HA_HO125
       subst eo30
       refine norm_ (a' := ?_) ?_ ?_
       rotate_left
       ·
        simp only [putAll, Act.put, List.setIfInBounds_toArray, List.set_cons_zero, List.set_cons_succ]
        rfl
       refine one_ (i := 8) (N := none) (upTo 9 10) rfl rfl (one_of HT_.out (by kernel_rfl)) (by decide) (fun K hK => ?_)
       have hs31 : w29.cell? ⟨gb101, 0, none⟩ = some (.string (⟨#[]⟩ : ByteArray)) := (kC BK101.out 0).trans rfl
       have hfs31 := fZ BK101.out 0
       have hns31_1 := NB118_101.out
       have hms31_1 := NB101_118.out
       have hs32 : w29.cell? ⟨gb101, 1, none⟩ = some (.int .i64 0) := (kC BK101.out 1).trans rfl
       have hfs32 := fZ BK101.out 1
       have hns32_1 := NB118_101.out
       have hms32_1 := NB101_118.out
       have hs33 : w29.cell? ⟨gb101, 2, none⟩ = some (.slice none 0 0) := (kC BK101.out 2).trans rfl
       have hfs33 := fZ BK101.out 2
       have hns33_1 := NB118_101.out
       have hms33_1 := NB101_118.out
       have hs34 : w29.cell? ⟨gb101, 3, none⟩ = some (.slice none 0 0) := (kC BK101.out 3).trans rfl
       have hfs34 := fZ BK101.out 3
       have hns34_1 := NB118_101.out
       have hms34_1 := NB101_118.out
       refine skip_ (w1 := ?_) (by rfl) rfl ?_ ?_
       rotate_left
       ·
        go_simp
        rfl
       refine hK.out _ _ ⟨(cT NB118_101.out ((cT NB118_101.out ((cT NB118_101.out ((cT NB118_101.out (hHeld.1)))))))), (cT NB118_101.out ((cT NB118_101.out ((cT NB118_101.out ((cT NB118_101.out (hHeld.2.1)))))))), (cT NB118_101.out ((cT NB118_101.out ((cT NB118_101.out ((cT NB118_101.out (hHeld.2.2.1)))))))), (cT NB118_101.out ((cT NB118_101.out ((cT NB118_101.out ((cT NB118_101.out (hHeld.2.2.2))))))))⟩ (fun hHeld => ?_)
       clear hK K
       exact norm_ (by first | (simp only [putAll, Act.put, List.setIfInBounds_toArray, List.set_cons_zero, List.set_cons_succ]; done) | (simp only [putAll, Act.put, List.setIfInBounds_toArray, List.set_cons_zero, List.set_cons_succ]; rfl)) (hJ1_3_5_6_7_8 (.slice (some adz_v124) y123.length co30, adz_v124, v132) _ ⟨hHeld, (by (with_reducible repeat (first | apply Kd.Q_alloc | apply Kd.Q_drewN | apply Kd.Q_drew)); exact Qf4 HO111.out BK101.out (by decide) (fun _ hk => trivial)), (by (with_reducible repeat (first | apply rA | apply rN | apply rD)); exact Rf4 HO114.out BK101.out (by decide) (fun _ hk => trivial)), (by (with_reducible repeat (first | apply rA | apply rN | apply rD)); exact Rf4 HO125.out BK101.out (by decide) (fun _ hk => trivial)), (by (with_reducible repeat (first | apply rA | apply rN | apply rD)); exact Rf4 HO133.out BK101.out (by decide) (fun _ hk => trivial)), ⟨_, rfl⟩, (by refine kP (cs := #[.string t107, .int .i64 t108, .slice Ao18 t109.length co18, .slice none 0 0]) 3 ?_; refine kP (cs := #[.string t107, .int .i64 t108, .slice none 0 0, .slice none 0 0]) 2 ?_; refine kP (cs := #[.string t107, .int .i64 0, .slice none 0 0, .slice none 0 0]) 1 ?_; refine kP (cs := #[.string (⟨#[]⟩ : ByteArray), .int .i64 0, .slice none 0 0, .slice none 0 0]) 0 ?_; (with_reducible repeat (first | apply kN | apply kD | apply kA)); exact BK101.out), (by (iterate 4 refine kF NB118_101.out ?_); (with_reducible repeat (first | apply kN | apply kD | apply kA)); exact BK118.out), (iX63_6_spec_DrawTopicPublish HI106.out), (bI63_106_spec_DrawTopicPublish HB.out)⟩)
      rintro ⟨v124, adz_v124, v132⟩ w33 ⟨hS_, h0_, h1_, h2_, h3_, h4_, h5_, h6_, h7_, h8_⟩
      have _ : Aside0 (Kd.Q Kd.string 9 w33 w.heap.size (fun _ => True) (.slice Ao18 t109.length co18) t109) := ⟨h0_⟩
      have _ : Aside0 (Kd.R k36 36 w33 w.heap.size (fun _ => True) (.slice Ao19 t112.length co19) t112) := ⟨h1_⟩
      have _ : Aside0 (Kd.R (Kd.int .i64) 3 w33 w.heap.size (fun _ => True) v124 y123) := ⟨h2_⟩
      have _ : Aside0 (Kd.R (Kd.int .u8) 5 w33 w.heap.size (fun _ => True) v132 y131) := ⟨h3_⟩
      have _ : Aside0 (∃ c_, (v124 : Value) = .slice (some adz_v124) y123.length c_) := ⟨h4_⟩
      have _ : Aside0 (w33.heap[gb101]? = some (.cells #[.string t107, .int .i64 t108, .slice Ao18 t109.length co18, .slice Ao19 t112.length co19] 26 (0, 0))) := ⟨h5_⟩
      have _ : Aside0 (w33.heap[gb118]? = some (.cells #[.string t107, .int .i64 t108, .slice Ao18 t109.length co18, .slice Ao19 t112.length co19] 26 (0, 0))) := ⟨h6_⟩
      have _ : Aside0 (IsS63 w w33 g106 t102 t127 t128 t129) := ⟨h7_⟩
      have _ : Aside0 (Below w.heap.size w w33) := ⟨h8_⟩
      clear HO111 HO114 BK101 BK118 HI106 HB h0_ h1_ h2_ h3_ h4_ h5_ h6_ h7_ h8_
      rename_i HO111 HO114 HO125 HO133 HA_HO125 BK101 BK118 HI106 HB
      have hHeld : w33.cell? ⟨gb118, 0, none⟩ = some (.string t107) ∧ w33.cell? ⟨gb118, 1, none⟩ = some (.int .i64 t108) ∧ w33.cell? ⟨gb118, 2, none⟩ = some (.slice Ao18 t109.length co18) ∧ w33.cell? ⟨gb118, 3, none⟩ = some (.slice Ao19 t112.length co19) := hS_
      obtain ⟨co34, eo34⟩ := HA_HO125.out
      clear HA_HO125
      subst eo34
      refine norm_ (a' := ?_) ?_ ?_
      rotate_left
      ·
       simp only [putAll, Act.put, List.setIfInBounds_toArray, List.set_cons_zero, List.set_cons_succ]
       rfl
      refine pF 9 10 10 3 ?_
      refine done_ (done_of HT_.out (by kernel_rfl)) ?_
      try go_wp2
      refine bodyPost_ret (results_ct rfl _ _ gb101 26 #[.string t107, .int .i64 t108, .slice Ao18 t109.length co18, .slice Ao19 t112.length co19] (0, 0) _ rfl (kX BK101.out) Try.underlying26 rfl (by kernel_rfl)) rfl ?_
      exact ⟨_, _, by first | rfl | (simp [*, errW_none, errW_some] <;> rfl), qX HO111.out, rX HO114.out, bI63_106_spec_DrawTopicPublish HB.out⟩
     rw [if_neg c10] at H
     exact absurd H (by simp)
    rw [if_neg c9] at H
    exact absurd H (by simp)
   rw [if_neg c8] at H
   exact absurd H (by simp)
  rw [if_neg c7] at H
  exact absurd H (by simp)
 replace c5 := Bool.eq_false_iff.mpr c5
 subst c5
 have H1 : (some (t107, t108, t109, t112, (⟨#[110, 101, 119]⟩ : ByteArray))) = some (r1, r2, r3, r4, r5) := by rw [if_neg (show ¬ (false = true) by decide)] at H; exact H
 clear H
 have H := H1
 clear H1
 simp only [Option.some.injEq, Prod.mk.injEq] at H
 obtain ⟨rfl, rfl, rfl, rfl, rfl⟩ := H
 go_enter Try.func11, Try.ntmps11
 go_wp2_with (first | ((with_reducible refine gate_dst (N := 2) rfl ?_); refine box_event (by rfl) (N := 2) (by rfl) (cs := #[.string (⟨#[]⟩ : ByteArray), .int .i64 0, .slice none 0 0, .slice none 0 0]) (t := 26) (by first | (go_simp; done) | (go_simp; rfl)) ?_; intro gb101 hg w35 hbox hb; have _ := AM (below_step (bX HB.out) hb); have _ := AM (hbox); have n2_ := AM ((by rw [hg]; exact (bZ (bX HB.out)) : w.heap.size ≤ gb101)); clear HB; rename_i HB BK101; have GW101 := n2_; have GE101 := n2_; clear n2_; clear hb hbox hg) | ((with_reducible refine gate_callee (f := 19) rfl ?_); refine goesL_ (some 7) rfl rfl Try.func19 (by kernel_rfl) rfl #[.slice A0 l0.length c0] rfl (by (try simp only [mA, mB, mC]); first | done | rfl | (simp only [mD, mE]; rfl)) ?_; (with_reducible refine (spec_l01Source.calls k _ _ l0 t102 t103 t104 t105 w _ ?side1 ?side2 ?side3 A2.out).mono ?_); (case side1 => exact (bX HB.out)); (case side2 => exact HR0.out); (case side3 => exact HC0.out); rintro e w36 ⟨g106, rfl, hi, hb, hb2⟩; refine ⟨_, rfl, ?_⟩; have _ := AM (nB BK101.out hb2); have _ := AM (hb); have _ := AM (hi); have _ := AM (IsS63.ne_blk hi (nB BK101.out hb2) (by decide)); have _ := AM (Ne.symm (IsS63.ne_blk hi (nB BK101.out hb2) (by decide))); clear BK101 HB; rename_i BK101 HB HI106 NB106_101 NB101_106; (try clear hb); (try clear hb2); (try clear hk); (try clear hi)) | ((with_reducible refine gate_callee (f := 20) rfl ?_); refine goesL_ (some 9) rfl rfl Try.func20 (by kernel_rfl) rfl #[.pointer (some ⟨g106, 0, none⟩)] rfl (by (try simp only [mA, mB, mC]); first | done | rfl | (simp only [mD, mE]; rfl)) ?_; (with_reducible refine (spec_l01Src_l07Topic.calls k g106 t102 t103 t104 t105 t107 t108 t109 t112 t115 t116 t117 w _ ?side1 ?side2 A3.out).mono ?_); (case side1 => exact (iX63_6_spec_DrawTopicPublish HI106.out)); (case side2 => exact (bI63_106_spec_DrawTopicPublish HB.out)); rintro e w37 ⟨v110, v113, rfl, ho0, ho1, hi, hb, hk⟩; refine ⟨_, rfl, ?_⟩; have _ := AM (kB hk BK101.out NB101_106.out (by simp)); have _ := AM (Kd.Q_lower ho0 (bZ (bI63_106_spec_DrawTopicPublish HB.out))); have _ := AM (Kd.R_lower ho1 (bZ (bI63_106_spec_DrawTopicPublish HB.out))); have _ := AM (hb); have _ := AM (hi); clear BK101 HB HI106; rename_i BK101 HO111 HO114 HB HI106; (try clear hb); (try clear hb2); (try clear hk); (try clear hi); (try clear ho0); (try clear ho1)) | ((with_reducible refine gate_dst (N := 5) rfl ?_); refine box_event (by rfl) (N := 5) (by rfl) (cs := #[.string (⟨#[]⟩ : ByteArray), .int .i64 0, .slice none 0 0, .slice none 0 0]) (t := 26) (by first | (go_simp; done) | (go_simp; rfl)) ?_; intro gb118 hg w38 hbox hb; have _ := AM (Kd.Q_below (qX HO111.out) hb); have _ := AM (Kd.R_below (rX HO114.out) hb); have _ := AM (nB BK101.out hb); have _ := AM (IsS63.below (iX63_6_spec_DrawTopicPublish HI106.out) hb); have _ := AM (below_step (bI63_106_spec_DrawTopicPublish HB.out) hb); have _ := AM (hbox); have n6_ := AM ((by rw [hg]; exact (bZ (bI63_106_spec_DrawTopicPublish HB.out)) : w.heap.size ≤ gb118)); have _ := AM (lX hg BK101.out); have _ := AM (lX hg BK101.out).symm; have _ := AM ((by rw [hg]; exact Nat.ne_of_lt (IsS63.lt (show IsS63 w _ g106 t102 t115 t116 t117 from iX63_6_spec_DrawTopicPublish HI106.out)) : g106 ≠ gb118)); have _ := AM ((by rw [hg]; exact Nat.ne_of_gt (IsS63.lt (show IsS63 w _ g106 t102 t115 t116 t117 from iX63_6_spec_DrawTopicPublish HI106.out)) : gb118 ≠ g106)); clear HO111 HO114 BK101 HI106 HB; rename_i HO111 HO114 BK101 HI106 HB BK118 NB101_118 NB118_101 NB106_118 NB118_106; have GW118 := n6_; have GE118 := n6_; clear n6_; clear hb hbox hg; have hnb39 := NB118_101.out; have hnc39 := NB101_118.out; have hnb40 := NB118_106.out; have hnc40 := NB106_118.out; have hcz41 := q4 BK118.out; have hfz41 := fZ BK118.out; obtain ⟨Ao42, co42, eo42, _⟩ := Kd.Q_slice HO111.out; subst eo42; obtain ⟨Ao43, co43, eo43⟩ := Kd.R_slice HO114.out; subst eo43) | ((with_reducible refine gate_callee (f := 32) rfl ?_); refine goesL_ (some 11) rfl rfl Try.func32 (by kernel_rfl) rfl #[.pointer (some ⟨g106, 0, none⟩), .int .i64 10] rfl (by (try simp only [mA, mB, mC]); first | done | rfl | (simp only [mD, mE]; rfl)) ?_; (with_reducible refine (spec_l01Src_one.calls g106 t102 t115 t116 t117 10 false t120 t121 t122 w _ ?side1 ?side2 A4.out).mono ?_); (case side1 => exact (iX63_6_spec_DrawTopicPublish HI106.out)); (case side2 => exact (bI63_106_spec_DrawTopicPublish HB.out)); rintro e w44 ⟨rfl, hi, hb, hk⟩; refine ⟨_, rfl, ?_⟩; have _ := AM (KeepBut.blk hk (g' := gb101) (o := .cells #[.string (⟨#[]⟩ : ByteArray), .int .i64 0, .slice none 0 0, .slice none 0 0] 26 (0, 0)) (by (iterate 4 refine kF NB101_118.out ?_); (with_reducible repeat (first | apply kN | apply kD | apply kA)); exact BK101.out) NB101_106.out (by simp)); have _ := AM (Kd.Q_mono (Kd.Q_keep (IsS63.apartQ (show IsS63 w _ g106 t102 t115 t116 t117 from iX63_6_spec_DrawTopicPublish HI106.out) (by (with_reducible repeat (first | apply Kd.Q_alloc | apply Kd.Q_drewN | apply Kd.Q_drew)); exact (Qf4 HO111.out BK118.out (by decide) (fun _ h_ => h_.1))) (by decide)) hk (fun _ h => h.2)) (fun _ h => h.1)); have _ := AM (Kd.R_mono (Kd.R_keep (IsS63.apart (show IsS63 w _ g106 t102 t115 t116 t117 from iX63_6_spec_DrawTopicPublish HI106.out) (by (with_reducible repeat (first | apply rA | apply rN | apply rD)); exact (Rf4 HO114.out BK118.out (by decide) (fun _ h_ => h_.1))) (by decide)) hk (fun _ h => h.2)) (fun _ h => h.1)); have _ := AM (KeepBut.blk hk (g' := gb118) (o := .cells #[.string t107, .int .i64 t108, .slice Ao42 t109.length co42, .slice Ao43 t112.length co43] 26 (0, 0)) (by refine kP (cs := #[.string t107, .int .i64 t108, .slice Ao42 t109.length co42, .slice none 0 0]) 3 ?_; refine kP (cs := #[.string t107, .int .i64 t108, .slice none 0 0, .slice none 0 0]) 2 ?_; refine kP (cs := #[.string t107, .int .i64 0, .slice none 0 0, .slice none 0 0]) 1 ?_; refine kP (cs := #[.string (⟨#[]⟩ : ByteArray), .int .i64 0, .slice none 0 0, .slice none 0 0]) 0 ?_; (with_reducible repeat (first | apply kN | apply kD | apply kA)); exact BK118.out) NB118_106.out (by simp)); have _ := AM (hb); have _ := AM (hi); clear BK101 HO111 HO114 BK118 HB HI106; rename_i BK101 HO111 HO114 BK118 HB HI106; (try clear hb); (try clear hb2); (try clear hk); (try clear hi); have hcz45 := q4 BK118.out; have hfz45 := fZ BK118.out; have hnb46 := NB101_106.out; have hnc46 := NB106_101.out; have hcz47 := q4 BK101.out; have hfz47 := fZ BK101.out))
 refine bodyPost_ret (results_ct rfl _ _ gb101 26 #[.string t107, .int .i64 t108, .slice Ao42 t109.length co42, .slice Ao43 t112.length co43] (0, 0) _ rfl (by refine kP (cs := #[.string t107, .int .i64 t108, .slice Ao42 t109.length co42, .slice none 0 0]) 3 ?_; refine kP (cs := #[.string t107, .int .i64 t108, .slice none 0 0, .slice none 0 0]) 2 ?_; refine kP (cs := #[.string t107, .int .i64 0, .slice none 0 0, .slice none 0 0]) 1 ?_; refine kP (cs := #[.string (⟨#[]⟩ : ByteArray), .int .i64 0, .slice none 0 0, .slice none 0 0]) 0 ?_; (with_reducible repeat (first | apply kN | apply kD | apply kA)); exact BK101.out) Try.underlying26 rfl (by kernel_rfl)) rfl ?_
 exact ⟨_, _, by first | rfl | (simp [*, errW_none, errW_some] <;> rfl), by (with_reducible repeat (first | apply Kd.Q_alloc | apply Kd.Q_drewN | apply Kd.Q_drew)); exact Qf4 HO111.out BK101.out (by decide) (fun _ hk => trivial), by (with_reducible repeat (first | apply rA | apply rN | apply rD)); exact Rf4 HO114.out BK101.out (by decide) (fun _ hk => trivial), bI63_106_spec_DrawTopicPublish HB.out⟩

end Go.Proofs.Ytcnilcipcnjmjaa.Q
