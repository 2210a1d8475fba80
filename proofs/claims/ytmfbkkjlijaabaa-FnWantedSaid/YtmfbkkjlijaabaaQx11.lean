/- Printed by wip/mp.py: functions as plain Lean functions, and their calls. -/
import Derived.Test.YtmfbkkjlijaabaaQx9
import Derived.Test.YtmfbkkjlijaabaaQx10
namespace Go.Proofs.Ytmfbkkjlijaabaa.Q
open Go.RowKit Go.Proofs.Ytmfbkkjlijaabaa.HB Go.Proofs.YtmfbkkjlijaabaaW.PrintWords Go.Proofs.YtmfbkkjlijaabaaW.PrintLast Go.Proofs.YtmfbkkjlijaabaaW.PrintMore
attribute [local go_sem] max2_int min2_int max_two min_two max_three min_three max_four min_four   -- for this text's walks alone
set_option linter.unusedVariables false
set_option linter.unusedSimpArgs false

/-! ### spec_l01Src_l11Votes: function 21 -/

def spec_l01Src_l11Votes.l0 : Nat → List (S67) → Int → List Int → Int → Int → Int → Option ((List (S67)) × Int × Int × Int)
  | 0, _, _, _, _, _, _ => none
  | k + 1, x3, x4, x1000, x1001, x1002, x1003 => if x4 > 0 then ((spec_l01Src_l11Some.f x1000 x1001 x1002 x1003).bind fun bt108 => ((spec_VoteAdd.f k x3 bt108.1 bt108.2.1 bt108.2.2.1 bt108.2.2.2.1 bt108.2.2.2.2.1).bind fun bt116 => (if bt116.2.2 = 0 then (spec_l01Src_l11Votes.l0 k bt116.1 (wrap64 (x4 - 1)) x1000 bt108.2.2.2.2.2.1 bt108.2.2.2.2.2.2.1 bt108.2.2.2.2.2.2.2) else (spec_l01Src_l11Votes.l0 k x3 (wrap64 (x4 - 1)) x1000 bt108.2.2.2.2.2.1 bt108.2.2.2.2.2.2.1 bt108.2.2.2.2.2.2.2)))) else ((spec_l01Src_one.f x1000 x1001 x1002 x1003 25).bind fun bt122 => (if bt122.1 = true then ((spec_l01Src_l11Some.f x1000 bt122.2.1 bt122.2.2.1 bt122.2.2.2).bind fun bt126 => (if x3.length < 2932031007402 then (some ((x3 ++ [(⟨bt126.1, bt126.2.1, bt126.2.2.1, bt126.2.2.2.1, bt126.2.2.2.2.1⟩ : S67)]), bt126.2.2.2.2.2.1, bt126.2.2.2.2.2.2.1, bt126.2.2.2.2.2.2.2)) else (none))) else (some (x3, bt122.2.1, bt122.2.2.1, bt122.2.2.2))))
def spec_l01Src_l11Votes.f (k : Nat) (s0_0 : List Int) (s0_1 : Int) (s0_2 : Int) (s0_3 : Int) : Option ((List (S67)) × Int × Int × Int) := (spec_l01Src_n.f s0_0 s0_1 s0_2 s0_3 30).bind fun bt104 => (spec_l01Src_l11Votes.l0 k (([] : List (S67))) bt104.1 s0_0 bt104.2.1 bt104.2.2.1 bt104.2.2.2)
theorem jX4 {n : Nat} {w W W' : World} (h : Below n w W) (f : Below n w W → Below n w W' := by intro h_; repeat (first | (with_reducible first | exact h_ | apply bA | apply bN | apply bD | refine bS ?_ (IsS58.ge HI0.out) | refine bS ?_ (Aside0.out (by assumption))) | exact h_)) : Below n w W' := f h
theorem jX15 {p q : Prop} (h : p) (f : p → q := by intro h_; repeat (first | (with_reducible first | exact h_ | apply IsS58.alloc | apply IsS58.drewN | apply IsS58.drew | apply IsS58.set_1 | apply IsS58.set_2 | apply IsS58.set_3 | refine IsS58.far ?_ (Aside0.out (by assumption)) _ | apply IsS58.far | exact Aside0.out (by assumption)) | exact h_)) : q := f h
set_option maxHeartbeats 60000000 in
set_option maxRecDepth 100000 in
theorem spec_l01Src_l11Votes.calls (k : Nat) (g : Nat) (s0_0 : List Int) (s0_1 : Int) (s0_2 : Int) (s0_3 : Int) (r1 : List (S67)) (r2 : Int) (r3 : Int) (r4 : Int) (w0 w : World) (hI : IsS58 w0 w g s0_0 s0_1 s0_2 s0_3) (hB : Below w0.heap.size w0 w) (h : spec_l01Src_l11Votes.f k s0_0 s0_1 s0_2 s0_3 = some (r1, r2, r3, r4)) :
    Calls Try.prog 21 #[.pointer (some ⟨g, 0, none⟩)] w fun e w' => ∃ v0_ : Value, e = .returned (v0_) ∧ Kd.R k67 67 w' w.heap.size (fun _ => True) v0_ r1 ∧ IsS58 w0 w' g s0_0 r2 r3 r4 ∧ Below w0.heap.size w0 w' ∧ KeepBut w w' g none := by
 have hu64 := Try.underlying64; have HI0 := AM hI; have HK := AM (KeepBut.refl w g none); have HL := AM hB.size; clear hI; have HW0 := AM hB.size; have HB := AM hB; clear hB; have H : ((spec_l01Src_n.f s0_0 s0_1 s0_2 s0_3 30).bind fun bt104 => (spec_l01Src_l11Votes.l0 k (([] : List (S67))) bt104.1 s0_0 bt104.2.1 bt104.2.2.1 bt104.2.2.2)) = some (r1, r2, r3, r4) := h; clear h; obtain ⟨y101, hy101⟩ : ∃ y_ : List (S67), y_ = (([] : List (S67))) := ⟨_, rfl⟩; replace H : ((spec_l01Src_n.f s0_0 s0_1 s0_2 s0_3 30).bind fun bt104 => (spec_l01Src_l11Votes.l0 k y101 bt104.1 s0_0 bt104.2.1 bt104.2.2.1 bt104.2.2.2)) = some (r1, r2, r3, r4) := hS hy101 H
 have Ny101 := AM hy101; clear hy101; replace H := oM H; obtain ⟨⟨t104, t105, t106, t107⟩, A20, H⟩ := H; try dsimp only at H
 have A2 := AM A20; clear A20; have H' := AM H; clear H; go_enter Try.func21, Try.ntmps21
 go_wp2_with (first | ((with_reducible refine gate_dst (N := 6) rfl ?_); refine Kd.R_lit k67 _ 67 ?hg (N := 6) ?hd (xs := ([] : List (S67))) (inner := []) (ok := fun _ => True) (okp := fun _ => True) ?hr ?hp (fun _ hk => hk) trivial (Below.refl _ _) (Nat.le_refl _) (by simp) ?_; (case hd => rfl); (case hg => rfl); (case hr => first | (go_simp; done) | (go_simp; rfl)); (case hp => exact (Reps.none _ _)); intro v102 w3 ho4 hb hg_ hnew_; clear hg_ hnew_; (first | rw [← Ny101.out] at ho4 | (simp only [Int.reduceToNat] at ho4; rw [← Ny101.out] at ho4)); have HO103 := AM (Kd.R_lower ho4 (keep_size (w := w) (g := g) (row := none) (hX HK.out))); replace HI0 := AM (IsS58.below (jX15 HI0.out) hb); replace HK := AM (KeepBut.trans (hX HK.out) (KeepBut.of_below hb g none) (.inl rfl)); replace HB := AM (below_step (jX4 HB.out) hb); clear hb ho4) | ((with_reducible refine gate_callee (f := 15) rfl ?_); refine gL (some 8) Try.func15 #[.pointer (some ⟨g, 0, none⟩), .int .i64 30] ?_; (with_reducible refine (spec_l01Src_n.calls g _ _ _ _ _ _ _ _ _ w0 _ ?s1 ?s2 A2.out).mono ?_); (case s1 => exact (jX15 HI0.out)); (case s2 => exact (jX4 HB.out)); rintro e w5 ⟨rfl, hi, hb, hk⟩; refine ⟨_, rfl, ?_⟩; have _ := IsS58.aR (show IsS58 w0 _ g s0_0 s0_1 s0_2 s0_3 from jX15 HI0.out) HO103 hk; have _ := AM (KeepBut.trans (hX HK.out) hk (.inl rfl)); have _ := AM (hb); have _ := AM (hi); clear HO103 HK HB HI0; rename_i HO103 HK HB HI0))
 go_loopg [3, 4] k (fun kq v3 v4 w' => ∃ (x3_1 : List (S67)) (x4_1 : Int) (x1001_1 : Int) (x1002_1 : Int) (x1003_1 : Int), v4 = .int .i64 x4_1 ∧ Aside0 (spec_l01Src_l11Votes.l0 kq x3_1 x4_1 s0_0 x1001_1 x1002_1 x1003_1 = some (r1, r2, r3, r4)) ∧ Aside0 (kq ≤ k) ∧ Aside0 (Kd.R k67 67 w' w.heap.size (fun _ => True) v3 x3_1) ∧ Aside0 (IsS58 w0 w' g s0_0 x1001_1 x1002_1 x1003_1) ∧ Aside0 (KeepBut w w' g none) ∧ Aside0 (Below w0.heap.size w0 w'))
 case atStart => exact ⟨(y101), (t104), (t105), (t106), (t107), rR, H', ⟨Nat.le_refl _⟩, ⟨rX HO103.out⟩, ⟨jX15 HI0.out⟩, ⟨hX HK.out⟩, ⟨jX4 HB.out⟩⟩
 case round =>
  clear H'; (try clear c1); (try clear c2); (try clear p2); obtain ⟨x3_1, x4_1, x1001_1, x1002_1, x1003_1, rfl, HA, HK1, HO_3, HI0, HK, HB⟩ := hrel
  cases gk with
  | zero => exact absurd HA.out (by simp [spec_l01Src_l11Votes.l0])
  | succ k1 =>
   have H := HA.out; clear HA; simp only [spec_l01Src_l11Votes.l0] at H
   by_cases c6 : x4_1 > 0
   ·
    rw [if_pos c6] at H; have c6b0 : decide (0 < x4_1) = true := dY c6; clear c6; replace H := oM H; obtain ⟨⟨t108, t109, t110, t111, t112, t113, t114, t115⟩, A70, H⟩ := H; try dsimp only at H
    have A7 := AM A70; clear A70; replace H := oM H; obtain ⟨⟨t116, t119, t120⟩, A80, H⟩ := H; try dsimp only at H
    have A8 := AM A80; clear A80; by_cases c9 : t120 = 0
    ·
     rw [if_pos c9] at H; have c9b0 : (t120 == 0) = true := beq_iff_eq.mpr c9; have c9b1 : (t120 != 0) = false := bne_eq_false_iff_eq.mpr c9; clear c9; have H' := AM H; clear H; go_wp2_with (first | ((with_reducible refine gate_callee (f := 37) rfl ?_); refine gL (some 15) Try.func37 #[.pointer (some ⟨g, 0, none⟩)] ?_; (with_reducible refine (spec_l01Src_l11Some.calls g _ _ _ _ _ _ _ _ _ _ _ _ w0 _ ?s1 ?s2 A7.out).mono ?_); (case s1 => exact (jX15 HI0.out)); (case s2 => exact (jX4 HB.out)); rintro e w10 ⟨rfl, hi, hb, hk⟩; refine ⟨_, rfl, ?_⟩; replace HO_3 := IsS58.aR (show IsS58 w0 _ g s0_0 x1001_1 x1002_1 x1003_1 from jX15 HI0.out) HO_3 hk; replace HK := AM (KeepBut.trans (hX HK.out) hk (.inl rfl)); replace HB := AM (hb); replace HI0 := AM (hi); obtain ⟨Ao11, co11, eo11⟩ := Kd.R_slice HO_3.out; subst eo11) | ((with_reducible refine gate_callee (f := 36) rfl ?_); refine gL (some 16) Try.func36 #[.slice Ao11 x3_1.length co11, .agg #[.int .i64 t108, .int .i64 t109, .int .i64 t110, .string t111, .int .i64 t112]] ?_; (with_reducible refine (spec_VoteAdd.calls _ _ _ _ _ _ _ _ _ _ _ _ _ ?s1 ?s2 A8.out).mono ?_); (case s1 => exact cX (Kd.R_reads' HO_3.out).2.2); (case s2 => exact (Kd.R_reads' HO_3.out).2.1); rintro e w12 ⟨v117, rfl, ho0, hb⟩; refine ⟨_, rfl, ?_⟩; have HO118 := AM (Kd.R_lower (Kd.R_new' ho0 (Kd.R_lt (rX HO_3.out))) (keep_size (w := w) (g := g) (row := none) (hX HK.out))); replace HO_3 := eR HO_3 ho0 hb; replace HI0 := AM (IsS58.below (jX15 HI0.out) hb); replace HK := AM (KeepBut.trans (hX HK.out) (KeepBut.of_below hb g none) (.inl rfl)); replace HB := AM (below_step (jX4 HB.out) hb); (try clear ho0)) | (refine bE (N := 5) (cs := zz3) (t := 64) ?_; intro gb121 hg w13 hbox hb; have _ := rY HO_3 hb; have _ := rY HO118 hb; have _ := AM (IsS58.below (jX15 HI0.out) hb); have _ := AM (KeepBut.trans (hX HK.out) (KeepBut.of_below hb g none) (.inl rfl)); have _ := AM (below_step (jX4 HB.out) hb); have _ := AM (hbox); have _ := AM ((by rw [hg]; exact (keep_size (w := w) (g := g) (row := none) (hX HK.out)) : w.heap.size ≤ gb121)); have _ := AM ((Nat.le_trans HW0.out (by rw [hg]; exact (keep_size (w := w) (g := g) (row := none) (hX HK.out)) : w.heap.size ≤ gb121) : w0.heap.size ≤ gb121)); have _ := AM ((by rw [hg]; exact Nat.ne_of_lt (IsS58.lt (show IsS58 w0 _ g s0_0 t113 t114 t115 from jX15 HI0.out)) : g ≠ gb121)); have _ := AM ((by rw [hg]; exact Nat.ne_of_gt (IsS58.lt (show IsS58 w0 _ g s0_0 t113 t114 t115 from jX15 HI0.out)) : gb121 ≠ g)); clear HO_3 HO118 HI0 HK HB; rename_i HO_3 HO118 HI0 HK HB BK121 GW121 GE121 NB0_121 NB121_0; clear hb hbox hg; obtain ⟨Ao14, co14, eo14⟩ := Kd.R_slice HO118.out; subst eo14; have hnb15 := nP NB121_0; have hcz16 := q3 BK121.out; have hfz16 := fZ BK121.out))
     go_roundg k1
     case measure => have := HK1.out; omega
     case rel => exact ⟨(t116), (wrap64 (x4_1 - 1)), (t113), (t114), (t115), rR, H', ⟨by have := HK1.out; omega⟩, ⟨by (with_reducible repeat (first | apply rA | apply rN | apply rD)); exact rt3 HO118.out BK121.out (by decide) (fun _ hk => trivial)⟩, ⟨jX15 HI0.out⟩, ⟨hX HK.out⟩, ⟨jX4 HB.out⟩⟩
    rw [if_neg c9] at H; have c9b0 : (t120 == 0) = false := beq_eq_false_iff_ne.mpr c9; have c9b1 : (t120 != 0) = true := bne_iff_ne.mpr c9; have H' := AM H; clear H; go_wp2_with (first | ((with_reducible refine gate_callee (f := 37) rfl ?_); refine gL (some 15) Try.func37 #[.pointer (some ⟨g, 0, none⟩)] ?_; (with_reducible refine (spec_l01Src_l11Some.calls g _ _ _ _ _ _ _ _ _ _ _ _ w0 _ ?s1 ?s2 A7.out).mono ?_); (case s1 => exact (jX15 HI0.out)); (case s2 => exact (jX4 HB.out)); rintro e w17 ⟨rfl, hi, hb, hk⟩; refine ⟨_, rfl, ?_⟩; replace HO_3 := IsS58.aR (show IsS58 w0 _ g s0_0 x1001_1 x1002_1 x1003_1 from jX15 HI0.out) HO_3 hk; replace HK := AM (KeepBut.trans (hX HK.out) hk (.inl rfl)); replace HB := AM (hb); replace HI0 := AM (hi); obtain ⟨Ao18, co18, eo18⟩ := Kd.R_slice HO_3.out; subst eo18) | ((with_reducible refine gate_callee (f := 36) rfl ?_); refine gL (some 16) Try.func36 #[.slice Ao18 x3_1.length co18, .agg #[.int .i64 t108, .int .i64 t109, .int .i64 t110, .string t111, .int .i64 t112]] ?_; (with_reducible refine (spec_VoteAdd.calls _ _ _ _ _ _ _ _ _ _ _ _ _ ?s1 ?s2 A8.out).mono ?_); (case s1 => exact cX (Kd.R_reads' HO_3.out).2.2); (case s2 => exact (Kd.R_reads' HO_3.out).2.1); rintro e w19 ⟨v117, rfl, ho0, hb⟩; refine ⟨_, rfl, ?_⟩; have HO118 := AM (Kd.R_lower (Kd.R_new' ho0 (Kd.R_lt (rX HO_3.out))) (keep_size (w := w) (g := g) (row := none) (hX HK.out))); replace HO_3 := eR HO_3 ho0 hb; replace HI0 := AM (IsS58.below (jX15 HI0.out) hb); replace HK := AM (KeepBut.trans (hX HK.out) (KeepBut.of_below hb g none) (.inl rfl)); replace HB := AM (below_step (jX4 HB.out) hb); (try clear ho0)) | (refine bE (N := 5) (cs := zz3) (t := 64) ?_; intro gb121 hg w20 hbox hb; have _ := rY HO_3 hb; have _ := rY HO118 hb; have _ := AM (IsS58.below (jX15 HI0.out) hb); have _ := AM (KeepBut.trans (hX HK.out) (KeepBut.of_below hb g none) (.inl rfl)); have _ := AM (below_step (jX4 HB.out) hb); have _ := AM (hbox); have _ := AM ((by rw [hg]; exact (keep_size (w := w) (g := g) (row := none) (hX HK.out)) : w.heap.size ≤ gb121)); have _ := AM ((Nat.le_trans HW0.out (by rw [hg]; exact (keep_size (w := w) (g := g) (row := none) (hX HK.out)) : w.heap.size ≤ gb121) : w0.heap.size ≤ gb121)); have _ := AM ((by rw [hg]; exact Nat.ne_of_lt (IsS58.lt (show IsS58 w0 _ g s0_0 t113 t114 t115 from jX15 HI0.out)) : g ≠ gb121)); have _ := AM ((by rw [hg]; exact Nat.ne_of_gt (IsS58.lt (show IsS58 w0 _ g s0_0 t113 t114 t115 from jX15 HI0.out)) : gb121 ≠ g)); clear HO_3 HO118 HI0 HK HB; rename_i HO_3 HO118 HI0 HK HB BK121 GW121 GE121 NB0_121 NB121_0; clear hb hbox hg; obtain ⟨Ao21, co21, eo21⟩ := Kd.R_slice HO118.out; subst eo21; have hnb22 := nP NB121_0; have hcz23 := q3 BK121.out; have hfz23 := fZ BK121.out))
    go_roundg k1
    case measure => have := HK1.out; omega
    case rel => exact ⟨(x3_1), (wrap64 (x4_1 - 1)), (t113), (t114), (t115), rR, H', ⟨by have := HK1.out; omega⟩, ⟨by (with_reducible repeat (first | apply rA | apply rN | apply rD)); exact rt3 HO_3.out BK121.out (by decide) (fun _ hk => trivial)⟩, ⟨jX15 HI0.out⟩, ⟨hX HK.out⟩, ⟨jX4 HB.out⟩⟩
   rw [if_neg c6] at H; have c6b0 : decide (0 < x4_1) = false := dN c6; clear c6; replace H := oM H; obtain ⟨⟨t122, t123, t124, t125⟩, A240, H⟩ := H; try dsimp only at H
   have A24 := AM A240; clear A240; by_cases c25 : t122 = true
   ·
    subst c25; rw [if_pos rfl] at H; replace H := oM H; obtain ⟨⟨t126, t127, t128, t129, t130, t131, t132, t133⟩, A260, H⟩ := H; try dsimp only at H
    have A26 := AM A260; clear A260; by_cases c27 : x3_1.length < 2932031007402
    ·
     rw [if_pos c27] at H; have LMc27 := AM c27; clear c27; obtain ⟨y134, hy134⟩ : ∃ y_ : List (S67), y_ = (x3_1 ++ [(⟨t126, t127, t128, t129, t130⟩ : S67)]) := ⟨_, rfl⟩; replace H : (some (y134, t131, t132, t133)) = some (r1, r2, r3, r4) := hS hy134 H
     have Ny134 := AM hy134; clear hy134; simp only [Option.some.injEq, Prod.mk.injEq] at H
     obtain ⟨rfl, rfl, rfl, rfl⟩ := H; go_wp2_with (first | ((with_reducible refine gate_callee (f := 16) rfl ?_); refine gL (some 23) Try.func16 #[.pointer (some ⟨g, 0, none⟩), .int .i64 25] ?_; (with_reducible refine (spec_l01Src_one.calls g _ _ _ _ _ _ _ _ _ w0 _ ?s1 ?s2 A24.out).mono ?_); (case s1 => exact (jX15 HI0.out)); (case s2 => exact (jX4 HB.out)); rintro e w28 ⟨rfl, hi, hb, hk⟩; refine ⟨_, rfl, ?_⟩; have _ := IsS58.aR (show IsS58 w0 _ g s0_0 x1001_1 x1002_1 x1003_1 from jX15 HI0.out) HO_3 hk; have _ := AM (KeepBut.trans (hX HK.out) hk (.inl rfl)); have _ := AM (hb); have _ := AM (hi); clear HO_3 HK HB HI0; rename_i HO_3 HK HB HI0) | ((with_reducible refine gate_callee (f := 37) rfl ?_); refine gL (some 26) Try.func37 #[.pointer (some ⟨g, 0, none⟩)] ?_; (with_reducible refine (spec_l01Src_l11Some.calls g _ _ _ _ _ _ _ _ _ _ _ _ w0 _ ?s1 ?s2 A26.out).mono ?_); (case s1 => exact (jX15 HI0.out)); (case s2 => exact (jX4 HB.out)); rintro e w29 ⟨rfl, hi, hb, hk⟩; refine ⟨_, rfl, ?_⟩; have _ := IsS58.aR (show IsS58 w0 _ g s0_0 t123 t124 t125 from jX15 HI0.out) HO_3 hk; have _ := AM (KeepBut.trans (hX HK.out) hk (.inl rfl)); have _ := AM (hb); have _ := AM (hi); clear HO_3 HK HB HI0; rename_i HO_3 HK HB HI0) | ((with_reducible refine gate_builtin (b := .append) (xs := #[.tmp 24, .tmp 27]) rfl ?_); at_builtin; refine Kd.R_append k67 w.heap.size rfl (.tmp 24) (.tmp 27) 35 67 (.agg #[(.int .i64 0), (.int .i64 0), (.int .i64 0), (.string ⟨#[]⟩), (.int .i64 0)]) 48 rfl Try.underlying35 info67 rfl (by decide) (by omega) u3 x3_1 (⟨t126, t127, t128, t129, t130⟩ : S67) [.int .i64 t126, .int .i64 t127, .int .i64 t128, .string t129, .int .i64 t130] (fun _ => True) (fun _ => False) rfl rfl ?aP (fun _ hk => hk.elim) ?aF ?aO (Below.refl _ _) ?aS ?aL ?_; (case aP => exact k67_mkM _ _ _ (⟨t126, t127, t128, t129, t130⟩ : S67)); (case aF => exact (fun _ _ => trivial)); (case aO => exact (rX HO_3.out)); (case aS => exact (keep_size (w := w) (g := g) (row := none) (hX HK.out))); (case aL => have := LMc27.out; omega); intro v135 w30 ho hb hg hat; rw [← Ny134.out] at ho; have _ := AM (IsS58.grown (jX15 HI0.out) hg (IsS58.own_ne HI0.out HO_3.out (by decide))); have _ := AM (below_weaken (jX4 HB.out) HL.out hb); have _ := AM (KeepBut.trans (hX HK.out) (KeepBut.of_grown hg g) (Kd.R_base2 HO_3.out)); have _ := AM (ho); clear HI0 HB HK HO_3; rename_i HI0 HB HK HO136; clear ho hb hg hat))
     go_ret
     exact ⟨_, rE, rX HO136.out, jX15 HI0.out, jX4 HB.out, hX HK.out⟩
    rw [if_neg c27] at H; exact absurd H (by simp)
   replace c25 := oE c25; subst c25; rw [if_neg nft] at H; simp only [Option.some.injEq, Prod.mk.injEq] at H
   obtain ⟨rfl, rfl, rfl, rfl⟩ := H; go_wp2_with (first | ((with_reducible refine gate_callee (f := 16) rfl ?_); refine gL (some 23) Try.func16 #[.pointer (some ⟨g, 0, none⟩), .int .i64 25] ?_; (with_reducible refine (spec_l01Src_one.calls g _ _ _ _ _ _ _ _ _ w0 _ ?s1 ?s2 A24.out).mono ?_); (case s1 => exact (jX15 HI0.out)); (case s2 => exact (jX4 HB.out)); rintro e w31 ⟨rfl, hi, hb, hk⟩; refine ⟨_, rfl, ?_⟩; have _ := IsS58.aR (show IsS58 w0 _ g s0_0 x1001_1 x1002_1 x1003_1 from jX15 HI0.out) HO_3 hk; have _ := AM (KeepBut.trans (hX HK.out) hk (.inl rfl)); have _ := AM (hb); have _ := AM (hi); clear HO_3 HK HB HI0; rename_i HO_3 HK HB HI0))
   go_ret
   exact ⟨_, rE, rX HO_3.out, jX15 HI0.out, jX4 HB.out, hX HK.out⟩

/-! ### spec_DrawChangeOf: function 7 -/

def spec_DrawChangeOf.f (k : Nat) (l0 : List Int) : Option ((List (S67)) × Int × Int) := (spec_l01Source.f k l0).bind fun bt101 => ((spec_l01Src_l11Votes.f k bt101.1 bt101.2.1 bt101.2.2.1 bt101.2.2.2).bind fun bt106 => ((spec_l01Src_n.f bt101.1 bt106.2.1 bt106.2.2.1 bt106.2.2.2 5).bind fun bt112 => ((spec_l01Src_n.f bt101.1 bt112.2.1 bt112.2.2.1 bt112.2.2.2 4).bind fun bt116 => (some (bt106.1, bt112.1, bt116.1)))))
theorem jX7 {n : Nat} {w W W' : World} (h : Below n w W) (f : Below n w W → Below n w W' := by intro h_; repeat (first | (with_reducible first | exact h_ | apply bA | apply bN | apply bD | refine bS ?_ (IsS58.ge HI105.out) | refine bS ?_ (Aside0.out (by assumption))) | exact h_)) : Below n w W' := f h
theorem jX9 {p q : Prop} (h : p) (f : p → q := by intro h_; repeat (first | (with_reducible first | exact h_ | apply IsS58.alloc | apply IsS58.drewN | apply IsS58.drew | apply IsS58.set_1 | apply IsS58.set_2 | apply IsS58.set_3 | refine IsS58.far ?_ (Aside0.out (by assumption)) _ | apply IsS58.far | exact Aside0.out (by assumption)) | exact h_)) : q := f h
set_option maxHeartbeats 60000000 in
set_option maxRecDepth 100000 in
theorem spec_DrawChangeOf.calls (k : Nat) (A0 : Option Addr) (c0 : Nat) (l0 : List Int) (r1 : List (S67)) (r2 : Int) (r3 : Int) (w : World) (hr0 : Kd.C (Kd.int .u8) w A0 l0.length l0) (hc0 : l0.length ≤ c0) (h : spec_DrawChangeOf.f k l0 = some (r1, r2, r3)) :
    Calls Try.prog 7 #[.slice A0 l0.length c0] w fun e w' => ∃ v0_ : Value, e = .returned (.tuple #[v0_, .int .i64 r2, .int .i64 r3]) ∧ Kd.R k67 67 w' w.heap.size (fun _ => True) v0_ r1 ∧ Below w.heap.size w w' := by
 have HR0 := AM hr0; have HC0 := AM hc0; clear hr0 hc0; have HB := AM (Below.refl w.heap.size w); have H : ((spec_l01Source.f k l0).bind fun bt101 => ((spec_l01Src_l11Votes.f k bt101.1 bt101.2.1 bt101.2.2.1 bt101.2.2.2).bind fun bt106 => ((spec_l01Src_n.f bt101.1 bt106.2.1 bt106.2.2.1 bt106.2.2.2 5).bind fun bt112 => ((spec_l01Src_n.f bt101.1 bt112.2.1 bt112.2.2.1 bt112.2.2.2 4).bind fun bt116 => (some (bt106.1, bt112.1, bt116.1)))))) = some (r1, r2, r3) := h; clear h; replace H := oM H; obtain ⟨⟨t101, t102, t103, t104⟩, A20, H⟩ := H; try dsimp only at H
 have A2 := AM A20; clear A20; replace H := oM H; obtain ⟨⟨t106, t109, t110, t111⟩, A30, H⟩ := H; try dsimp only at H
 have A3 := AM A30; clear A30; replace H := oM H; obtain ⟨⟨t112, t113, t114, t115⟩, A40, H⟩ := H; try dsimp only at H
 have A4 := AM A40; clear A40; replace H := oM H; obtain ⟨⟨t116, t117, t118, t119⟩, A50, H⟩ := H; try dsimp only at H
 have A5 := AM A50; clear A50; simp only [Option.some.injEq, Prod.mk.injEq] at H
 obtain ⟨rfl, rfl, rfl⟩ := H; go_enter Try.func7, Try.ntmps7
 go_wp2_with (first | ((with_reducible refine gate_callee (f := 14) rfl ?_); refine gL (some 9) Try.func14 #[.slice A0 l0.length c0] ?_; (with_reducible refine (spec_l01Source.calls _ _ _ _ _ _ _ _ w _ ?s1 ?s2 ?s3 A2.out).mono ?_); (case s1 => exact (bX HB.out)); (case s2 => exact HR0.out); (case s3 => exact HC0.out); rintro e w6 ⟨g105, rfl, hi, hb, hb2⟩; refine ⟨_, rfl, ?_⟩; have _ := AM (hb); have _ := AM (hi); clear HB; rename_i HB HI105) | ((with_reducible refine gate_callee (f := 21) rfl ?_); refine gL (some 11) Try.func21 #[.pointer (some ⟨g105, 0, none⟩)] ?_; (with_reducible refine (spec_l01Src_l11Votes.calls _ g105 _ _ _ _ _ _ _ _ w _ ?s1 ?s2 A3.out).mono ?_); (case s1 => exact (jX9 HI105.out)); (case s2 => exact (jX7 HB.out)); rintro e w7 ⟨v107, rfl, ho0, hi, hb, hk⟩; refine ⟨_, rfl, ?_⟩; have HO108 := AM (Kd.R_lower ho0 (bZ (jX7 HB.out))); replace HB := AM (hb); replace HI105 := AM (hi); (try clear ho0)) | ((with_reducible refine gate_callee (f := 15) rfl ?_); refine gL (some 13) Try.func15 #[.pointer (some ⟨g105, 0, none⟩), .int .i64 5] ?_; (with_reducible refine (spec_l01Src_n.calls g105 _ _ _ _ _ _ _ _ _ w _ ?s1 ?s2 A4.out).mono ?_); (case s1 => exact (jX9 HI105.out)); (case s2 => exact (jX7 HB.out)); rintro e w8 ⟨rfl, hi, hb, hk⟩; refine ⟨_, rfl, ?_⟩; have _ := IsS58.aR (show IsS58 w _ g105 t101 t109 t110 t111 from jX9 HI105.out) HO108 hk; have _ := AM (hb); have _ := AM (hi); clear HO108 HB HI105; rename_i HO108 HB HI105) | ((with_reducible refine gate_callee (f := 15) rfl ?_); refine gL (some 17) Try.func15 #[.pointer (some ⟨g105, 0, none⟩), .int .i64 4] ?_; (with_reducible refine (spec_l01Src_n.calls g105 _ _ _ _ _ _ _ _ _ w _ ?s1 ?s2 A5.out).mono ?_); (case s1 => exact (jX9 HI105.out)); (case s2 => exact (jX7 HB.out)); rintro e w9 ⟨rfl, hi, hb, hk⟩; refine ⟨_, rfl, ?_⟩; have _ := IsS58.aR (show IsS58 w _ g105 t101 t113 t114 t115 from jX9 HI105.out) HO108 hk; have _ := AM (hb); have _ := AM (hi); clear HO108 HB HI105; rename_i HO108 HB HI105))
 go_ret3
 exact ⟨_, rE, rX HO108.out, jX7 HB.out⟩

/-! ### impl_isVote: function 38 -/

def impl_isVote.f (a0_0 : Int) (a0_1 : Int) (a0_2 : Int) (a0_3 : ByteArray) (a0_4 : Int) : Option (Bool) := if a0_0 = 2 then ((impl_isView.f a0_1 0).bind fun t102 => (if t102 = true then ((impl_isSeq.f a0_2).bind fun t103 => (if t103 = true then ((impl_isOp.f a0_3).bind fun t104 => (if t104 = true then ((impl_isReplica.f a0_4).bind fun t105 => (some t105)) else (some false))) else (some false))) else (some false))) else (if a0_0 = 3 then ((impl_isView.f a0_1 0).bind fun t106 => (if t106 = true then ((impl_isSeq.f a0_2).bind fun t107 => (if t107 = true then ((impl_isOp.f a0_3).bind fun t108 => (if t108 = true then ((impl_isReplica.f a0_4).bind fun t109 => (some t109)) else (some false))) else (some false))) else (some false))) else (some false))
set_option maxHeartbeats 60000000 in
set_option maxRecDepth 100000 in
theorem impl_isVote.calls (a0_0 : Int) (a0_1 : Int) (a0_2 : Int) (a0_3 : ByteArray) (a0_4 : Int) (r : Bool) (w : World) (h : impl_isVote.f a0_0 a0_1 a0_2 a0_3 a0_4 = some r) :
    Calls Try.prog 38 #[.agg #[.int .i64 a0_0, .int .i64 a0_1, .int .i64 a0_2, .string a0_3, .int .i64 a0_4]] w fun e w' => e = .returned (.bool r) ∧ Below w.heap.size w w' := by
 have hu67 := Try.underlying67; have HB := AM (Below.refl w.heap.size w); have H : (if a0_0 = 2 then ((impl_isView.f a0_1 0).bind fun t102 => (if t102 = true then ((impl_isSeq.f a0_2).bind fun t103 => (if t103 = true then ((impl_isOp.f a0_3).bind fun t104 => (if t104 = true then ((impl_isReplica.f a0_4).bind fun t105 => (some t105)) else (some false))) else (some false))) else (some false))) else (if a0_0 = 3 then ((impl_isView.f a0_1 0).bind fun t106 => (if t106 = true then ((impl_isSeq.f a0_2).bind fun t107 => (if t107 = true then ((impl_isOp.f a0_3).bind fun t108 => (if t108 = true then ((impl_isReplica.f a0_4).bind fun t109 => (some t109)) else (some false))) else (some false))) else (some false))) else (some false))) = some r := h; clear h; by_cases c2 : a0_0 = 2
 ·
  rw [if_pos c2] at H; have c2b0 : (a0_0 == 2) = true := beq_iff_eq.mpr c2; have c2b1 : (a0_0 != 2) = false := bne_eq_false_iff_eq.mpr c2; clear c2; replace H := oM H; obtain ⟨t102, A30, H⟩ := H; have A3 := AM A30; clear A30; by_cases c4 : t102 = true
  ·
   subst c4; rw [if_pos rfl] at H; replace H := oM H; obtain ⟨t103, A50, H⟩ := H; have A5 := AM A50; clear A50; by_cases c6 : t103 = true
   ·
    subst c6; rw [if_pos rfl] at H; replace H := oM H; obtain ⟨t104, A70, H⟩ := H; have A7 := AM A70; clear A70; by_cases c8 : t104 = true
    ·
     subst c8; rw [if_pos rfl] at H; replace H := oM H; obtain ⟨t105, A90, H⟩ := H; have A9 := AM A90; clear A90; obtain rfl := Option.some.inj H; go_enter Try.func38, Try.ntmps38
     go_wp2_with (first | (refine bE (N := 1) (cs := #[.int .i64 a0_0, .int .i64 a0_1, .int .i64 a0_2, .string a0_3, .int .i64 a0_4]) (t := 67) ?_; intro gb101 hg w10 hbox hb; have GW101 := gY hg HB; have GE101 := GW101; have BK101 := AM (hbox); replace HB := bY HB hb; clear hb hbox hg; have hcz11 := q5 BK101.out; have hfz11 := fZ BK101.out) | (go_at_call 24; (with_reducible refine (impl_isView.calls _ _ _ _ A3.out).mono ?_); rintro e w' ⟨rfl, ⟨nd, rfl⟩⟩) | (go_at_call 51; (with_reducible refine (impl_isSeq.calls _ _ _ A5.out).mono ?_); rintro e w' ⟨rfl, ⟨nd, rfl⟩⟩) | (go_at_call 52; (with_reducible refine (impl_isOp.calls _ _ _ A7.out).mono ?_); rintro e w' ⟨rfl, ⟨nd, rfl⟩⟩) | (go_at_call 23; (with_reducible refine (impl_isReplica.calls _ _ _ A9.out).mono ?_); rintro e w' ⟨rfl, ⟨nd, rfl⟩⟩))
     go_ret
     exact ⟨rE, bX HB.out⟩
    replace c8 := oE c8; subst c8; rw [if_neg nft] at H; obtain rfl := Option.some.inj H; go_enter Try.func38, Try.ntmps38
    go_wp2_with (first | (refine bE (N := 1) (cs := #[.int .i64 a0_0, .int .i64 a0_1, .int .i64 a0_2, .string a0_3, .int .i64 a0_4]) (t := 67) ?_; intro gb101 hg w12 hbox hb; have GW101 := gY hg HB; have GE101 := GW101; have BK101 := AM (hbox); replace HB := bY HB hb; clear hb hbox hg; have hcz13 := q5 BK101.out; have hfz13 := fZ BK101.out) | (go_at_call 24; (with_reducible refine (impl_isView.calls _ _ _ _ A3.out).mono ?_); rintro e w' ⟨rfl, ⟨nd, rfl⟩⟩) | (go_at_call 51; (with_reducible refine (impl_isSeq.calls _ _ _ A5.out).mono ?_); rintro e w' ⟨rfl, ⟨nd, rfl⟩⟩) | (go_at_call 52; (with_reducible refine (impl_isOp.calls _ _ _ A7.out).mono ?_); rintro e w' ⟨rfl, ⟨nd, rfl⟩⟩))
    go_ret
    exact ⟨rE, bX HB.out⟩
   replace c6 := oE c6; subst c6; rw [if_neg nft] at H; obtain rfl := Option.some.inj H; go_enter Try.func38, Try.ntmps38
   go_wp2_with (first | (refine bE (N := 1) (cs := #[.int .i64 a0_0, .int .i64 a0_1, .int .i64 a0_2, .string a0_3, .int .i64 a0_4]) (t := 67) ?_; intro gb101 hg w14 hbox hb; have GW101 := gY hg HB; have GE101 := GW101; have BK101 := AM (hbox); replace HB := bY HB hb; clear hb hbox hg; have hcz15 := q5 BK101.out; have hfz15 := fZ BK101.out) | (go_at_call 24; (with_reducible refine (impl_isView.calls _ _ _ _ A3.out).mono ?_); rintro e w' ⟨rfl, ⟨nd, rfl⟩⟩) | (go_at_call 51; (with_reducible refine (impl_isSeq.calls _ _ _ A5.out).mono ?_); rintro e w' ⟨rfl, ⟨nd, rfl⟩⟩))
   go_ret
   exact ⟨rE, bX HB.out⟩
  replace c4 := oE c4; subst c4; rw [if_neg nft] at H; obtain rfl := Option.some.inj H; go_enter Try.func38, Try.ntmps38
  go_wp2_with (first | (refine bE (N := 1) (cs := #[.int .i64 a0_0, .int .i64 a0_1, .int .i64 a0_2, .string a0_3, .int .i64 a0_4]) (t := 67) ?_; intro gb101 hg w16 hbox hb; have GW101 := gY hg HB; have GE101 := GW101; have BK101 := AM (hbox); replace HB := bY HB hb; clear hb hbox hg; have hcz17 := q5 BK101.out; have hfz17 := fZ BK101.out) | (go_at_call 24; (with_reducible refine (impl_isView.calls _ _ _ _ A3.out).mono ?_); rintro e w' ⟨rfl, ⟨nd, rfl⟩⟩))
  go_ret
  exact ⟨rE, bX HB.out⟩
 rw [if_neg c2] at H; have c2b0 : (a0_0 == 2) = false := beq_eq_false_iff_ne.mpr c2; have c2b1 : (a0_0 != 2) = true := bne_iff_ne.mpr c2; by_cases c18 : a0_0 = 3
 ·
  rw [if_pos c18] at H; have c18b0 : (a0_0 == 3) = true := beq_iff_eq.mpr c18; have c18b1 : (a0_0 != 3) = false := bne_eq_false_iff_eq.mpr c18; clear c18; replace H := oM H; obtain ⟨t106, A190, H⟩ := H; have A19 := AM A190; clear A190; by_cases c20 : t106 = true
  ·
   subst c20; rw [if_pos rfl] at H; replace H := oM H; obtain ⟨t107, A210, H⟩ := H; have A21 := AM A210; clear A210; by_cases c22 : t107 = true
   ·
    subst c22; rw [if_pos rfl] at H; replace H := oM H; obtain ⟨t108, A230, H⟩ := H; have A23 := AM A230; clear A230; by_cases c24 : t108 = true
    ·
     subst c24; rw [if_pos rfl] at H; replace H := oM H; obtain ⟨t109, A250, H⟩ := H; have A25 := AM A250; clear A250; obtain rfl := Option.some.inj H; go_enter Try.func38, Try.ntmps38
     go_wp2_with (first | (refine bE (N := 1) (cs := #[.int .i64 a0_0, .int .i64 a0_1, .int .i64 a0_2, .string a0_3, .int .i64 a0_4]) (t := 67) ?_; intro gb101 hg w26 hbox hb; have GW101 := gY hg HB; have GE101 := GW101; have BK101 := AM (hbox); replace HB := bY HB hb; clear hb hbox hg; have hcz27 := q5 BK101.out; have hfz27 := fZ BK101.out) | (go_at_call 24; (with_reducible refine (impl_isView.calls _ _ _ _ A19.out).mono ?_); rintro e w' ⟨rfl, ⟨nd, rfl⟩⟩) | (go_at_call 51; (with_reducible refine (impl_isSeq.calls _ _ _ A21.out).mono ?_); rintro e w' ⟨rfl, ⟨nd, rfl⟩⟩) | (go_at_call 52; (with_reducible refine (impl_isOp.calls _ _ _ A23.out).mono ?_); rintro e w' ⟨rfl, ⟨nd, rfl⟩⟩) | (go_at_call 23; (with_reducible refine (impl_isReplica.calls _ _ _ A25.out).mono ?_); rintro e w' ⟨rfl, ⟨nd, rfl⟩⟩))
     go_ret
     exact ⟨rE, bX HB.out⟩
    replace c24 := oE c24; subst c24; rw [if_neg nft] at H; obtain rfl := Option.some.inj H; go_enter Try.func38, Try.ntmps38
    go_wp2_with (first | (refine bE (N := 1) (cs := #[.int .i64 a0_0, .int .i64 a0_1, .int .i64 a0_2, .string a0_3, .int .i64 a0_4]) (t := 67) ?_; intro gb101 hg w28 hbox hb; have GW101 := gY hg HB; have GE101 := GW101; have BK101 := AM (hbox); replace HB := bY HB hb; clear hb hbox hg; have hcz29 := q5 BK101.out; have hfz29 := fZ BK101.out) | (go_at_call 24; (with_reducible refine (impl_isView.calls _ _ _ _ A19.out).mono ?_); rintro e w' ⟨rfl, ⟨nd, rfl⟩⟩) | (go_at_call 51; (with_reducible refine (impl_isSeq.calls _ _ _ A21.out).mono ?_); rintro e w' ⟨rfl, ⟨nd, rfl⟩⟩) | (go_at_call 52; (with_reducible refine (impl_isOp.calls _ _ _ A23.out).mono ?_); rintro e w' ⟨rfl, ⟨nd, rfl⟩⟩))
    go_ret
    exact ⟨rE, bX HB.out⟩
   replace c22 := oE c22; subst c22; rw [if_neg nft] at H; obtain rfl := Option.some.inj H; go_enter Try.func38, Try.ntmps38
   go_wp2_with (first | (refine bE (N := 1) (cs := #[.int .i64 a0_0, .int .i64 a0_1, .int .i64 a0_2, .string a0_3, .int .i64 a0_4]) (t := 67) ?_; intro gb101 hg w30 hbox hb; have GW101 := gY hg HB; have GE101 := GW101; have BK101 := AM (hbox); replace HB := bY HB hb; clear hb hbox hg; have hcz31 := q5 BK101.out; have hfz31 := fZ BK101.out) | (go_at_call 24; (with_reducible refine (impl_isView.calls _ _ _ _ A19.out).mono ?_); rintro e w' ⟨rfl, ⟨nd, rfl⟩⟩) | (go_at_call 51; (with_reducible refine (impl_isSeq.calls _ _ _ A21.out).mono ?_); rintro e w' ⟨rfl, ⟨nd, rfl⟩⟩))
   go_ret
   exact ⟨rE, bX HB.out⟩
  replace c20 := oE c20; subst c20; rw [if_neg nft] at H; obtain rfl := Option.some.inj H; go_enter Try.func38, Try.ntmps38
  go_wp2_with (first | (refine bE (N := 1) (cs := #[.int .i64 a0_0, .int .i64 a0_1, .int .i64 a0_2, .string a0_3, .int .i64 a0_4]) (t := 67) ?_; intro gb101 hg w32 hbox hb; have GW101 := gY hg HB; have GE101 := GW101; have BK101 := AM (hbox); replace HB := bY HB hb; clear hb hbox hg; have hcz33 := q5 BK101.out; have hfz33 := fZ BK101.out) | (go_at_call 24; (with_reducible refine (impl_isView.calls _ _ _ _ A19.out).mono ?_); rintro e w' ⟨rfl, ⟨nd, rfl⟩⟩))
  go_ret
  exact ⟨rE, bX HB.out⟩
 rw [if_neg c18] at H; have c18b0 : (a0_0 == 3) = false := beq_eq_false_iff_ne.mpr c18; have c18b1 : (a0_0 != 3) = true := bne_iff_ne.mpr c18; obtain rfl := Option.some.inj H; go_enter Try.func38, Try.ntmps38
 go_wp2_with (first | (refine bE (N := 1) (cs := #[.int .i64 a0_0, .int .i64 a0_1, .int .i64 a0_2, .string a0_3, .int .i64 a0_4]) (t := 67) ?_; intro gb101 hg w34 hbox hb; have GW101 := gY hg HB; have GE101 := GW101; have BK101 := AM (hbox); replace HB := bY HB hb; clear hb hbox hg; have hcz35 := q5 BK101.out; have hfz35 := fZ BK101.out))
 go_ret
 exact ⟨rE, bX HB.out⟩

/-! ### impl_voteIndex: function 39 (by hand) -/
def impl_voteIndex_p (y0 y1 y2 y4 : Int) (x : S67) : Bool := x.f0 == y0 && (x.f1 == y1 && (x.f2 == y2 && x.f4 == y4))
def impl_voteIndex.f (l0 : List (S67)) (a1_0 : Int) (a1_1 : Int) (a1_2 : Int) (a1_3 : ByteArray) (a1_4 : Int) : Option Int := some (ixFrom (impl_voteIndex_p a1_0 a1_1 a1_2 a1_4) l0 0)
set_option maxRecDepth 100000 in
theorem impl_voteIndex_c (x : S67) (y0 y1 y2 y4 : Int) (g : Nat) (w : World)
   (h0 : w.cell? ⟨g,0,none⟩ = some (.int .i64 y0)) (h1 : w.cell? ⟨g,1,none⟩ = some (.int .i64 y1)) (h2 : w.cell? ⟨g,2,none⟩ = some (.int .i64 y2)) (h4 : w.cell? ⟨g,4,none⟩ = some (.int .i64 y4)) :
   Calls Try.prog 57 #[.agg #[.int .i64 x.f0, .int .i64 x.f1, .int .i64 x.f2, .string x.f3, .int .i64 x.f4], .pointer (some ⟨g,0,none⟩)] w fun e w' => e = .returned (.bool (impl_voteIndex_p y0 y1 y2 y4 x)) ∧ Below w.heap.size w w' := by
  have hu := Try.underlying67
  rcases Bool.eq_false_or_eq_true (x.f0 == y0) with e0 | e0 <;> rcases Bool.eq_false_or_eq_true (x.f1 == y1) with e1 | e1 <;> rcases Bool.eq_false_or_eq_true (x.f2 == y2) with e2 | e2
  all_goals
    go_enter Try.func57, Try.ntmps57
    go_wp2_with (first | ((with_reducible refine gate_dst (N := 2) rfl ?_); refine box_event ?hg (N := 2) ?hd (cs := #[.int .i64 x.f0, .int .i64 x.f1, .int .i64 x.f2, .string x.f3, .int .i64 x.f4]) (t := 67) ?hr ?_; (case hd => rfl); (case hg => rfl); (case hr => first | (go_simp; done) | (go_simp; rfl)); intro gb hgb w1 hbox hb; have k0 := (pB hb h0); have k1 := (pB hb h1); have k2 := (pB hb h2); have k4 := (pB hb h4); have z0 : w1.cell? ⟨gb, 0, none⟩ = _ := (blk_cell hbox 0).trans rfl; have z1 : w1.cell? ⟨gb, 1, none⟩ = _ := (blk_cell hbox 1).trans rfl; have z2 : w1.cell? ⟨gb, 2, none⟩ = _ := (blk_cell hbox 2).trans rfl; have z4 : w1.cell? ⟨gb, 4, none⟩ = _ := (blk_cell hbox 4).trans rfl; have HB := Aside0.mk hb; clear hb hbox hgb h0 h1 h2 h4))
    go_ret
    exact ⟨by simp [*, impl_voteIndex_p], HB.out⟩
set_option maxRecDepth 100000 in
theorem impl_voteIndex_x (A0 : Option Addr) (c0 : Nat) (l0 : List (S67)) (y0 y1 y2 y4 : Int) (g : Nat) (w : World) (hr0 : Kd.C k67 w A0 l0.length l0) (hc0 : l0.length ≤ c0)
   (h0 : w.cell? ⟨g,0,none⟩ = some (.int .i64 y0)) (h1 : w.cell? ⟨g,1,none⟩ = some (.int .i64 y1)) (h2 : w.cell? ⟨g,2,none⟩ = some (.int .i64 y2)) (h4 : w.cell? ⟨g,4,none⟩ = some (.int .i64 y4)) :
   Calls Try.prog 56 #[.slice A0 l0.length c0, .func (.func 57) #[] #[.pointer (some ⟨g,0,none⟩)]] w fun e w' => e = .returned (.int .i64 (ixFrom (impl_voteIndex_p y0 y1 y2 y4) l0 0)) ∧ Below w.heap.size w w' := by
  have hu := Try.underlying67; have HR := Aside0.mk hr0; have H0 := Aside0.mk h0; have H1 := Aside0.mk h1; have H2 := Aside0.mk h2; have H4 := Aside0.mk h4; have hl : l0.length ≤ 9223372036854775807 := hr0.2.1; clear hr0 hc0 h0 h1 h2 h4; go_enter Try.func56, Try.ntmps56
  go_wp2
  go_loopg [8] (l0.length + 1) (fun kq v8 w' => ∃ i : Int, v8 = .int .i64 i ∧ Aside0 (0 ≤ i) ∧ Aside0 (i ≤ l0.length) ∧ Aside0 ((kq : Int) + i = l0.length + 1) ∧ Aside0 (ixFrom (impl_voteIndex_p y0 y1 y2 y4) l0 0 = ixFrom (impl_voteIndex_p y0 y1 y2 y4) (l0.drop i.toNat) i.toNat) ∧ Aside0 (Below w.heap.size w w'))
  case atStart => exact ⟨0, rfl, ⟨by omega⟩, ⟨by omega⟩, ⟨by omega⟩, ⟨rfl⟩, ⟨Below.refl _ _⟩⟩
  case round =>
    obtain ⟨i, rfl, G0, G1, HK, HI, HB⟩ := hrel; by_cases hlt : i < (l0.length : Int)
    · have g0 := G0.out
      have hd : l0.drop i.toNat = rd_T67 l0 i :: l0.drop (i.toNat + 1) := by
        rw [List.drop_eq_getElem_cons (by omega)]; simp [rd_T67, List.getD, show i.toNat < l0.length by omega]
      obtain ⟨ad, e, hx0, hx1, hx2, hx3, hx4⟩ := at_T67 HR.out i g0 hlt
      cases e
      replace hx0 := pB HB.out hx0; replace hx1 := pB HB.out hx1; replace hx2 := pB HB.out hx2; replace hx3 := pB HB.out hx3; replace hx4 := pB HB.out hx4; have G2 := Aside0.mk hlt; have c1 := dY hlt; replace g0 := eq_true g0; replace hlt := eq_true hlt
      cases hp : impl_voteIndex_p y0 y1 y2 y4 (rd_T67 l0 i) with
      | true =>
        have HI2 : Aside0 (ixFrom (impl_voteIndex_p y0 y1 y2 y4) l0 0 = i) := ⟨by rw [HI.out, hd]; simp [ixFrom, hp]; have := G0.out; omega⟩; have HP := Aside0.mk hp; clear hd hp; go_wp2_with (first | (go_at_call 57; (with_reducible refine (impl_voteIndex_c (rd_T67 l0 i) y0 y1 y2 y4 g _ (pB HB.out H0.out) (pB HB.out H1.out) (pB HB.out H2.out) (pB HB.out H4.out)).mono ?_); rw [HP.out]; rintro e w1 ⟨rfl, hb⟩; replace HB := Aside0.mk (below_step HB.out hb); clear hb))
        go_ret
        exact ⟨by rw [HI2.out]; rfl, HB.out⟩
      | false =>
        have HI2 : Aside0 (ixFrom (impl_voteIndex_p y0 y1 y2 y4) l0 0 = ixFrom (impl_voteIndex_p y0 y1 y2 y4) (l0.drop (i + 1).toNat) (i + 1).toNat) := ⟨by rw [HI.out, hd, show (i + 1).toNat = i.toNat + 1 by have := G0.out; omega]; simp [ixFrom, hp]⟩; have HP := Aside0.mk hp; clear hd hp; go_wp2_with (first | (go_at_call 57; (with_reducible refine (impl_voteIndex_c (rd_T67 l0 i) y0 y1 y2 y4 g _ (pB HB.out H0.out) (pB HB.out H1.out) (pB HB.out H2.out) (pB HB.out H4.out)).mono ?_); rw [HP.out]; rintro e w1 ⟨rfl, hb⟩; replace HB := Aside0.mk (below_step HB.out hb); clear hb))
        cases gk with
        | zero => exact absurd HK.out (by have := G2.out; omega)
        | succ gk =>
        go_roundg gk
        case measure => omega
        case rel => exact ⟨i + 1, by rw [w_succ_ G0.out G2.out hl], ⟨by have := G0.out; omega⟩, ⟨by have := G2.out; omega⟩, ⟨by have := HK.out; omega⟩, HI2, HB⟩
    · have c1 : decide (i < (l0.length : Int)) = false := dN hlt
      have HI2 : Aside0 (ixFrom (impl_voteIndex_p y0 y1 y2 y4) l0 0 = -1) := ⟨by rw [HI.out, List.drop_of_length_le (by omega)]; rfl⟩; clear hlt; go_wp2
      go_ret
      exact ⟨by rw [HI2.out]; rfl, HB.out⟩
set_option maxRecDepth 100000 in
theorem impl_voteIndex.calls (A0 : Option Addr) (c0 : Nat) (l0 : List (S67)) (a1_0 : Int) (a1_1 : Int) (a1_2 : Int) (a1_3 : ByteArray) (a1_4 : Int) (r : Int) (w : World) (hr0 : Kd.C k67 w A0 l0.length l0) (hc0 : l0.length ≤ c0) (h : impl_voteIndex.f l0 a1_0 a1_1 a1_2 a1_3 a1_4 = some r) :
    Calls Try.prog 39 #[.slice A0 l0.length c0, .agg #[.int .i64 a1_0, .int .i64 a1_1, .int .i64 a1_2, .string a1_3, .int .i64 a1_4]] w fun e w' => e = .returned (.int .i64 r) ∧ Below w.heap.size w w' := by
  have hu := Try.underlying67; obtain rfl := Option.some.inj h; have HR := Aside0.mk hr0; have HC := Aside0.mk hc0; clear h hr0 hc0; go_enter Try.func39, Try.ntmps39
  go_wp2_with (first | ((with_reducible refine gate_dst (N := 3) rfl ?_); refine box_event ?hg (N := 3) ?hd (cs := #[.int .i64 a1_0, .int .i64 a1_1, .int .i64 a1_2, .string a1_3, .int .i64 a1_4]) (t := 67) ?hr ?_; (case hd => rfl); (case hg => rfl); (case hr => first | (go_simp; done) | (go_simp; rfl)); intro gb hgb w1 hbox hb; have Z0 := Aside0.mk ((blk_cell hbox 0).trans rfl : w1.cell? ⟨gb, 0, none⟩ = some (.int .i64 a1_0)); have Z1 := Aside0.mk ((blk_cell hbox 1).trans rfl : w1.cell? ⟨gb, 1, none⟩ = some (.int .i64 a1_1)); have Z2 := Aside0.mk ((blk_cell hbox 2).trans rfl : w1.cell? ⟨gb, 2, none⟩ = some (.int .i64 a1_2)); have Z4 := Aside0.mk ((blk_cell hbox 4).trans rfl : w1.cell? ⟨gb, 4, none⟩ = some (.int .i64 a1_4)); have HB := Aside0.mk hb; clear hb hbox hgb) | (go_at_call 56; (with_reducible refine (impl_voteIndex_x _ _ l0 a1_0 a1_1 a1_2 a1_4 gb _ (Kd.C_below HR.out HB.out) HC.out Z0.out Z1.out Z2.out Z4.out).mono ?_); rintro e w2 ⟨rfl, hb⟩; replace HB := Aside0.mk (below_step HB.out hb); clear hb))
  go_ret
  exact ⟨rfl, HB.out⟩


/-! ### impl_areVotes: function 22 -/

def impl_areVotes.l0 : Nat → List (S67) → List (S67) → Int → Int → Option (Bool)
  | 0, _, _, _, _ => none
  | k + 1, x0, x8, x9, x10 => if x10 < x9 then (if 0 ≤ x10 then (if x10 < (x8.length : Int) then ((impl_isVote.f ((rd_T67 x8 x10).f0) ((rd_T67 x8 x10).f1) ((rd_T67 x8 x10).f2) ((rd_T67 x8 x10).f3) ((rd_T67 x8 x10).f4)).bind fun t103 => (if t103 = true then ((impl_voteIndex.f x0 ((rd_T67 x8 x10).f0) ((rd_T67 x8 x10).f1) ((rd_T67 x8 x10).f2) ((rd_T67 x8 x10).f3) ((rd_T67 x8 x10).f4)).bind fun t104 => (if t104 < x10 then (some false) else (impl_areVotes.l0 k x0 x8 x9 (wrap64 (x10 + 1))))) else (some false))) else (none)) else (none)) else (some true)
def impl_areVotes.f (k : Nat) (l0 : List (S67)) : Option (Bool) := if (l0.length : Int) > 400 then (some false) else (impl_areVotes.l0 k l0 l0 (l0.length : Int) 0)
set_option maxHeartbeats 60000000 in
set_option maxRecDepth 100000 in
theorem impl_areVotes.calls (k : Nat) (A0 : Option Addr) (c0 : Nat) (l0 : List (S67)) (r : Bool) (w : World) (hr0 : Kd.C k67 w A0 l0.length l0) (hc0 : l0.length ≤ c0) (h : impl_areVotes.f k l0 = some r) :
    Calls Try.prog 22 #[.slice A0 l0.length c0] w fun e w' => e = .returned (.bool r) ∧ Below w.heap.size w w' := by
 have hu67 := Try.underlying67; have HR0 := AM hr0; have HC0 := AM hc0; clear hr0 hc0; have HB := AM (Below.refl w.heap.size w); have H : (if (l0.length : Int) > 400 then (some false) else (impl_areVotes.l0 k l0 l0 (l0.length : Int) 0)) = some r := h; clear h; by_cases c2 : (l0.length : Int) > 400
 ·
  rw [if_pos c2] at H; have c2b0 : decide (400 < (l0.length : Int)) = true := dY c2; have c2b1 : decide (400 < l0.length) = true := dY (by omega); clear c2; obtain rfl := Option.some.inj H; go_enter Try.func22, Try.ntmps22
  go_wp2
  go_ret
  exact ⟨rE, bX HB.out⟩
 rw [if_neg c2] at H; have c2b0 : decide (400 < (l0.length : Int)) = false := dN c2; have c2b1 : decide (400 < l0.length) = false := dN (by omega); clear c2; have H' := AM H; clear H; go_enter Try.func22, Try.ntmps22
 go_wp2
 go_loopg [10] k (fun kq v10 w' => ∃ (x10_1 : Int), v10 = .int .i64 x10_1 ∧ Aside0 (impl_areVotes.l0 kq l0 l0 (l0.length : Int) x10_1 = some r) ∧ Aside0 (kq ≤ k) ∧ Aside0 (Below w.heap.size w w'))
 case atStart => exact ⟨(0), rR, H', ⟨Nat.le_refl _⟩, ⟨bX HB.out⟩⟩
 case round =>
  clear H'; (try clear c2); (try clear c2b0); (try clear c2b1); (try clear p2); obtain ⟨x10_1, rfl, HA, HK1, HB⟩ := hrel
  cases gk with
  | zero => exact absurd HA.out (by simp [impl_areVotes.l0])
  | succ k1 =>
   have H := HA.out; clear HA; simp only [impl_areVotes.l0] at H
   by_cases c3 : x10_1 < (l0.length : Int)
   ·
    rw [if_pos c3] at H; have c3b0 := dY c3; clear c3; by_cases c4 : 0 ≤ x10_1
    ·
     rw [if_pos c4] at H; have c4b0 := dY c4; clear c4; by_cases c5 : x10_1 < (l0.length : Int)
     ·
      rw [if_pos c5] at H; have c5b0 := dY c5; clear c5; replace H := oM H; obtain ⟨t103, A60, H⟩ := H; have A6 := AM A60; clear A60; by_cases c7 : t103 = true
      ·
       subst c7; rw [if_pos rfl] at H; replace H := oM H; obtain ⟨t104, A80, H⟩ := H; have A8 := AM A80; clear A80; by_cases c9 : t104 < x10_1
       ·
        rw [if_pos c9] at H; have c9b0 := dY c9; clear c9; obtain rfl := Option.some.inj H; obtain ⟨p101, q101, ad101, e101, hx101_0, hx101_1, hx101_2, hx101_3, hx101_4⟩ := pQ (at_T67 (cB HR0.out HB.out) x10_1); cases e101; go_wp2_with (first | (refine bE (N := 4) (cs := zz0) (t := 67) ?_; intro gb102 hg w10 hbox hb; have GW102 := gY hg HB; have GE102 := GW102; have BK102 := AM (hbox); replace HB := bY HB hb; clear hb hbox hg; have hcz11 := q5 BK102.out; have hfz11 := fZ BK102.out) | ((with_reducible refine gate_callee (f := 38) rfl ?_); refine gL (some 16) Try.func38 #[.agg #[.int .i64 ((rd_T67 l0 x10_1).f0), .int .i64 ((rd_T67 l0 x10_1).f1), .int .i64 ((rd_T67 l0 x10_1).f2), .string ((rd_T67 l0 x10_1).f3), .int .i64 ((rd_T67 l0 x10_1).f4)]] ?_; (with_reducible refine (impl_isVote.calls _ _ _ _ _ _ _ A6.out).mono ?_); rintro e w12 ⟨rfl, hb⟩; refine ⟨_, rfl, ?_⟩; have _ := AM (blk_below (g := gb102) (o := .cells #[.int .i64 ((rd_T67 l0 x10_1).f0), .int .i64 ((rd_T67 l0 x10_1).f1), .int .i64 ((rd_T67 l0 x10_1).f2), .string ((rd_T67 l0 x10_1).f3), .int .i64 ((rd_T67 l0 x10_1).f4)] 67 (0, 0)) (by refine pk5 zz0 ?_; exact kX BK102.out) hb); have _ := bY HB hb; clear BK102 HB; rename_i BK102 HB; have hcz13 := q5 BK102.out; have hfz13 := fZ BK102.out) | (go_at_call 39; (with_reducible refine (impl_voteIndex.calls _ _ _ _ _ _ _ _ _ _ ?s1 ?s2 A8.out).mono ?_); (case s1 => exact cY HR0 HB); (case s2 => exact HC0.out); rintro e w14 ⟨rfl, hb⟩; have _ := nY BK102 hb; have _ := bY HB hb; clear BK102 HB; rename_i BK102 HB))
        go_ret
        exact ⟨rE, bX HB.out⟩
       rw [if_neg c9] at H; have c9b0 := dN c9; clear c9; have H' := AM H; clear H; obtain ⟨p101, q101, ad101, e101, hx101_0, hx101_1, hx101_2, hx101_3, hx101_4⟩ := pQ (at_T67 (cB HR0.out HB.out) x10_1); cases e101; go_wp2_with (first | (refine bE (N := 4) (cs := zz0) (t := 67) ?_; intro gb102 hg w15 hbox hb; have GW102 := gY hg HB; have GE102 := GW102; have BK102 := AM (hbox); replace HB := bY HB hb; clear hb hbox hg; have hcz16 := q5 BK102.out; have hfz16 := fZ BK102.out) | ((with_reducible refine gate_callee (f := 38) rfl ?_); refine gL (some 16) Try.func38 #[.agg #[.int .i64 ((rd_T67 l0 x10_1).f0), .int .i64 ((rd_T67 l0 x10_1).f1), .int .i64 ((rd_T67 l0 x10_1).f2), .string ((rd_T67 l0 x10_1).f3), .int .i64 ((rd_T67 l0 x10_1).f4)]] ?_; (with_reducible refine (impl_isVote.calls _ _ _ _ _ _ _ A6.out).mono ?_); rintro e w17 ⟨rfl, hb⟩; refine ⟨_, rfl, ?_⟩; have _ := AM (blk_below (g := gb102) (o := .cells #[.int .i64 ((rd_T67 l0 x10_1).f0), .int .i64 ((rd_T67 l0 x10_1).f1), .int .i64 ((rd_T67 l0 x10_1).f2), .string ((rd_T67 l0 x10_1).f3), .int .i64 ((rd_T67 l0 x10_1).f4)] 67 (0, 0)) (by refine pk5 zz0 ?_; exact kX BK102.out) hb); have _ := bY HB hb; clear BK102 HB; rename_i BK102 HB; have hcz18 := q5 BK102.out; have hfz18 := fZ BK102.out) | (go_at_call 39; (with_reducible refine (impl_voteIndex.calls _ _ _ _ _ _ _ _ _ _ ?s1 ?s2 A8.out).mono ?_); (case s1 => exact cY HR0 HB); (case s2 => exact HC0.out); rintro e w19 ⟨rfl, hb⟩; have _ := nY BK102 hb; have _ := bY HB hb; clear BK102 HB; rename_i BK102 HB))
       go_roundg k1
       case measure => have := HK1.out; omega
       case rel => exact ⟨(wrap64 (x10_1 + 1)), rR, H', ⟨by have := HK1.out; omega⟩, ⟨bX HB.out⟩⟩
      replace c7 := oE c7; subst c7; rw [if_neg nft] at H; obtain rfl := Option.some.inj H; obtain ⟨p101, q101, ad101, e101, hx101_0, hx101_1, hx101_2, hx101_3, hx101_4⟩ := pQ (at_T67 (cB HR0.out HB.out) x10_1); cases e101; go_wp2_with (first | (refine bE (N := 4) (cs := zz0) (t := 67) ?_; intro gb102 hg w20 hbox hb; have GW102 := gY hg HB; have GE102 := GW102; have BK102 := AM (hbox); replace HB := bY HB hb; clear hb hbox hg; have hcz21 := q5 BK102.out; have hfz21 := fZ BK102.out) | ((with_reducible refine gate_callee (f := 38) rfl ?_); refine gL (some 16) Try.func38 #[.agg #[.int .i64 ((rd_T67 l0 x10_1).f0), .int .i64 ((rd_T67 l0 x10_1).f1), .int .i64 ((rd_T67 l0 x10_1).f2), .string ((rd_T67 l0 x10_1).f3), .int .i64 ((rd_T67 l0 x10_1).f4)]] ?_; (with_reducible refine (impl_isVote.calls _ _ _ _ _ _ _ A6.out).mono ?_); rintro e w22 ⟨rfl, hb⟩; refine ⟨_, rfl, ?_⟩; have _ := AM (blk_below (g := gb102) (o := .cells #[.int .i64 ((rd_T67 l0 x10_1).f0), .int .i64 ((rd_T67 l0 x10_1).f1), .int .i64 ((rd_T67 l0 x10_1).f2), .string ((rd_T67 l0 x10_1).f3), .int .i64 ((rd_T67 l0 x10_1).f4)] 67 (0, 0)) (by refine pk5 zz0 ?_; exact kX BK102.out) hb); have _ := bY HB hb; clear BK102 HB; rename_i BK102 HB))
      go_ret
      exact ⟨rE, bX HB.out⟩
     rw [if_neg c5] at H; exact absurd H (by simp)
    rw [if_neg c4] at H; exact absurd H (by simp)
   rw [if_neg c3] at H; have c3b0 := dN c3; clear c3; obtain rfl := Option.some.inj H; go_wp2
   go_ret
   exact ⟨rE, bX HB.out⟩

/-! ### slices_Sort_string_string: function 64 (by hand) -/
def slices_Sort_string_string.f (l0 : List ByteArray) : Option (List ByteArray) := if l0.length < 4611686018427387904 then some (sortS l0) else none
theorem slices_Sort_string_string.calls (P0_ : Nat → Prop) (u9000_ : Value) (l0 : List ByteArray) (r : List ByteArray) (w0 w : World) (hB : Below w0.heap.size w0 w) (ho0 : Kd.R Kd.string 9 w w0.heap.size P0_ u9000_ l0) (h : slices_Sort_string_string.f l0 = some r) :
    Calls Try.prog 64 #[u9000_] w fun e w' => e = .returned (.tuple #[]) ∧ Kd.R Kd.string 9 w' w0.heap.size (fun k_ => (P0_ k_ ∨ w.heap.size ≤ k_)) u9000_ r ∧ Below w0.heap.size w0 w' ∧ Kept w w' (fun k_ => P0_ k_) := by
  unfold slices_Sort_string_string.f at h
  split at h
  · rename_i hlen
    obtain rfl := Option.some.inj h; have hbase : w0.heap.size ≤ w.heap.size := hB.size; have ho := Kd.own_of_R ho0
    rcases ho.2 with ⟨rfl, hn⟩ | ⟨g, cap, cur, rfl, hg, hh, hn, hm, hs, ht⟩
    · obtain rfl : l0 = [] := List.eq_nil_of_length_eq_zero hn
      refine (Try.slices_Sort_string_none none 0 w).mono ?_; rintro e w' ⟨rfl, rfl⟩; exact ⟨rfl, by simpa [sortS] using Kd.R_nil _ _ _ _ _, hB, Kept.refl _ _⟩
    · obtain ⟨c1, c2, c3, c4, c5⟩ := strs_cells ho0
      have hH := Lib.holds_of_strs c4 (fun j _ => c5 j); rw [strs_of] at hH; have hl : (l0.map (·.data.toList)).length = l0.length := by simp
      have hc := Try.slices_Sort_string g 0 cap (l0.map (·.data.toList)) w hH c3 (by simpa using hlen); rw [hl] at hc; refine hc.mono ?_; rintro e w' ⟨rfl, q, os, rfl⟩; obtain ⟨k1, k2, k3⟩ := strs_written (q := q) (os := os) (r := sortS l0) (ys := sortS l0) ho0 (sortS_len l0) (by simp) (by rw [sortS_len]; exact Nat.le_refl _); have e2 : Sort.putRow encStr (Sort.ahead w q) g 0 ((l0.map (·.data.toList)).mergeSort fun x y => decide (x ≤ y)).toArray = (w.drewN q).setCells g 0 ((sortS l0).map Value.string) := by
        rw [Lib.putRow_eq_setCells _ w g 0 _ _ q hH (by simp [List.length_mergeSort])]
        congr 1
        simp [sortS, Function.comp_def]
      rw [e2]; rw [sortS_len] at k1; refine ⟨rfl, Kd.R_mono k1 (fun _ hk => .inl hk), hB.grown k2 hbase (fun k hk => (Option.some.inj hk : g = k) ▸ k3), Kept.of_grown k2 (Kept.refl _ _) (fun k hk => .inl (ho0.1 k (by simpa [Value.ownBlock] using hk)))⟩
  · exact absurd h (by simp)


/-! ### slices_Compact_string_string: function 65 (by hand) -/
def slices_Compact_string_string.f (l0 : List ByteArray) : Option (List ByteArray) := some (compactS l0)
theorem slices_Compact_string_string.calls (P0_ : Nat → Prop) (u9000_ : Value) (l0 : List ByteArray) (r : List ByteArray) (w0 w : World) (hB : Below w0.heap.size w0 w) (ho0 : Kd.R Kd.string 9 w w0.heap.size P0_ u9000_ l0) (h : slices_Compact_string_string.f l0 = some r) :
    Calls Try.prog 65 #[u9000_] w fun e w' => ∃ v0_ : Value, e = .returned (v0_) ∧ Kd.R Kd.string 9 w' w0.heap.size (fun k_ => (P0_ k_ ∨ w.heap.size ≤ k_)) v0_ r ∧ Below w0.heap.size w0 w' ∧ Kept w w' (fun k_ => P0_ k_) := by
  obtain rfl := Option.some.inj h; have hbase : w0.heap.size ≤ w.heap.size := hB.size; have ho := Kd.own_of_R ho0
  rcases ho.2 with ⟨rfl, hn⟩ | ⟨g, cap, cur, rfl, hg, hh, hn, hm, hs, ht⟩
  · obtain rfl : l0 = [] := List.eq_nil_of_length_eq_zero hn
    refine (Try.slices_Compact_string_empty none 0 w).mono ?_; rintro e w' ⟨rfl, rfl⟩; exact ⟨_, rfl, Kd.R_nil _ _ _ _ _, hB, Kept.refl _ _⟩
  · obtain ⟨c1, c2, c3, c4, c5⟩ := strs_cells ho0
    refine (Try.slices_Compact_string_cells g 0 l0.length cap (fun i => l0.getD i ⟨#[]⟩) w (by unfold maxLen at c2; omega) c1 c4 (fun j _ => c5 j)).mono ?_; rintro e w' ⟨rfl, q, rfl⟩; have hle := compactS_len l0; have e1 : (Lib.compact (Lib.strsOf (fun i => l0.getD i ⟨#[]⟩) l0.length)).length = (compactS l0).length := by rw [strs_of]; simp [compactS]
    obtain ⟨k1, k2, k3⟩ := strs_written (q := q) (os := #[]) (r := compactS l0) (ys := compactS l0 ++ List.replicate (l0.length - (compactS l0).length) (⟨#[]⟩ : ByteArray)) ho0 (by simp; omega) (by simp) hle; have e2 : (w.drewN q).setCells g 0 ((Lib.compact (Lib.strsOf (fun i => l0.getD i ⟨#[]⟩) l0.length) ++ List.replicate (l0.length - (Lib.compact (Lib.strsOf (fun i => l0.getD i ⟨#[]⟩) l0.length)).length) []).map encStr) = Sort.grow ((w.drewN q).setCells g 0 ((compactS l0 ++ List.replicate (l0.length - (compactS l0).length) (⟨#[]⟩ : ByteArray)).map Value.string)) #[] := by
      rw [Sort.grow_empty, e1, strs_of]
      congr 1
      simp [compactS, List.map_replicate, Function.comp_def]
    rw [e2, e1]; refine ⟨_, rfl, Kd.R_mono k1 (fun _ hk => .inl hk), hB.grown k2 hbase (fun k hk => (Option.some.inj hk : g = k) ▸ k3), Kept.of_grown k2 (Kept.refl _ _) (fun k hk => .inl (ho0.1 k (by simpa [Value.ownBlock] using hk)))⟩


/-! ### impl_opsOf: function 61 -/

def impl_opsOf.l0 : Nat → Int → Int → Int → List ByteArray → List (S67) → Int → Int → Option (List ByteArray)
  | 0, _, _, _, _, _, _, _ => none
  | k + 1, x1, x2, x3, x9, x12, x13, x14 => if x14 < x13 then (if 0 ≤ x14 then (if x14 < (x12.length : Int) then (if ((rd_T67 x12 x14).f0) = x1 then (if ((rd_T67 x12 x14).f1) = x2 then (if ((rd_T67 x12 x14).f2) = x3 then (if x9.length < 8796093022208 then (impl_opsOf.l0 k x1 x2 x3 (x9 ++ [(rd_T67 x12 x14).f3]) x12 x13 (wrap64 (x14 + 1))) else (none)) else (impl_opsOf.l0 k x1 x2 x3 x9 x12 x13 (wrap64 (x14 + 1)))) else (impl_opsOf.l0 k x1 x2 x3 x9 x12 x13 (wrap64 (x14 + 1)))) else (impl_opsOf.l0 k x1 x2 x3 x9 x12 x13 (wrap64 (x14 + 1)))) else (none)) else (none)) else ((slices_Sort_string_string.f x9).bind fun t106 => ((slices_Compact_string_string.f t106).bind fun t107 => (some t107)))
def impl_opsOf.f (k : Nat) (l0 : List (S67)) (a1 : Int) (a2 : Int) (a3 : Int) : Option (List ByteArray) := impl_opsOf.l0 k a1 a2 a3 ([] : List ByteArray) l0 (l0.length : Int) 0
set_option maxHeartbeats 60000000 in
set_option maxRecDepth 100000 in
theorem impl_opsOf.calls (k : Nat) (A0 : Option Addr) (c0 : Nat) (l0 : List (S67)) (a1 : Int) (a2 : Int) (a3 : Int) (r : List ByteArray) (w : World) (hr0 : Kd.C k67 w A0 l0.length l0) (hc0 : l0.length ≤ c0) (h : impl_opsOf.f k l0 a1 a2 a3 = some r) :
    Calls Try.prog 61 #[.slice A0 l0.length c0, .int .i64 a1, .int .i64 a2, .int .i64 a3] w fun e w' => ∃ v0_ : Value, e = .returned (v0_) ∧ Kd.R Kd.string 9 w' w.heap.size (fun _ => True) v0_ r ∧ Below w.heap.size w w' := by
 have hu67 := Try.underlying67; have HR0 := AM hr0; have HC0 := AM hc0; clear hr0 hc0; have HB := AM (Below.refl w.heap.size w); have H : (impl_opsOf.l0 k a1 a2 a3 ([] : List ByteArray) l0 (l0.length : Int) 0) = some r := h; clear h; have H' := AM H; clear H; go_enter Try.func61, Try.ntmps61
 go_wp2
 go_loopg [9, 14] k (fun kq v9 v14 w' => ∃ (x9_1 : List ByteArray) (x14_1 : Int), v14 = .int .i64 x14_1 ∧ Aside0 (impl_opsOf.l0 kq a1 a2 a3 x9_1 l0 (l0.length : Int) x14_1 = some r) ∧ Aside0 (kq ≤ k) ∧ Aside0 (Kd.R Kd.string 9 w' w.heap.size (fun _ => True) v9 x9_1) ∧ Aside0 (Below w.heap.size w w'))
 case atStart => exact ⟨(([] : List ByteArray)), (0), rR, H', ⟨Nat.le_refl _⟩, ⟨by first | exact Kd.R_nil _ _ _ _ _ | exact Kd.N_nil _ _ _ _ _ | exact Kd.V_nil _ _ _ _ _ | exact Kd.Q_nil _ _ _ _ _ | exact Kd.S_nil _ _ _ _ _⟩, ⟨bX HB.out⟩⟩
 case round =>
  clear H'; try clear p2
  obtain ⟨x9_1, x14_1, rfl, HA, HK1, HO_9, HB⟩ := hrel
  cases gk with
  | zero => exact absurd HA.out (by simp [impl_opsOf.l0])
  | succ k1 =>
   have H := HA.out; clear HA; simp only [impl_opsOf.l0] at H
   by_cases c5 : x14_1 < (l0.length : Int)
   ·
    rw [if_pos c5] at H; have c5b0 := dY c5; clear c5; by_cases c6 : 0 ≤ x14_1
    ·
     rw [if_pos c6] at H; have c6b0 := dY c6; clear c6; by_cases c7 : x14_1 < (l0.length : Int)
     ·
      rw [if_pos c7] at H; have c7b0 := dY c7; clear c7; by_cases c8 : ((rd_T67 l0 x14_1).f0) = a1
      ·
       rw [if_pos c8] at H; have c8b0 : (((rd_T67 l0 x14_1).f0) == a1) = true := beq_iff_eq.mpr c8; have c8b1 : (((rd_T67 l0 x14_1).f0) != a1) = false := bne_eq_false_iff_eq.mpr c8; clear c8; by_cases c9 : ((rd_T67 l0 x14_1).f1) = a2
       ·
        rw [if_pos c9] at H; have c9b0 : (((rd_T67 l0 x14_1).f1) == a2) = true := beq_iff_eq.mpr c9; have c9b1 : (((rd_T67 l0 x14_1).f1) != a2) = false := bne_eq_false_iff_eq.mpr c9; clear c9; by_cases c10 : ((rd_T67 l0 x14_1).f2) = a3
        ·
         rw [if_pos c10] at H; have c10b0 : (((rd_T67 l0 x14_1).f2) == a3) = true := beq_iff_eq.mpr c10; have c10b1 : (((rd_T67 l0 x14_1).f2) != a3) = false := bne_eq_false_iff_eq.mpr c10; clear c10; by_cases c11 : x9_1.length < 8796093022208
         ·
          rw [if_pos c11] at H; have LMc11 := AM c11; clear c11; obtain ⟨y103, hy103⟩ : ∃ y_ : List ByteArray, y_ = (x9_1 ++ [(rd_T67 l0 x14_1).f3]) := ⟨_, rfl⟩; replace H : (impl_opsOf.l0 k1 a1 a2 a3 y103 l0 (l0.length : Int) (wrap64 (x14_1 + 1))) = some r := hS hy103 H
          have Ny103 := AM hy103; clear hy103; have H' := AM H; clear H; obtain ⟨p101, q101, ad101, e101, hx101_0, hx101_1, hx101_2, hx101_3, hx101_4⟩ := pQ (at_T67 (cB HR0.out HB.out) x14_1); cases e101; go_wp2_with (first | (refine bE (N := 11) (cs := zz0) (t := 67) ?_; intro gb102 hg w12 hbox hb; have GW102 := gY hg HB; have GE102 := GW102; have BK102 := AM (hbox); replace HO_9 := rY HO_9 hb; replace HB := bY HB hb; clear hb hbox hg; have hcz13 := q5 BK102.out; have hfz13 := fZ BK102.out) | ((with_reducible refine gate_builtin (b := .append) (xs := #[.tmp 34, .tmp 37]) rfl ?_); at_builtin; refine Kd.R_append Kd.string (w0 := w) w.heap.size rfl (.tmp 34) (.tmp 37) 79 9 (.string ⟨#[]⟩) 16 rfl Try.underlying79 info9 rfl (by decide) (by omega) u9 x9_1 ((rd_T67 l0 x14_1).f3) [.string ((rd_T67 l0 x14_1).f3)] (fun _ => True) (fun _ => False) rfl (by first | (go_simp; done) | (go_simp; rfl)) ?aP (fun _ hk => hk.elim) ?aF ?aO ?aB ?aS ?aL ?_; (case aP => exact rfl); (case aB => exact (bX HB.out)); (case aF => exact (fun _ _ => trivial)); (case aO => exact (by (with_reducible repeat (first | apply rA | apply rN | apply rD)); exact rt5 HO_9.out BK102.out (by decide) (fun _ hk => trivial))); (case aS => exact (bZ (bX HB.out))); (case aL => have := LMc11.out; omega); intro v104 w14 ho hb hg hat; rw [← Ny103.out] at ho; have _ := AM (blk_grown (g := gb102) (o := .cells #[.int .i64 ((rd_T67 l0 x14_1).f0), .int .i64 ((rd_T67 l0 x14_1).f1), .int .i64 ((rd_T67 l0 x14_1).f2), .string ((rd_T67 l0 x14_1).f3), .int .i64 ((rd_T67 l0 x14_1).f4)] 67 (0, 0)) (by refine pk5 zz0 ?_; exact kX BK102.out) hg (Kd.R_ne HO_9.out BK102.out (by decide))); have _ := AM (hb); have _ := AM (ho); clear BK102 HB HO_9; rename_i BK102 HB HO105; clear ho hb hg hat))
          go_roundg k1
          case measure => have := HK1.out; omega
          case rel => exact ⟨(y103), (wrap64 (x14_1 + 1)), rR, H', ⟨by have := HK1.out; omega⟩, ⟨rX HO105.out⟩, ⟨bX HB.out⟩⟩
         rw [if_neg c11] at H; exact absurd H (by simp)
        rw [if_neg c10] at H; have c10b0 : (((rd_T67 l0 x14_1).f2) == a3) = false := beq_eq_false_iff_ne.mpr c10; have c10b1 : (((rd_T67 l0 x14_1).f2) != a3) = true := bne_iff_ne.mpr c10; have H' := AM H; clear H; obtain ⟨p101, q101, ad101, e101, hx101_0, hx101_1, hx101_2, hx101_3, hx101_4⟩ := pQ (at_T67 (cB HR0.out HB.out) x14_1); cases e101; go_wp2_with (first | (refine bE (N := 11) (cs := zz0) (t := 67) ?_; intro gb102 hg w15 hbox hb; have GW102 := gY hg HB; have GE102 := GW102; have BK102 := AM (hbox); replace HO_9 := rY HO_9 hb; replace HB := bY HB hb; clear hb hbox hg; have hcz16 := q5 BK102.out; have hfz16 := fZ BK102.out))
        go_roundg k1
        case measure => have := HK1.out; omega
        case rel => exact ⟨(x9_1), (wrap64 (x14_1 + 1)), rR, H', ⟨by have := HK1.out; omega⟩, ⟨by (with_reducible repeat (first | apply rA | apply rN | apply rD)); exact rt5 HO_9.out BK102.out (by decide) (fun _ hk => trivial)⟩, ⟨bX HB.out⟩⟩
       rw [if_neg c9] at H; have c9b0 : (((rd_T67 l0 x14_1).f1) == a2) = false := beq_eq_false_iff_ne.mpr c9; have c9b1 : (((rd_T67 l0 x14_1).f1) != a2) = true := bne_iff_ne.mpr c9; have H' := AM H; clear H; obtain ⟨p101, q101, ad101, e101, hx101_0, hx101_1, hx101_2, hx101_3, hx101_4⟩ := pQ (at_T67 (cB HR0.out HB.out) x14_1); cases e101; go_wp2_with (first | (refine bE (N := 11) (cs := zz0) (t := 67) ?_; intro gb102 hg w17 hbox hb; have GW102 := gY hg HB; have GE102 := GW102; have BK102 := AM (hbox); replace HO_9 := rY HO_9 hb; replace HB := bY HB hb; clear hb hbox hg; have hcz18 := q5 BK102.out; have hfz18 := fZ BK102.out))
       go_roundg k1
       case measure => have := HK1.out; omega
       case rel => exact ⟨(x9_1), (wrap64 (x14_1 + 1)), rR, H', ⟨by have := HK1.out; omega⟩, ⟨by (with_reducible repeat (first | apply rA | apply rN | apply rD)); exact rt5 HO_9.out BK102.out (by decide) (fun _ hk => trivial)⟩, ⟨bX HB.out⟩⟩
      rw [if_neg c8] at H; have c8b0 : (((rd_T67 l0 x14_1).f0) == a1) = false := beq_eq_false_iff_ne.mpr c8; have c8b1 : (((rd_T67 l0 x14_1).f0) != a1) = true := bne_iff_ne.mpr c8; have H' := AM H; clear H; obtain ⟨p101, q101, ad101, e101, hx101_0, hx101_1, hx101_2, hx101_3, hx101_4⟩ := pQ (at_T67 (cB HR0.out HB.out) x14_1); cases e101; go_wp2_with (first | (refine bE (N := 11) (cs := zz0) (t := 67) ?_; intro gb102 hg w19 hbox hb; have GW102 := gY hg HB; have GE102 := GW102; have BK102 := AM (hbox); replace HO_9 := rY HO_9 hb; replace HB := bY HB hb; clear hb hbox hg; have hcz20 := q5 BK102.out; have hfz20 := fZ BK102.out))
      go_roundg k1
      case measure => have := HK1.out; omega
      case rel => exact ⟨(x9_1), (wrap64 (x14_1 + 1)), rR, H', ⟨by have := HK1.out; omega⟩, ⟨by (with_reducible repeat (first | apply rA | apply rN | apply rD)); exact rt5 HO_9.out BK102.out (by decide) (fun _ hk => trivial)⟩, ⟨bX HB.out⟩⟩
     rw [if_neg c7] at H; exact absurd H (by simp)
    rw [if_neg c6] at H; exact absurd H (by simp)
   rw [if_neg c5] at H; have c5b0 := dN c5; clear c5; replace H := oM H; obtain ⟨t106, A210, H⟩ := H; have A21 := AM A210; clear A210; replace H := oM H; obtain ⟨t107, A220, H⟩ := H; have A22 := AM A220; clear A220; obtain rfl := Option.some.inj H; obtain ⟨Ao23, co23, eo23⟩ := Kd.R_slice HO_9.out; subst eo23; go_wp2_with (first | ((with_reducible refine gate_callee (f := 64) rfl ?_); refine gL (some 41) Try.func64 #[.slice Ao23 x9_1.length co23] ?_; (with_reducible refine (slices_Sort_string_string.calls (fun k_ => some k_ = (.slice Ao23 x9_1.length co23 : Value).ownBlock) (.slice Ao23 x9_1.length co23) x9_1 t106 w _ ?s1 ?s2 A21.out).mono ?_); (case s1 => exact (bX HB.out)); (case s2 => exact Kd.R_tight rfl HO_9.out); rintro e w24 ⟨rfl, hy0, hb, hkp⟩; refine ⟨_, rfl, ?_⟩; replace HO_9 := AM (Kd.R_reok rfl hy0 (fun k_ e_ => HO_9.out.1 k_ e_)); replace HB := AM (hb); (try clear hkp); (try clear hy0)) | ((with_reducible refine gate_callee (f := 65) rfl ?_); refine gL (some 43) Try.func65 #[.slice Ao23 x9_1.length co23] ?_; (with_reducible refine (slices_Compact_string_string.calls (fun k_ => some k_ = (.slice Ao23 x9_1.length co23 : Value).ownBlock) (.slice Ao23 x9_1.length co23) t106 t107 w _ ?s1 ?s2 A22.out).mono ?_); (case s1 => exact (bX HB.out)); (case s2 => exact Kd.R_tight rfl HO_9.out); rintro e w25 ⟨v108, rfl, ho0, hb, hkp⟩; refine ⟨_, rfl, ?_⟩; have _ := AM (Kd.R_mono (ok' := fun k_ => True) ho0 (fun k_ hk_ => trivial)); have _ := AM (hb); clear HB HO_9; rename_i HO109 HB; (try clear hkp); (try clear ho0)))
   go_ret
   exact ⟨_, rE, rX HO109.out, bX HB.out⟩

/-! ### bits_Len: function 68 (by hand) -/
def bits_Len.f (a0 : Int) : Option Int := if 0 ≤ a0 ∧ a0 ≤ 18446744073709551615 then some (Lib.bitLen a0.toNat : Int) else none
theorem bits_Len.calls (a0 : Int) (r : Int) (w : World) (h : bits_Len.f a0 = some r) :
    Calls Try.prog 68 #[.int .u64 a0] w fun e w' => e = .returned (.int .i64 r) ∧ Drawn0 w w' := by
  unfold bits_Len.f at h
  split at h
  · rename_i hc
    obtain rfl := Option.some.inj h; exact (Go.Proofs.Try.bits_Len a0 w hc.1 hc.2).mono (fun e w' he => ⟨he.1, he.2 ▸ Drawn0.refl _⟩)
  · exact absurd h (by simp)


/-! ### cmp_isNaN_int64: function 101 -/

def cmp_isNaN_int64.f (a0 : Int) : Option (Bool) := some (a0 != a0)
set_option maxHeartbeats 60000000 in
set_option maxRecDepth 100000 in
theorem cmp_isNaN_int64.calls (a0 : Int) (r : Bool) (w : World) (h : cmp_isNaN_int64.f a0 = some r) :
    Calls Try.prog 101 #[.int .i64 a0] w fun e w' => e = .returned (.bool r) ∧ Drawn0 w w' := by
 have H : (some (a0 != a0)) = some r := h; clear h; obtain rfl := Option.some.inj H; go_enter Try.func101, Try.ntmps101
 go_wp2
 go_ret
 exact ⟨by first | rfl | (simp; done) | (simp [*]; done), drX⟩

/-! ### cmp_Less_int64: function 94 -/

def cmp_Less_int64.f (a0 : Int) (a1 : Int) : Option (Bool) := (cmp_isNaN_int64.f a0).bind fun t101 => (if t101 = true then ((cmp_isNaN_int64.f a1).bind fun t102 => (if t102 = true then (some (decide (a0 < a1))) else (some true))) else (some (decide (a0 < a1))))
set_option maxHeartbeats 60000000 in
set_option maxRecDepth 100000 in
theorem cmp_Less_int64.calls (a0 : Int) (a1 : Int) (r : Bool) (w : World) (h : cmp_Less_int64.f a0 a1 = some r) :
    Calls Try.prog 94 #[.int .i64 a0, .int .i64 a1] w fun e w' => e = .returned (.bool r) ∧ Drawn0 w w' := by
 have H : ((cmp_isNaN_int64.f a0).bind fun t101 => (if t101 = true then ((cmp_isNaN_int64.f a1).bind fun t102 => (if t102 = true then (some (decide (a0 < a1))) else (some true))) else (some (decide (a0 < a1))))) = some r := h; clear h; replace H := oM H; obtain ⟨t101, A30, H⟩ := H; have A3 := AM A30; clear A30; by_cases c4 : t101 = true
 ·
  subst c4; rw [if_pos rfl] at H; replace H := oM H; obtain ⟨t102, A50, H⟩ := H; have A5 := AM A50; clear A50; by_cases c6 : t102 = true
  ·
   subst c6; rw [if_pos rfl] at H; obtain rfl := Option.some.inj H; go_enter Try.func94, Try.ntmps94
   go_wp2_with (first | ((with_reducible refine gate_callee (f := 101) rfl ?_); refine gL (some 6) Try.func101 #[.int .i64 a0] ?_; (with_reducible refine (cmp_isNaN_int64.calls _ _ _ A3.out).mono ?_); rintro e w' ⟨rfl, ⟨nd, rfl⟩⟩; refine ⟨_, rfl, ?_⟩) | (go_at_call 101; (with_reducible refine (cmp_isNaN_int64.calls _ _ _ A5.out).mono ?_); rintro e w' ⟨rfl, ⟨nd, rfl⟩⟩))
   go_ret
   exact ⟨by first | rfl | (simp; done) | (simp [*]; done), drX⟩
  replace c6 := oE c6; subst c6; rw [if_neg nft] at H; obtain rfl := Option.some.inj H; go_enter Try.func94, Try.ntmps94
  go_wp2_with (first | ((with_reducible refine gate_callee (f := 101) rfl ?_); refine gL (some 6) Try.func101 #[.int .i64 a0] ?_; (with_reducible refine (cmp_isNaN_int64.calls _ _ _ A3.out).mono ?_); rintro e w' ⟨rfl, ⟨nd, rfl⟩⟩; refine ⟨_, rfl, ?_⟩) | (go_at_call 101; (with_reducible refine (cmp_isNaN_int64.calls _ _ _ A5.out).mono ?_); rintro e w' ⟨rfl, ⟨nd, rfl⟩⟩))
  go_ret
  exact ⟨by first | rfl | (simp; done) | (simp [*]; done), drX⟩
 replace c4 := oE c4; subst c4; rw [if_neg nft] at H; obtain rfl := Option.some.inj H; go_enter Try.func94, Try.ntmps94
 go_wp2_with (first | ((with_reducible refine gate_callee (f := 101) rfl ?_); refine gL (some 6) Try.func101 #[.int .i64 a0] ?_; (with_reducible refine (cmp_isNaN_int64.calls _ _ _ A3.out).mono ?_); rintro e w' ⟨rfl, ⟨nd, rfl⟩⟩; refine ⟨_, rfl, ?_⟩))
 go_ret
 exact ⟨by first | rfl | (simp; done) | (simp [*]; done), drX⟩

end Go.Proofs.Ytmfbkkjlijaabaa.Q
