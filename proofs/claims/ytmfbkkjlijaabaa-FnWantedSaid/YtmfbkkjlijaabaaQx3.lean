/- Printed by wip/mp.py: functions as plain Lean functions, and their calls. -/
import Derived.Test.YtmfbkkjlijaabaaQx2
namespace Go.Proofs.Ytmfbkkjlijaabaa.Q
open Go.RowKit Go.Proofs.Ytmfbkkjlijaabaa.HB Go.Proofs.YtmfbkkjlijaabaaW.PrintWords Go.Proofs.YtmfbkkjlijaabaaW.PrintLast Go.Proofs.YtmfbkkjlijaabaaW.PrintMore
attribute [local go_sem] max2_int min2_int max_two min_two max_three min_three max_four min_four   -- for this text's walks alone
set_option linter.unusedVariables false
set_option linter.unusedSimpArgs false

/-! ### spec_l01Src_l10Change: function 17 -/
abbrev spec_l01Src_l10Change.b0 : Array Bool := #[true, false, true, false, false, false, false, false, false, false]
abbrev spec_l01Src_l10Change.b1 : Array Bool := #[true, false, true, true, false, false, false, false, false, false]
abbrev spec_l01Src_l10Change.b2 : Array Bool := #[true, false, true, true, true, false, false, false, false, false]
abbrev spec_l01Src_l10Change.b3 : Array Bool := #[true, false, true, false, false, false, false, false, false]
abbrev spec_l01Src_l10Change.b4 : Array Bool := #[true, false, true, true, false, false, false, false, false]
def spec_l01Src_l10Change.l0 : Nat → Int → Int → List Int → Int → Int → Int → Int → Int → List (S32) → Option (Int × Int × (List (S32)) × Int × Int × Int)
  | 0, _, _, _, _, _, _, _, _, _ => none
  | k + 1, x2, x8, x1000, x1001, x1002, x1003, x103000, x103001, x103002 => if x8 ≤ 3 then ((spec_l01Src_one.f x1000 x1001 x1002 x1003 2).bind fun bt103 => (if bt103.1 = true then ((spec_l01Src_l10Proof.f k x1000 bt103.2.1 bt103.2.2.1 bt103.2.2.2 x2 x8).bind fun bt107 => (if x103002.length < 2513169434916 then (spec_l01Src_l10Change.l0 k x2 (wrap64 (x8 + 1)) x1000 bt107.2.2.2.2.1 bt107.2.2.2.2.2.1 bt107.2.2.2.2.2.2 x103000 x103001 (x103002 ++ [(⟨bt107.1, bt107.2.1, bt107.2.2.1, bt107.2.2.2.1⟩ : S32)])) else (none))) else (spec_l01Src_l10Change.l0 k x2 (wrap64 (x8 + 1)) x1000 bt103.2.1 bt103.2.2.1 bt103.2.2.2 x103000 x103001 x103002))) else ((spec_l01Src_one.f x1000 x1001 x1002 x1003 40).bind fun bt119 => (if bt119.1 = true then ((spec_l01Src_l10Proof.f k x1000 bt119.2.1 bt119.2.2.1 bt119.2.2.2 x2 1).bind fun bt123 => (if x103002.length < 2513169434916 then (some (x103000, x103001, (x103002 ++ [(⟨bt123.1, bt123.2.1, bt123.2.2.1, bt123.2.2.2.1⟩ : S32)]), bt123.2.2.2.2.1, bt123.2.2.2.2.2.1, bt123.2.2.2.2.2.2)) else (none))) else (some (x103000, x103001, x103002, bt119.2.1, bt119.2.2.1, bt119.2.2.2))))
def spec_l01Src_l10Change.f (k : Nat) (s0_0 : List Int) (s0_1 : Int) (s0_2 : Int) (s0_3 : Int) (a1 : Int) (a2 : Int) : Option (Int × Int × (List (S32)) × Int × Int × Int) := spec_l01Src_l10Change.l0 k a2 1 s0_0 s0_1 s0_2 s0_3 a1 a2 ([] : List (S32))
def spec_l01Src_l10Change.T6 : Bool × List (List Nat × List Nat) := (true, [([], []), ([0], [0]), ([], []), ([], []), ([], []), ([2, 3, 4], [2, 3, 4]), ([5], [5]), ([1, 6, 5], [1, 6]), ([0, 1, 2, 3, 4, 5, 6, 7], []), ([8, 7, 7, 0, 1, 2, 3, 4, 5, 6, 7], [7, 8])])
def spec_l01Src_l10Change.B6 : List Nat := [0, 1, 0, 0, 0, 28, 60, 127, 255, 511]
theorem spec_l01Src_l10Change.tab6 : rtab .any (opsOf Try.f17 6) = spec_l01Src_l10Change.T6 := by kernel_rfl
theorem spec_l01Src_l10Change.bits6 : waitsOk spec_l01Src_l10Change.T6.2 spec_l01Src_l10Change.B6 = true := by kernel_rfl
def spec_l01Src_l10Change.T8 : Bool × List (List Nat × List Nat) := (true, [([], []), ([0], [0]), ([], []), ([], []), ([2, 3], [2, 3]), ([4], [4]), ([1, 5, 4], [1, 5]), ([0, 1, 2, 3, 4, 5, 6], []), ([7, 6, 6, 0, 1, 2, 3, 4, 5, 6], [6, 7])])
def spec_l01Src_l10Change.B8 : List Nat := [0, 1, 0, 0, 12, 28, 63, 127, 255]
theorem spec_l01Src_l10Change.tab8 : rtab .any (opsOf Try.f17 8) = spec_l01Src_l10Change.T8 := by kernel_rfl
theorem spec_l01Src_l10Change.bits8 : waitsOk spec_l01Src_l10Change.T8.2 spec_l01Src_l10Change.B8 = true := by kernel_rfl
theorem jX0 {n : Nat} {w W W' : World} (h : Below n w W) (f : Below n w W → Below n w W' := by intro h_; repeat (first | (with_reducible first | exact h_ | apply bA | apply bN | apply bD | refine bS ?_ (IsS58.ge HI0.out) | refine bS ?_ (Aside0.out (by assumption))) | exact h_)) : Below n w W' := f h
theorem jX11 {p q : Prop} (h : p) (f : p → q := by intro h_; repeat (first | (with_reducible first | exact h_ | apply IsS58.alloc | apply IsS58.drewN | apply IsS58.drew | apply IsS58.set_1 | apply IsS58.set_2 | apply IsS58.set_3 | refine IsS58.far ?_ (Aside0.out (by assumption)) _ | apply IsS58.far | exact Aside0.out (by assumption)) | exact h_)) : q := f h
set_option maxHeartbeats 60000000 in
set_option maxRecDepth 100000 in
theorem spec_l01Src_l10Change.calls (k : Nat) (g : Nat) (s0_0 : List Int) (s0_1 : Int) (s0_2 : Int) (s0_3 : Int) (a1 : Int) (a2 : Int) (r1 : Int) (r2 : Int) (r3 : List (S32)) (r4 : Int) (r5 : Int) (r6 : Int) (w0 w : World) (hI : IsS58 w0 w g s0_0 s0_1 s0_2 s0_3) (hB : Below w0.heap.size w0 w) (h : spec_l01Src_l10Change.f k s0_0 s0_1 s0_2 s0_3 a1 a2 = some (r1, r2, r3, r4, r5, r6)) :
    Calls Try.prog 17 #[.pointer (some ⟨g, 0, none⟩), .int .i64 a1, .int .i64 a2] w fun e w' => ∃ v2_ : Value, e = .returned (.agg #[.int .i64 r1, .int .i64 r2, v2_]) ∧ Kd.S k32 32 w' w.heap.size (fun _ => True) v2_ r3 ∧ IsS58 w0 w' g s0_0 r4 r5 r6 ∧ Below w0.heap.size w0 w' ∧ KeepBut w w' g none := by
 have hu29 := Try.underlying29; have HI0 := AM hI; have HK := AM (KeepBut.refl w g none); have HL := AM hB.size; clear hI; have HW0 := AM hB.size; have HB := AM hB; clear hB; have H : (spec_l01Src_l10Change.l0 k a2 1 s0_0 s0_1 s0_2 s0_3 a1 a2 ([] : List (S32))) = some (r1, r2, r3, r4, r5, r6) := h; clear h; have H' := AM H; clear H; go_enter Try.func17, Try.ntmps17
 go_wp2_with (first | (refine bE (N := 6) (cs := zz2) (t := 29) ?_; intro gb101 hg w4 hbox hb; have _ := AM (IsS58.below (jX11 HI0.out) hb); have _ := AM (KeepBut.trans (hX HK.out) (KeepBut.of_below hb g none) (.inl rfl)); have _ := AM (below_step (jX0 HB.out) hb); have _ := AM (hbox); have _ := AM ((by rw [hg]; exact (keep_size (w := w) (g := g) (row := none) (hX HK.out)) : w.heap.size ≤ gb101)); have _ := AM ((Nat.le_trans HW0.out (by rw [hg]; exact (keep_size (w := w) (g := g) (row := none) (hX HK.out)) : w.heap.size ≤ gb101) : w0.heap.size ≤ gb101)); have _ := AM ((by rw [hg]; exact Nat.ne_of_lt (IsS58.lt (show IsS58 w0 _ g s0_0 s0_1 s0_2 s0_3 from jX11 HI0.out)) : g ≠ gb101)); have _ := AM ((by rw [hg]; exact Nat.ne_of_gt (IsS58.lt (show IsS58 w0 _ g s0_0 s0_1 s0_2 s0_3 from jX11 HI0.out)) : gb101 ≠ g)); clear HI0 HK HB; rename_i HI0 HK HB BK101 GW101 GE101 NB0_101 NB101_0; clear hb hbox hg) | (refine bE (N := 7) (cs := zz2) (t := 29) ?_; intro gb102 hg w5 hbox hb; have _ := AM (IsS58.below (jX11 HI0.out) hb); have _ := nY BK101 hb; have _ := AM (KeepBut.trans (hX HK.out) (KeepBut.of_below hb g none) (.inl rfl)); have _ := AM (below_step (jX0 HB.out) hb); have _ := AM (hbox); have _ := AM ((by rw [hg]; exact (keep_size (w := w) (g := g) (row := none) (hX HK.out)) : w.heap.size ≤ gb102)); have _ := AM ((Nat.le_trans HW0.out (by rw [hg]; exact (keep_size (w := w) (g := g) (row := none) (hX HK.out)) : w.heap.size ≤ gb102) : w0.heap.size ≤ gb102)); have _ := AM (lX hg BK101.out); have _ := AM (lX hg BK101.out).symm; have _ := AM ((by rw [hg]; exact Nat.ne_of_lt (IsS58.lt (show IsS58 w0 _ g s0_0 s0_1 s0_2 s0_3 from jX11 HI0.out)) : g ≠ gb102)); have _ := AM ((by rw [hg]; exact Nat.ne_of_gt (IsS58.lt (show IsS58 w0 _ g s0_0 s0_1 s0_2 s0_3 from jX11 HI0.out)) : gb102 ≠ g)); clear HI0 BK101 HK HB; rename_i HI0 BK101 HK HB BK102 GW102 GE102 NB101_102 NB102_101 NB0_102 NB102_0; clear hb hbox hg; have hnb6 := nP NB102_101; have hnb7 := nP NB102_0; have hcz8 := q3 BK102.out; have hfz8 := fZ BK102.out))
 go_loopg [8] k (fun kq v8 w' => ∃ (x8_1 : Int) (x1001_1 : Int) (x1002_1 : Int) (x1003_1 : Int) (x103002_1 : List (S32)) (u103002 : Value), v8 = .int .i64 x8_1 ∧ Aside0 (spec_l01Src_l10Change.l0 kq a2 x8_1 s0_0 x1001_1 x1002_1 x1003_1 a1 a2 x103002_1 = some (r1, r2, r3, r4, r5, r6)) ∧ Aside0 (kq ≤ k) ∧ Aside0 (Kd.S k32 32 w' w.heap.size (fun _ => True) u103002 x103002_1) ∧ Aside0 (w'.heap[gb101]? = some (.cells #[.int .i64 0, .int .i64 0, (.slice none 0 0)] 29 (0, 0))) ∧ Aside0 (w'.heap[gb102]? = some (.cells #[.int .i64 a1, .int .i64 a2, u103002] 29 (0, 0))) ∧ Aside0 (IsS58 w0 w' g s0_0 x1001_1 x1002_1 x1003_1) ∧ Aside0 (KeepBut w w' g none) ∧ Aside0 (Below w0.heap.size w0 w'))
 case atStart => exact ⟨(1), (s0_1), (s0_2), (s0_3), (([] : List (S32))), (.slice none 0 0), rR, H', ⟨Nat.le_refl _⟩, ⟨by first | exact Kd.S_nil _ _ _ _ _ | exact Kd.N_nil _ _ _ _ _ | exact Kd.V_nil _ _ _ _ _ | exact Kd.Q_nil _ _ _ _ _ | exact Kd.R_nil _ _ _ _ _⟩, ⟨by (iterate 3 refine kF NB101_102.out ?_); exact kX BK101.out⟩, ⟨by refine pk3 zz2 ?_; exact kX BK102.out⟩, ⟨jX11 HI0.out⟩, ⟨hX HK.out⟩, ⟨jX0 HB.out⟩⟩
 case round =>
  clear H'; (try clear c1); (try clear p2); (try clear c6); (try clear c7); (try clear hcz8); (try clear hfz8); obtain ⟨x8_1, x1001_1, x1002_1, x1003_1, x103002_1, u103002, rfl, HA, HK1, HO_103002, BK101, BK102, HI0, HK, HB⟩ := hrel
  cases gk with
  | zero => exact absurd HA.out (by simp [spec_l01Src_l10Change.l0])
  | succ k1 =>
   have H := HA.out; clear HA; simp only [spec_l01Src_l10Change.l0] at H
   by_cases c9 : x8_1 ≤ 3
   ·
    rw [if_pos c9] at H; have c9b0 := dY c9; clear c9; replace H := oM H; obtain ⟨⟨t103, t104, t105, t106⟩, A100, H⟩ := H; try dsimp only at H
    have A10 := AM A100; clear A100; by_cases c11 : t103 = true
    ·
     subst c11; rw [if_pos rfl] at H; replace H := oM H; obtain ⟨⟨t107, t108, t109, t110, t113, t114, t115⟩, A120, H⟩ := H; try dsimp only at H
     have A12 := AM A120; clear A120; by_cases c13 : x103002_1.length < 2513169434916
     ·
      rw [if_pos c13] at H; have LMc13 := AM c13; clear c13; obtain ⟨y116, hy116⟩ : ∃ y_ : List (S32), y_ = (x103002_1 ++ [(⟨t107, t108, t109, t110⟩ : S32)]) := ⟨_, rfl⟩; replace H : (spec_l01Src_l10Change.l0 k1 a2 (wrap64 (x8_1 + 1)) s0_0 t113 t114 t115 a1 a2 y116) = some (r1, r2, r3, r4, r5, r6) := hS hy116 H
      have Ny116 := AM hy116; clear hy116; have H' := AM H; clear H; try go_wp2_with (first | ((with_reducible refine gate_callee (f := 16) rfl ?_); refine gL (some 17) Try.func16 #[.pointer (some ⟨g, 0, none⟩), .int .i64 2] ?_; (with_reducible refine (spec_l01Src_one.calls g _ _ _ _ _ _ _ _ _ w0 _ ?s1 ?s2 A10.out).mono ?_); (case s1 => exact (jX11 HI0.out)); (case s2 => exact (jX0 HB.out)); rintro e w14 ⟨rfl, hi, hb, hk⟩; refine ⟨_, rfl, ?_⟩; have _ := AM (Kd.S_mono (Kd.S_keep (IsS58.apartS (show IsS58 w0 _ g s0_0 x1001_1 x1002_1 x1003_1 from jX11 HI0.out) (sX HO_103002.out) (by decide)) hk (fun _ h => h.2)) (fun _ h => h.1)); have _ := kY hk BK101 NB101_0; have _ := kY hk BK102 NB102_0; have _ := AM (KeepBut.trans (hX HK.out) hk (.inl rfl)); have _ := AM (hb); have _ := AM (hi); clear HO_103002 BK101 BK102 HK HB HI0; rename_i HO_103002 BK101 BK102 HK HB HI0))
      replace HO_103002 := AM (Kd.S_drew HO_103002.out); replace BK101 := kDY BK101; replace BK102 := kDY BK102; replace HI0 := AM (IsS58.drew HI0.out); replace HK := AM (keep_drew HK.out); replace HB := bDY HB; refine start_ (n := 10) (S := fun w' => w'.cell? ⟨gb102, 0, none⟩ = some (.int .i64 a1) ∧ w'.cell? ⟨gb102, 1, none⟩ = some (.int .i64 a2) ∧ w'.cell? ⟨gb102, 2, none⟩ = some (u103002)) (ds := [9]) (upTo 0 10) (by kernel_rfl) rfl rfl ⟨hC BK102.out 0, hC BK102.out 1, hC BK102.out 2⟩ (fun hHeld => ?_); refine with_tabW spec_l01Src_l10Change.tab6 spec_l01Src_l10Change.bits6 (fun HT_ HW_ => ?_); generalize w14.drew = w15 at HO_103002 BK101 BK102 HI0 HK HB hHeld ⊢; refine pF 0 1 10 18 ?_; refine pF2 2 20 spec_l01Src_l10Change.b0 ?_; refine pF2 3 21 spec_l01Src_l10Change.b1 ?_; refine pF2 4 22 spec_l01Src_l10Change.b2 ?_; refine pT2 1 19 (upTo 5 10) ?_ hHeld; refine oU 5 23 (upTo 6 10) HT_.out (fun K hK => ?_); refine gs Try.func33 #[.pointer (some ⟨g, 0, none⟩), .int .i64 a2, .int .i64 x8_1] ?_; with_reducible refine (spec_l01Src_l10Proof.calls k1 g s0_0 t104 t105 t106 a2 x8_1 t107 t108 t109 t110 t113 t114 t115 w0 _ ?s1 ?s2 A12.out).mono ?_
      (case s1 => exact (jX11 HI0.out))
      (case s2 => exact (jX0 HB.out))
      rintro e w16 ⟨v111, rfl, ho0, hi, hb, hk⟩; refine ⟨_, rfl, ?_⟩; have HO112 := AM (Kd.R_lower ho0 (keep_size (w := w) (g := g) (row := none) (hX HK.out))); replace HO_103002 := AM (Kd.S_mono (Kd.S_told (Kd.S_oldK (IsS58.apartS (show IsS58 w0 _ g s0_0 t104 t105 t106 from jX11 HI0.out) (sX HO_103002.out) (by decide)) hk) (Kd.R_base ho0)) (fun _ h_ => h_.1)); replace BK101 := kY hk BK101 NB101_0; replace BK102 := kY hk BK102 NB102_0; replace HK := AM (KeepBut.trans (hX HK.out) hk (.inl rfl)); replace HB := AM (hb); replace HI0 := AM (hi); (try clear ho0); obtain ⟨Ao18, co18, eo18⟩ := Kd.R_slice HO112.out
      (first | subst eo18 | (injection eo18 with f1_ f2_ f3_; have f4_ := f1_.symm; have f5_ := f3_.symm; clear f1_ f2_ f3_; subst f4_; subst f5_))
      refine hK.out _ _ (q3 BK102.out) (fun hHeld => ?_); clear hK K; refine nS 23 ?_
      refine oU 6 24 (upTo 7 10) HT_.out (fun K hK => ?_); refine value_ (w1 := ?_) (v := ?_) (by rfl) rfl ?_ ?_
      rotate_left 2
      ·
       go_simp
       constructor
       ·
        rfl
       rfl
      refine hK.out _ _ ⟨(kC (kA BK102.out _) 0).trans rfl, (kC (kA BK102.out _) 1).trans rfl, (kC (kA BK102.out _) 2).trans rfl⟩ (fun hHeld => ?_); clear hK K; refine nS 24 ?_
      refine oU 7 25 (upTo 8 10) HT_.out (fun K hK => ?_); refine Kd.S_append_step k32 w.heap.size (by rfl) (.tmp 19) (.tmp 24) 27 32 (.agg #[(.int .i64 0), (.int .i64 0), (.string ⟨#[]⟩), (.slice none 0 0)]) 56 rfl Try.underlying27 info32 rfl (by decide) (by omega) u103002 x103002_1 (⟨t107, t108, t109, t110⟩ : S32) [.int .i64 t107, .int .i64 t108, .string t109, .slice Ao18 t110.length co18] (fun _ => True) (fun k_ => some k_ = (.slice Ao18 t110.length co18 : Value).ownBlock) rfl rfl ?aP (fun k_ hk_ => ((Kd.R_mono (ok' := fun k_ => ((fun _ => True)) k_ ∧ some k_ ≠ (u103002 : Value).ownBlock) (Kd.R_apart' (HO112.out) (Kd.S_typed HO_103002.out) (by decide)) (fun k_ hk => ⟨trivial, hk.2⟩))).1 k_ hk_.symm) ?aF ?aO (Below.refl _ _) ?aS ?aL ?_
      (case aP => exact k32_mkM _ _ _ (⟨t107, t108, t109, t110⟩ : S32) (Kd.R_mono (Kd.R_tight rfl (Kd.R_mono (ok' := fun k_ => ((fun _ => True)) k_ ∧ some k_ ≠ (u103002 : Value).ownBlock) (Kd.R_apart' (HO112.out) (Kd.S_typed HO_103002.out) (by decide)) (fun k_ hk => ⟨trivial, hk.2⟩))) (fun _ h_ => h_)))
      (case aF => exact (fun _ _ => trivial))
      (case aO => exact (by (with_reducible repeat (first | apply Kd.S_alloc | apply Kd.S_drewN | apply Kd.S_drew)); exact Kd.S_mono HO_103002.out (fun k_ hk => ⟨trivial, fun e_ => hk.2 e_⟩)))
      (case aS => exact (keep_size (w := w) (g := g) (row := none) (hX HK.out)))
      (case aL => have := LMc13.out; omega)
      intro v117 w17 ho hb hg hat; rw [← Ny116.out] at ho; have _ := AM (gR BK101.out hg (Kd.S_ne HO_103002.out BK101.out (by decide))); have _ := AM (gR BK102.out hg (Kd.S_ne HO_103002.out BK102.out (by decide))); have _ := AM (IsS58.grown (jX11 HI0.out) hg (IsS58.own_neS HI0.out HO_103002.out (by decide))); have _ := AM (below_weaken (jX0 HB.out) HL.out hb); have _ := AM (KeepBut.trans (hX HK.out) (KeepBut.of_grown hg g) (Kd.S_base2 HO_103002.out)); have _ := AM (ho); clear BK101 BK102 HI0 HB HK HO_103002 HO112; rename_i BK101 BK102 HI0 HB HK HO118; clear ho hb hg hat; obtain ⟨Ao19, co19, eo19⟩ := Kd.S_slice HO118.out
      (first | subst eo19 | (injection eo19 with f1_ f2_ f3_; have f4_ := f1_.symm; have f5_ := f3_.symm; clear f1_ f2_ f3_; subst f4_; subst f5_))
      refine hK.out _ _ (q3 BK102.out) (fun hHeld => ?_); clear hK K; refine nS 25 ?_
      refine pF 8 9 10 26 ?_; refine last_ (i := 9) (N := none) (upTo 10 10) rfl rfl (one_of HT_.out (by kernel_rfl)) (by decide) (fun K hK => ?_); have hs20 : w17.cell? ⟨gb102, 2, none⟩ = some (u103002) := hC BK102.out 2; have hfs20 := fZ BK102.out; have hns20_0 := nP NB101_102; refine skip_ (w1 := ?_) (by rfl) rfl ?_ ?_; rotate_left
      ·
       go_simp
       rfl
      refine hK.out _ _ ?_; clear hK K; refine done_ (done_of HT_.out (by kernel_rfl)) ?_; try go_wp2
      go_roundg k1
      case measure => have := HK1.out; omega
      case rel => exact ⟨(wrap64 (x8_1 + 1)), (t113), (t114), (t115), (y116), (.slice Ao19 y116.length co19), rR, H', ⟨by have := HK1.out; omega⟩, ⟨by (with_reducible repeat (first | apply Kd.S_alloc | apply Kd.S_drewN | apply Kd.S_drew)); exact Kd.S_mono (Kd.S_far (p := ⟨gb102, 2, none⟩) (Kd.S_types HO118.out BK102.out (by decide)) (fun _ hk => hk.2) (.slice Ao19 y116.length co19)) (fun _ hk => trivial)⟩, ⟨by refine kF NB101_102.out ?_; exact kX BK101.out⟩, ⟨by refine kP (cs := #[.int .i64 a1, .int .i64 a2, u103002]) 2 ?_; exact kX BK102.out⟩, ⟨jX11 HI0.out⟩, ⟨hX HK.out⟩, ⟨jX0 HB.out⟩⟩
     rw [if_neg c13] at H; exact absurd H (by simp)
    replace c11 := oE c11; subst c11; rw [if_neg nft] at H; have H' := AM H; clear H; go_wp2_with (first | ((with_reducible refine gate_callee (f := 16) rfl ?_); refine gL (some 17) Try.func16 #[.pointer (some ⟨g, 0, none⟩), .int .i64 2] ?_; (with_reducible refine (spec_l01Src_one.calls g _ _ _ _ _ _ _ _ _ w0 _ ?s1 ?s2 A10.out).mono ?_); (case s1 => exact (jX11 HI0.out)); (case s2 => exact (jX0 HB.out)); rintro e w21 ⟨rfl, hi, hb, hk⟩; refine ⟨_, rfl, ?_⟩; have _ := AM (Kd.S_mono (Kd.S_keep (IsS58.apartS (show IsS58 w0 _ g s0_0 x1001_1 x1002_1 x1003_1 from jX11 HI0.out) (sX HO_103002.out) (by decide)) hk (fun _ h => h.2)) (fun _ h => h.1)); have _ := kY hk BK101 NB101_0; have _ := kY hk BK102 NB102_0; have _ := AM (KeepBut.trans (hX HK.out) hk (.inl rfl)); have _ := AM (hb); have _ := AM (hi); clear HO_103002 BK101 BK102 HK HB HI0; rename_i HO_103002 BK101 BK102 HK HB HI0))
    go_roundg k1
    case measure => have := HK1.out; omega
    case rel => exact ⟨(wrap64 (x8_1 + 1)), (t104), (t105), (t106), (x103002_1), (u103002), rR, H', ⟨by have := HK1.out; omega⟩, ⟨by exact sX HO_103002.out⟩, ⟨kX BK101.out⟩, ⟨kX BK102.out⟩, ⟨jX11 HI0.out⟩, ⟨hX HK.out⟩, ⟨jX0 HB.out⟩⟩
   rw [if_neg c9] at H; have c9b0 := dN c9; clear c9; replace H := oM H; obtain ⟨⟨t119, t120, t121, t122⟩, A220, H⟩ := H; try dsimp only at H
   have A22 := AM A220; clear A220; by_cases c23 : t119 = true
   ·
    subst c23; rw [if_pos rfl] at H; replace H := oM H; obtain ⟨⟨t123, t124, t125, t126, t129, t130, t131⟩, A240, H⟩ := H; try dsimp only at H
    have A24 := AM A240; clear A240; by_cases c25 : x103002_1.length < 2513169434916
    ·
     rw [if_pos c25] at H; have LMc25 := AM c25; clear c25; obtain ⟨y132, hy132⟩ : ∃ y_ : List (S32), y_ = (x103002_1 ++ [(⟨t123, t124, t125, t126⟩ : S32)]) := ⟨_, rfl⟩; replace H : (some (a1, a2, y132, t129, t130, t131)) = some (r1, r2, r3, r4, r5, r6) := hS hy132 H
     have Ny132 := AM hy132; clear hy132; simp only [Option.some.injEq, Prod.mk.injEq] at H
     obtain ⟨rfl, rfl, rfl, rfl, rfl, rfl⟩ := H; try go_wp2_with (first | ((with_reducible refine gate_callee (f := 16) rfl ?_); refine gL (some 28) Try.func16 #[.pointer (some ⟨g, 0, none⟩), .int .i64 40] ?_; (with_reducible refine (spec_l01Src_one.calls g _ _ _ _ _ _ _ _ _ w0 _ ?s1 ?s2 A22.out).mono ?_); (case s1 => exact (jX11 HI0.out)); (case s2 => exact (jX0 HB.out)); rintro e w26 ⟨rfl, hi, hb, hk⟩; refine ⟨_, rfl, ?_⟩; have _ := AM (Kd.S_mono (Kd.S_keep (IsS58.apartS (show IsS58 w0 _ g s0_0 x1001_1 x1002_1 x1003_1 from jX11 HI0.out) (sX HO_103002.out) (by decide)) hk (fun _ h => h.2)) (fun _ h => h.1)); have _ := kY hk BK101 NB101_0; have _ := kY hk BK102 NB102_0; have _ := AM (KeepBut.trans (hX HK.out) hk (.inl rfl)); have _ := AM (hb); have _ := AM (hi); clear HO_103002 BK101 BK102 HK HB HI0; rename_i HO_103002 BK101 BK102 HK HB HI0))
     replace HO_103002 := AM (Kd.S_drew HO_103002.out); replace BK101 := kDY BK101; replace BK102 := kDY BK102; replace HI0 := AM (IsS58.drew HI0.out); replace HK := AM (keep_drew HK.out); replace HB := bDY HB; refine start_ (n := 9) (S := fun w' => w'.cell? ⟨gb102, 0, none⟩ = some (.int .i64 a1) ∧ w'.cell? ⟨gb102, 1, none⟩ = some (.int .i64 a2) ∧ w'.cell? ⟨gb102, 2, none⟩ = some (u103002)) (ds := [8]) (upTo 0 9) (by kernel_rfl) rfl rfl ⟨hC BK102.out 0, hC BK102.out 1, hC BK102.out 2⟩ (fun hHeld => ?_); refine with_tabW spec_l01Src_l10Change.tab8 spec_l01Src_l10Change.bits8 (fun HT_ HW_ => ?_); generalize w26.drew = w27 at HO_103002 BK101 BK102 HI0 HK HB hHeld ⊢; refine pF 0 1 9 29 ?_; refine pF2 2 31 spec_l01Src_l10Change.b3 ?_; refine pF2 3 32 spec_l01Src_l10Change.b4 ?_; refine pT2 1 30 (upTo 4 9) ?_ hHeld; refine oU 4 33 (upTo 5 9) HT_.out (fun K hK => ?_); refine gs Try.func33 #[.pointer (some ⟨g, 0, none⟩), .int .i64 a2, .int .i64 1] ?_; with_reducible refine (spec_l01Src_l10Proof.calls k1 g s0_0 t120 t121 t122 a2 1 t123 t124 t125 t126 t129 t130 t131 w0 _ ?s1 ?s2 A24.out).mono ?_
     (case s1 => exact (jX11 HI0.out))
     (case s2 => exact (jX0 HB.out))
     rintro e w28 ⟨v127, rfl, ho0, hi, hb, hk⟩; refine ⟨_, rfl, ?_⟩; have HO128 := AM (Kd.R_lower ho0 (keep_size (w := w) (g := g) (row := none) (hX HK.out))); replace HO_103002 := AM (Kd.S_mono (Kd.S_told (Kd.S_oldK (IsS58.apartS (show IsS58 w0 _ g s0_0 t120 t121 t122 from jX11 HI0.out) (sX HO_103002.out) (by decide)) hk) (Kd.R_base ho0)) (fun _ h_ => h_.1)); replace BK101 := kY hk BK101 NB101_0; replace BK102 := kY hk BK102 NB102_0; replace HK := AM (KeepBut.trans (hX HK.out) hk (.inl rfl)); replace HB := AM (hb); replace HI0 := AM (hi); (try clear ho0); obtain ⟨Ao30, co30, eo30⟩ := Kd.R_slice HO128.out
     (first | subst eo30 | (injection eo30 with f1_ f2_ f3_; have f4_ := f1_.symm; have f5_ := f3_.symm; clear f1_ f2_ f3_; subst f4_; subst f5_))
     refine hK.out _ _ (q3 BK102.out) (fun hHeld => ?_); clear hK K; refine nS 33 ?_
     refine oU 5 34 (upTo 6 9) HT_.out (fun K hK => ?_); refine value_ (w1 := ?_) (v := ?_) (by rfl) rfl ?_ ?_
     rotate_left 2
     ·
      go_simp
      constructor
      ·
       rfl
      rfl
     refine hK.out _ _ ⟨(kC (kA BK102.out _) 0).trans rfl, (kC (kA BK102.out _) 1).trans rfl, (kC (kA BK102.out _) 2).trans rfl⟩ (fun hHeld => ?_); clear hK K; refine nS 34 ?_
     refine oU 6 35 (upTo 7 9) HT_.out (fun K hK => ?_); refine Kd.S_append_step k32 w.heap.size (by rfl) (.tmp 30) (.tmp 34) 27 32 (.agg #[(.int .i64 0), (.int .i64 0), (.string ⟨#[]⟩), (.slice none 0 0)]) 56 rfl Try.underlying27 info32 rfl (by decide) (by omega) u103002 x103002_1 (⟨t123, t124, t125, t126⟩ : S32) [.int .i64 t123, .int .i64 t124, .string t125, .slice Ao30 t126.length co30] (fun _ => True) (fun k_ => some k_ = (.slice Ao30 t126.length co30 : Value).ownBlock) rfl rfl ?aP (fun k_ hk_ => ((Kd.R_mono (ok' := fun k_ => ((fun _ => True)) k_ ∧ some k_ ≠ (u103002 : Value).ownBlock) (Kd.R_apart' (HO128.out) (Kd.S_typed HO_103002.out) (by decide)) (fun k_ hk => ⟨trivial, hk.2⟩))).1 k_ hk_.symm) ?aF ?aO (Below.refl _ _) ?aS ?aL ?_
     (case aP => exact k32_mkM _ _ _ (⟨t123, t124, t125, t126⟩ : S32) (Kd.R_mono (Kd.R_tight rfl (Kd.R_mono (ok' := fun k_ => ((fun _ => True)) k_ ∧ some k_ ≠ (u103002 : Value).ownBlock) (Kd.R_apart' (HO128.out) (Kd.S_typed HO_103002.out) (by decide)) (fun k_ hk => ⟨trivial, hk.2⟩))) (fun _ h_ => h_)))
     (case aF => exact (fun _ _ => trivial))
     (case aO => exact (by (with_reducible repeat (first | apply Kd.S_alloc | apply Kd.S_drewN | apply Kd.S_drew)); exact Kd.S_mono HO_103002.out (fun k_ hk => ⟨trivial, fun e_ => hk.2 e_⟩)))
     (case aS => exact (keep_size (w := w) (g := g) (row := none) (hX HK.out)))
     (case aL => have := LMc25.out; omega)
     intro v133 w29 ho hb hg hat; rw [← Ny132.out] at ho; have _ := AM (gR BK101.out hg (Kd.S_ne HO_103002.out BK101.out (by decide))); have _ := AM (gR BK102.out hg (Kd.S_ne HO_103002.out BK102.out (by decide))); have _ := AM (IsS58.grown (jX11 HI0.out) hg (IsS58.own_neS HI0.out HO_103002.out (by decide))); have _ := AM (below_weaken (jX0 HB.out) HL.out hb); have _ := AM (KeepBut.trans (hX HK.out) (KeepBut.of_grown hg g) (Kd.S_base2 HO_103002.out)); have _ := AM (ho); clear BK101 BK102 HI0 HB HK HO_103002 HO128; rename_i BK101 BK102 HI0 HB HK HO134; clear ho hb hg hat; obtain ⟨Ao31, co31, eo31⟩ := Kd.S_slice HO134.out
     (first | subst eo31 | (injection eo31 with f1_ f2_ f3_; have f4_ := f1_.symm; have f5_ := f3_.symm; clear f1_ f2_ f3_; subst f4_; subst f5_))
     refine hK.out _ _ (q3 BK102.out) (fun hHeld => ?_); clear hK K; refine nS 35 ?_
     refine pF 7 8 9 36 ?_; refine last_ (i := 8) (N := none) (upTo 9 9) rfl rfl (one_of HT_.out (by kernel_rfl)) (by decide) (fun K hK => ?_); have hs32 : w29.cell? ⟨gb102, 2, none⟩ = some (u103002) := hC BK102.out 2; have hfs32 := fZ BK102.out; have hns32_0 := nP NB101_102; refine skip_ (w1 := ?_) (by rfl) rfl ?_ ?_; rotate_left
     ·
      go_simp
      rfl
     refine hK.out _ _ ?_; clear hK K; refine done_ (done_of HT_.out (by kernel_rfl)) ?_; have hnb33 := nP NB102_101; have hnb34 := nP NB102_0; have hcz35 := q3 BK102.out; have hfz35 := fZ BK102.out; have hnb36 := nP NB101_0; have hcz37 := q3 BK101.out; have hfz37 := fZ BK101.out; try go_wp2
     refine bodyPost_ret (results_cell_row rfl _ _ gb101 29 #[.int .i64 a1, .int .i64 a2, .slice Ao31 y132.length co31] (0, 0) _ rfl (by refine kP (cs := #[.int .i64 a1, .int .i64 a2, .slice none 0 0]) 2 ?_; refine kP (cs := #[.int .i64 a1, .int .i64 0, .slice none 0 0]) 1 ?_; refine kP (cs := #[.int .i64 0, .int .i64 0, .slice none 0 0]) 0 ?_; refine kF NB101_102.out ?_; exact kX BK101.out) Try.underlying29 rfl (by kernel_rfl)) rfl ?_; exact ⟨_, rE, by (with_reducible repeat (first | apply Kd.S_alloc | apply Kd.S_drewN | apply Kd.S_drew)); exact Kd.S_mono (Kd.S_far (p := ⟨gb101, 2, none⟩) (Kd.S_far (p := ⟨gb101, 1, none⟩) (Kd.S_far (p := ⟨gb101, 0, none⟩) (Kd.S_far (p := ⟨gb102, 2, none⟩) (Kd.S_types (Kd.S_types HO134.out BK102.out (by decide)) BK101.out (by decide)) (fun _ hk => hk.1.2) (.slice Ao31 y132.length co31)) (fun _ hk => hk.2) (.int .i64 a1)) (fun _ hk => hk.2) (.int .i64 a2)) (fun _ hk => hk.2) (.slice Ao31 y132.length co31)) (fun _ hk => trivial), jX11 HI0.out, jX0 HB.out, hX HK.out⟩
    rw [if_neg c25] at H; exact absurd H (by simp)
   replace c23 := oE c23; subst c23; rw [if_neg nft] at H; simp only [Option.some.injEq, Prod.mk.injEq] at H
   obtain ⟨rfl, rfl, rfl, rfl, rfl, rfl⟩ := H; go_wp2_with (first | ((with_reducible refine gate_callee (f := 16) rfl ?_); refine gL (some 28) Try.func16 #[.pointer (some ⟨g, 0, none⟩), .int .i64 40] ?_; (with_reducible refine (spec_l01Src_one.calls g _ _ _ _ _ _ _ _ _ w0 _ ?s1 ?s2 A22.out).mono ?_); (case s1 => exact (jX11 HI0.out)); (case s2 => exact (jX0 HB.out)); rintro e w38 ⟨rfl, hi, hb, hk⟩; refine ⟨_, rfl, ?_⟩; replace HO_103002 := AM (Kd.S_mono (Kd.S_keep (IsS58.apartS (show IsS58 w0 _ g s0_0 x1001_1 x1002_1 x1003_1 from jX11 HI0.out) (sX HO_103002.out) (by decide)) hk (fun _ h => h.2)) (fun _ h => h.1)); replace BK101 := kY hk BK101 NB101_0; replace BK102 := kY hk BK102 NB102_0; replace HK := AM (KeepBut.trans (hX HK.out) hk (.inl rfl)); replace HB := AM (hb); replace HI0 := AM (hi); have hnb39 := nP NB102_101; have hnb40 := nP NB102_0; have hcz41 := q3 BK102.out; have hfz41 := fZ BK102.out; have hnb42 := nP NB101_0; have hcz43 := q3 BK101.out; have hfz43 := fZ BK101.out; obtain ⟨Ao44, co44, eo44⟩ := Kd.S_slice HO_103002.out; subst eo44))
   refine bodyPost_ret (results_cell_row rfl _ _ gb101 29 #[.int .i64 a1, .int .i64 a2, .slice Ao44 x103002_1.length co44] (0, 0) _ rfl (by refine pk3 zz2 ?_; exact kX BK101.out) Try.underlying29 rfl (by kernel_rfl)) rfl ?_; exact ⟨_, rE, by (with_reducible repeat (first | apply Kd.S_alloc | apply Kd.S_drewN | apply Kd.S_drew)); exact Kd.S_mono (Kd.S_far (p := ⟨gb101, 2, none⟩) (Kd.S_far (p := ⟨gb101, 1, none⟩) (Kd.S_far (p := ⟨gb101, 0, none⟩) (Kd.S_types HO_103002.out BK101.out (by decide)) (fun _ hk => hk.2) (.int .i64 a1)) (fun _ hk => hk.2) (.int .i64 a2)) (fun _ hk => hk.2) (.slice Ao44 x103002_1.length co44)) (fun _ hk => trivial), jX11 HI0.out, jX0 HB.out, hX HK.out⟩

/-! ### spec_DrawWanted: function 4 -/

def spec_DrawWanted.l0 : Nat → List (S29) → Int → Int → List Int → Int → Int → Int → Option ((List (S29)))
  | 0, _, _, _, _, _, _, _ => none
  | k + 1, x4, x5, x6, x106000, x106001, x106002, x106003 => if x6 < 4 then ((spec_l01Src_one.f x106000 x106001 x106002 x106003 4).bind fun bt113 => (if bt113.1 = true then (spec_DrawWanted.l0 k x4 x5 (wrap64 (x6 + 1)) x106000 bt113.2.1 bt113.2.2.1 bt113.2.2.2) else ((spec_l01Src_l10Change.f k x106000 bt113.2.1 bt113.2.2.1 bt113.2.2.2 x6 x5).bind fun bt117 => (if x4.length < 3518437208883 then (spec_DrawWanted.l0 k (x4 ++ [(⟨bt117.1, bt117.2.1, bt117.2.2.1⟩ : S29)]) x5 (wrap64 (x6 + 1)) x106000 bt117.2.2.2.1 bt117.2.2.2.2.1 bt117.2.2.2.2.2) else (none))))) else ((spec_l01Src_one.f x106000 x106001 x106002 x106003 15).bind fun bt128 => (if bt128.1 = true then ((spec_l01Src_n.f x106000 bt128.2.1 bt128.2.2.1 bt128.2.2.2 4).bind fun bt132 => ((spec_l01Src_l10Change.f k x106000 bt132.2.1 bt132.2.2.1 bt132.2.2.2 bt132.1 x5).bind fun bt136 => (if x4.length < 3518437208883 then (some (x4 ++ [(⟨bt136.1, bt136.2.1, bt136.2.2.1⟩ : S29)])) else (none)))) else (some x4)))
def spec_DrawWanted.f (k : Nat) (l0 : List Int) : Option ((List (S29))) := (spec_l01Source.f k l0).bind fun bt101 => ((spec_l01Src_n.f bt101.1 bt101.2.1 bt101.2.2.1 bt101.2.2.2 3).bind fun bt109 => (spec_DrawWanted.l0 k (([] : List (S29))) (wrap64 (1 + bt109.1)) 0 bt101.1 bt109.2.1 bt109.2.2.1 bt109.2.2.2))
theorem jX8 {n : Nat} {w W W' : World} (h : Below n w W) (f : Below n w W → Below n w W' := by intro h_; repeat (first | (with_reducible first | exact h_ | apply bA | apply bN | apply bD | refine bS ?_ (IsS58.ge HI105.out) | refine bS ?_ (Aside0.out (by assumption))) | exact h_)) : Below n w W' := f h
theorem jX10 {p q : Prop} (h : p) (f : p → q := by intro h_; repeat (first | (with_reducible first | exact h_ | apply IsS58.alloc | apply IsS58.drewN | apply IsS58.drew | apply IsS58.set_1 | apply IsS58.set_2 | apply IsS58.set_3 | refine IsS58.far ?_ (Aside0.out (by assumption)) _ | apply IsS58.far | exact Aside0.out (by assumption)) | exact h_)) : q := f h
set_option maxHeartbeats 60000000 in
set_option maxRecDepth 100000 in
theorem spec_DrawWanted.calls (k : Nat) (A0 : Option Addr) (c0 : Nat) (l0 : List Int) (r : List (S29)) (w : World) (hr0 : Kd.C (Kd.int .u8) w A0 l0.length l0) (hc0 : l0.length ≤ c0) (h : spec_DrawWanted.f k l0 = some r) :
    Calls Try.prog 4 #[.slice A0 l0.length c0] w fun e w' => ∃ v0_ : Value, e = .returned (v0_) ∧ Kd.R k29 29 w' w.heap.size (fun _ => True) v0_ r ∧ Below w.heap.size w w' := by
 have HR0 := AM hr0; have HC0 := AM hc0; clear hr0 hc0; have HB := AM (Below.refl w.heap.size w); have H : ((spec_l01Source.f k l0).bind fun bt101 => ((spec_l01Src_n.f bt101.1 bt101.2.1 bt101.2.2.1 bt101.2.2.2 3).bind fun bt109 => (spec_DrawWanted.l0 k (([] : List (S29))) (wrap64 (1 + bt109.1)) 0 bt101.1 bt109.2.1 bt109.2.2.1 bt109.2.2.2))) = some r := h; clear h; replace H := oM H; obtain ⟨⟨t101, t102, t103, t104⟩, A20, H⟩ := H; try dsimp only at H
 have A2 := AM A20; clear A20; obtain ⟨y106, hy106⟩ : ∃ y_ : List (S29), y_ = (([] : List (S29))) := ⟨_, rfl⟩; replace H : ((spec_l01Src_n.f t101 t102 t103 t104 3).bind fun bt109 => (spec_DrawWanted.l0 k y106 (wrap64 (1 + bt109.1)) 0 t101 bt109.2.1 bt109.2.2.1 bt109.2.2.2)) = some r := hS hy106 H
 have Ny106 := AM hy106; clear hy106; replace H := oM H; obtain ⟨⟨t109, t110, t111, t112⟩, A30, H⟩ := H; try dsimp only at H
 have A3 := AM A30; clear A30; have H' := AM H; clear H; go_enter Try.func4, Try.ntmps4
 go_wp2_with (first | ((with_reducible refine gate_callee (f := 14) rfl ?_); refine gL (some 8) Try.func14 #[.slice A0 l0.length c0] ?_; (with_reducible refine (spec_l01Source.calls _ _ _ _ _ _ _ _ w _ ?s1 ?s2 ?s3 A2.out).mono ?_); (case s1 => exact (bX HB.out)); (case s2 => exact HR0.out); (case s3 => exact HC0.out); rintro e w4 ⟨g105, rfl, hi, hb, hb2⟩; refine ⟨_, rfl, ?_⟩; have _ := AM (hb); have _ := AM (hi); clear HB; rename_i HB HI105) | ((with_reducible refine gate_dst (N := 9) rfl ?_); refine Kd.R_lit k29 _ 29 ?hg (N := 9) ?hd (xs := ([] : List (S29))) (inner := []) (ok := fun _ => True) (okp := fun _ => True) ?hr ?hp (fun _ hk => hk) trivial (Below.refl _ _) (Nat.le_refl _) (by simp) ?_; (case hd => rfl); (case hg => rfl); (case hr => first | (go_simp; done) | (go_simp; rfl)); (case hp => exact (Reps.none _ _)); intro v107 w5 ho6 hb hg_ hnew_; clear hg_ hnew_; (first | rw [← Ny106.out] at ho6 | (simp only [Int.reduceToNat] at ho6; rw [← Ny106.out] at ho6)); have HO108 := AM (Kd.R_lower ho6 (bZ (jX8 HB.out))); replace HI105 := AM (IsS58.below (jX10 HI105.out) hb); replace HB := AM (below_step (jX8 HB.out) hb); clear hb ho6) | ((with_reducible refine gate_callee (f := 15) rfl ?_); refine gL (some 11) Try.func15 #[.pointer (some ⟨g105, 0, none⟩), .int .i64 3] ?_; (with_reducible refine (spec_l01Src_n.calls g105 _ _ _ _ _ _ _ _ _ w _ ?s1 ?s2 A3.out).mono ?_); (case s1 => exact (jX10 HI105.out)); (case s2 => exact (jX8 HB.out)); rintro e w7 ⟨rfl, hi, hb, hk⟩; refine ⟨_, rfl, ?_⟩; have _ := IsS58.aR (show IsS58 w _ g105 t101 t102 t103 t104 from jX10 HI105.out) HO108 hk; have _ := AM (hb); have _ := AM (hi); clear HO108 HB HI105; rename_i HO108 HB HI105))
 go_loopg [4, 6] k (fun kq v4 v6 w' => ∃ (x4_1 : List (S29)) (x6_1 : Int) (x106001_1 : Int) (x106002_1 : Int) (x106003_1 : Int), v6 = .int .i64 x6_1 ∧ Aside0 (spec_DrawWanted.l0 kq x4_1 (wrap64 (1 + t109)) x6_1 t101 x106001_1 x106002_1 x106003_1 = some r) ∧ Aside0 (kq ≤ k) ∧ Aside0 (Kd.R k29 29 w' w.heap.size (fun _ => True) v4 x4_1) ∧ Aside0 (IsS58 w w' g105 t101 x106001_1 x106002_1 x106003_1) ∧ Aside0 (Below w.heap.size w w'))
 case atStart => exact ⟨(y106), (0), (t110), (t111), (t112), rR, H', ⟨Nat.le_refl _⟩, ⟨rX HO108.out⟩, ⟨jX10 HI105.out⟩, ⟨jX8 HB.out⟩⟩
 case round =>
  clear H'; (try clear c1); (try clear p2); (try clear c4); (try clear p6); obtain ⟨x4_1, x6_1, x106001_1, x106002_1, x106003_1, rfl, HA, HK1, HO_4, HI105, HB⟩ := hrel
  cases gk with
  | zero => exact absurd HA.out (by simp [spec_DrawWanted.l0])
  | succ k1 =>
   have H := HA.out; clear HA; simp only [spec_DrawWanted.l0] at H
   by_cases c8 : x6_1 < 4
   ·
    rw [if_pos c8] at H; have c8b0 := dY c8; clear c8; replace H := oM H; obtain ⟨⟨t113, t114, t115, t116⟩, A90, H⟩ := H; try dsimp only at H
    have A9 := AM A90; clear A90; by_cases c10 : t113 = true
    ·
     subst c10; rw [if_pos rfl] at H; have H' := AM H; clear H; go_wp2_with (first | ((with_reducible refine gate_callee (f := 16) rfl ?_); refine gL (some 18) Try.func16 #[.pointer (some ⟨g105, 0, none⟩), .int .i64 4] ?_; (with_reducible refine (spec_l01Src_one.calls g105 _ _ _ _ _ _ _ _ _ w _ ?s1 ?s2 A9.out).mono ?_); (case s1 => exact (jX10 HI105.out)); (case s2 => exact (jX8 HB.out)); rintro e w11 ⟨rfl, hi, hb, hk⟩; refine ⟨_, rfl, ?_⟩; have _ := IsS58.aR (show IsS58 w _ g105 t101 x106001_1 x106002_1 x106003_1 from jX10 HI105.out) HO_4 hk; have _ := AM (hb); have _ := AM (hi); clear HO_4 HB HI105; rename_i HO_4 HB HI105))
     go_roundg k1
     case measure => have := HK1.out; omega
     case rel => exact ⟨(x4_1), (wrap64 (x6_1 + 1)), (t114), (t115), (t116), rR, H', ⟨by have := HK1.out; omega⟩, ⟨rX HO_4.out⟩, ⟨jX10 HI105.out⟩, ⟨jX8 HB.out⟩⟩
    replace c10 := oE c10; subst c10; rw [if_neg nft] at H; replace H := oM H; obtain ⟨⟨t117, t118, t119, t122, t123, t124⟩, A120, H⟩ := H; try dsimp only at H
    have A12 := AM A120; clear A120; by_cases c13 : x4_1.length < 3518437208883
    ·
     rw [if_pos c13] at H; have LMc13 := AM c13; clear c13; obtain ⟨y125, hy125⟩ : ∃ y_ : List (S29), y_ = (x4_1 ++ [(⟨t117, t118, t119⟩ : S29)]) := ⟨_, rfl⟩; replace H : (spec_DrawWanted.l0 k1 y125 (wrap64 (1 + t109)) (wrap64 (x6_1 + 1)) t101 t122 t123 t124) = some r := hS hy125 H
     have Ny125 := AM hy125; clear hy125; have H' := AM H; clear H; go_wp2_with (first | ((with_reducible refine gate_callee (f := 16) rfl ?_); refine gL (some 18) Try.func16 #[.pointer (some ⟨g105, 0, none⟩), .int .i64 4] ?_; (with_reducible refine (spec_l01Src_one.calls g105 _ _ _ _ _ _ _ _ _ w _ ?s1 ?s2 A9.out).mono ?_); (case s1 => exact (jX10 HI105.out)); (case s2 => exact (jX8 HB.out)); rintro e w14 ⟨rfl, hi, hb, hk⟩; refine ⟨_, rfl, ?_⟩; have _ := IsS58.aR (show IsS58 w _ g105 t101 x106001_1 x106002_1 x106003_1 from jX10 HI105.out) HO_4 hk; have _ := AM (hb); have _ := AM (hi); clear HO_4 HB HI105; rename_i HO_4 HB HI105) | ((with_reducible refine gate_callee (f := 17) rfl ?_); refine gL (some 24) Try.func17 #[.pointer (some ⟨g105, 0, none⟩), .int .i64 x6_1, .int .i64 (wrap64 (1 + t109))] ?_; (with_reducible refine (spec_l01Src_l10Change.calls _ g105 _ _ _ _ _ _ _ _ _ _ _ _ w _ ?s1 ?s2 A12.out).mono ?_); (case s1 => exact (jX10 HI105.out)); (case s2 => exact (jX8 HB.out)); rintro e w15 ⟨v120, rfl, ho0, hi, hb, hk⟩; refine ⟨_, rfl, ?_⟩; have HO121 := AM (Kd.S_lower ho0 (bZ (jX8 HB.out))); replace HO_4 := AM (Kd.R_mono (Kd.R_told (Kd.R_oldK (IsS58.apart (show IsS58 w _ g105 t101 t114 t115 t116 from jX10 HI105.out) (rX HO_4.out) (by decide)) hk) (Kd.S_base ho0)) (fun _ h_ => h_.1)); replace HB := AM (hb); replace HI105 := AM (hi); (try clear ho0); obtain ⟨Ao17, co17, eo17⟩ := Kd.S_slice HO121.out; subst eo17) | ((with_reducible refine gate_builtin (b := .append) (xs := #[.tmp 20, .tmp 25]) rfl ?_); at_builtin; refine Kd.R_append k29 (w0 := w) w.heap.size rfl (.tmp 20) (.tmp 25) 23 29 (.agg #[(.int .i64 0), (.int .i64 0), (.slice none 0 0)]) 40 rfl Try.underlying23 info29 rfl (by decide) (by omega) u4 x4_1 (⟨t117, t118, t119⟩ : S29) [.int .i64 t117, .int .i64 t118, .slice Ao17 t119.length co17] (fun _ => True) (fun k_ => ((fun _ => True)) k_ ∧ some k_ ≠ (u4 : Value).ownBlock) rfl rfl ?aP (fun _ hk => hk) ?aF ?aO ?aB ?aS ?aL ?_; (case aP => exact k29_mkM _ _ _ (⟨t117, t118, t119⟩ : S29) (Kd.R_mono (Kd.R_apart' ((Kd.S_R HO121.out)) (Kd.R_typed HO_4.out) (by decide)) (fun k_ hk => ⟨trivial, hk.2⟩))); (case aB => exact (jX8 HB.out)); (case aF => exact (fun _ _ => trivial)); (case aO => exact (by (with_reducible repeat (first | apply rA | apply rN | apply rD)); exact Kd.R_mono HO_4.out (fun _ hk => trivial))); (case aS => exact (bZ (jX8 HB.out))); (case aL => have := LMc13.out; omega); intro v126 w16 ho hb hg hat; rw [← Ny125.out] at ho; have _ := AM (IsS58.grown (jX10 HI105.out) hg (IsS58.own_ne HI105.out HO_4.out (by decide))); have _ := AM (hb); have _ := AM (ho); clear HI105 HB HO_4 HO121; rename_i HI105 HB HO127; clear ho hb hg hat))
     go_roundg k1
     case measure => have := HK1.out; omega
     case rel => exact ⟨(y125), (wrap64 (x6_1 + 1)), (t122), (t123), (t124), rR, H', ⟨by have := HK1.out; omega⟩, ⟨rX HO127.out⟩, ⟨jX10 HI105.out⟩, ⟨jX8 HB.out⟩⟩
    rw [if_neg c13] at H; exact absurd H (by simp)
   rw [if_neg c8] at H; have c8b0 := dN c8; clear c8; replace H := oM H; obtain ⟨⟨t128, t129, t130, t131⟩, A180, H⟩ := H; try dsimp only at H
   have A18 := AM A180; clear A180; by_cases c19 : t128 = true
   ·
    subst c19; rw [if_pos rfl] at H; replace H := oM H; obtain ⟨⟨t132, t133, t134, t135⟩, A200, H⟩ := H; try dsimp only at H
    have A20 := AM A200; clear A200; replace H := oM H; obtain ⟨⟨t136, t137, t138, t141, t142, t143⟩, A210, H⟩ := H; try dsimp only at H
    have A21 := AM A210; clear A210; by_cases c22 : x4_1.length < 3518437208883
    ·
     rw [if_pos c22] at H; have LMc22 := AM c22; clear c22; obtain ⟨y144, hy144⟩ : ∃ y_ : List (S29), y_ = (x4_1 ++ [(⟨t136, t137, t138⟩ : S29)]) := ⟨_, rfl⟩; replace H : (some y144) = some r := hS hy144 H
     have Ny144 := AM hy144; clear hy144; obtain rfl := Option.some.inj H; go_wp2_with (first | ((with_reducible refine gate_callee (f := 16) rfl ?_); refine gL (some 28) Try.func16 #[.pointer (some ⟨g105, 0, none⟩), .int .i64 15] ?_; (with_reducible refine (spec_l01Src_one.calls g105 _ _ _ _ _ _ _ _ _ w _ ?s1 ?s2 A18.out).mono ?_); (case s1 => exact (jX10 HI105.out)); (case s2 => exact (jX8 HB.out)); rintro e w23 ⟨rfl, hi, hb, hk⟩; refine ⟨_, rfl, ?_⟩; have _ := IsS58.aR (show IsS58 w _ g105 t101 x106001_1 x106002_1 x106003_1 from jX10 HI105.out) HO_4 hk; have _ := AM (hb); have _ := AM (hi); clear HO_4 HB HI105; rename_i HO_4 HB HI105) | ((with_reducible refine gate_callee (f := 15) rfl ?_); refine gL (some 32) Try.func15 #[.pointer (some ⟨g105, 0, none⟩), .int .i64 4] ?_; (with_reducible refine (spec_l01Src_n.calls g105 _ _ _ _ _ _ _ _ _ w _ ?s1 ?s2 A20.out).mono ?_); (case s1 => exact (jX10 HI105.out)); (case s2 => exact (jX8 HB.out)); rintro e w24 ⟨rfl, hi, hb, hk⟩; refine ⟨_, rfl, ?_⟩; have _ := IsS58.aR (show IsS58 w _ g105 t101 t129 t130 t131 from jX10 HI105.out) HO_4 hk; have _ := AM (hb); have _ := AM (hi); clear HO_4 HB HI105; rename_i HO_4 HB HI105) | ((with_reducible refine gate_callee (f := 17) rfl ?_); refine gL (some 34) Try.func17 #[.pointer (some ⟨g105, 0, none⟩), .int .i64 t132, .int .i64 (wrap64 (1 + t109))] ?_; (with_reducible refine (spec_l01Src_l10Change.calls _ g105 _ _ _ _ _ _ _ _ _ _ _ _ w _ ?s1 ?s2 A21.out).mono ?_); (case s1 => exact (jX10 HI105.out)); (case s2 => exact (jX8 HB.out)); rintro e w25 ⟨v139, rfl, ho0, hi, hb, hk⟩; refine ⟨_, rfl, ?_⟩; have HO140 := AM (Kd.S_lower ho0 (bZ (jX8 HB.out))); replace HO_4 := AM (Kd.R_mono (Kd.R_told (Kd.R_oldK (IsS58.apart (show IsS58 w _ g105 t101 t133 t134 t135 from jX10 HI105.out) (rX HO_4.out) (by decide)) hk) (Kd.S_base ho0)) (fun _ h_ => h_.1)); replace HB := AM (hb); replace HI105 := AM (hi); (try clear ho0); obtain ⟨Ao27, co27, eo27⟩ := Kd.S_slice HO140.out; subst eo27) | ((with_reducible refine gate_builtin (b := .append) (xs := #[.tmp 29, .tmp 35]) rfl ?_); at_builtin; refine Kd.R_append k29 (w0 := w) w.heap.size rfl (.tmp 29) (.tmp 35) 23 29 (.agg #[(.int .i64 0), (.int .i64 0), (.slice none 0 0)]) 40 rfl Try.underlying23 info29 rfl (by decide) (by omega) u4 x4_1 (⟨t136, t137, t138⟩ : S29) [.int .i64 t136, .int .i64 t137, .slice Ao27 t138.length co27] (fun _ => True) (fun k_ => ((fun _ => True)) k_ ∧ some k_ ≠ (u4 : Value).ownBlock) rfl rfl ?aP (fun _ hk => hk) ?aF ?aO ?aB ?aS ?aL ?_; (case aP => exact k29_mkM _ _ _ (⟨t136, t137, t138⟩ : S29) (Kd.R_mono (Kd.R_apart' ((Kd.S_R HO140.out)) (Kd.R_typed HO_4.out) (by decide)) (fun k_ hk => ⟨trivial, hk.2⟩))); (case aB => exact (jX8 HB.out)); (case aF => exact (fun _ _ => trivial)); (case aO => exact (by (with_reducible repeat (first | apply rA | apply rN | apply rD)); exact Kd.R_mono HO_4.out (fun _ hk => trivial))); (case aS => exact (bZ (jX8 HB.out))); (case aL => have := LMc22.out; omega); intro v145 w26 ho hb hg hat; rw [← Ny144.out] at ho; have _ := AM (IsS58.grown (jX10 HI105.out) hg (IsS58.own_ne HI105.out HO_4.out (by decide))); have _ := AM (hb); have _ := AM (ho); clear HI105 HB HO_4 HO140; rename_i HI105 HB HO146; clear ho hb hg hat))
     go_ret
     exact ⟨_, rE, rX HO146.out, jX8 HB.out⟩
    rw [if_neg c22] at H; exact absurd H (by simp)
   replace c19 := oE c19; subst c19; rw [if_neg nft] at H; obtain rfl := Option.some.inj H; go_wp2_with (first | ((with_reducible refine gate_callee (f := 16) rfl ?_); refine gL (some 28) Try.func16 #[.pointer (some ⟨g105, 0, none⟩), .int .i64 15] ?_; (with_reducible refine (spec_l01Src_one.calls g105 _ _ _ _ _ _ _ _ _ w _ ?s1 ?s2 A18.out).mono ?_); (case s1 => exact (jX10 HI105.out)); (case s2 => exact (jX8 HB.out)); rintro e w28 ⟨rfl, hi, hb, hk⟩; refine ⟨_, rfl, ?_⟩; have _ := IsS58.aR (show IsS58 w _ g105 t101 x106001_1 x106002_1 x106003_1 from jX10 HI105.out) HO_4 hk; have _ := AM (hb); have _ := AM (hi); clear HO_4 HB HI105; rename_i HO_4 HB HI105))
   go_ret
   exact ⟨_, rE, rX HO_4.out, jX8 HB.out⟩

/-! ### impl_within: function 40 -/

def impl_within.f (a0 : Int) (a1 : Int) (a2 : Int) : Option (Bool) := if a0 ≥ a1 then (some (decide (a0 ≤ a2))) else (some false)
set_option maxHeartbeats 60000000 in
set_option maxRecDepth 100000 in
theorem impl_within.calls (a0 : Int) (a1 : Int) (a2 : Int) (r : Bool) (w : World) (h : impl_within.f a0 a1 a2 = some r) :
    Calls Try.prog 40 #[.int .i64 a0, .int .i64 a1, .int .i64 a2] w fun e w' => e = .returned (.bool r) ∧ Drawn0 w w' := by
 have H : (if a0 ≥ a1 then (some (decide (a0 ≤ a2))) else (some false)) = some r := h; clear h; by_cases c4 : a0 ≥ a1
 ·
  rw [if_pos c4] at H; have c4b0 : decide (a1 ≤ a0) = true := dY c4; clear c4; obtain rfl := Option.some.inj H; go_enter Try.func40, Try.ntmps40
  go_wp2
  go_ret
  exact ⟨by first | rfl | (simp; done) | (simp [*]; done), drX⟩
 rw [if_neg c4] at H; have c4b0 : decide (a1 ≤ a0) = false := dN c4; clear c4; obtain rfl := Option.some.inj H; go_enter Try.func40, Try.ntmps40
 go_wp2
 go_ret
 exact ⟨by first | rfl | (simp; done) | (simp [*]; done), drX⟩

/-! ### impl_isReplica: function 23 -/

def impl_isReplica.f (a0 : Int) : Option (Bool) := (impl_within.f a0 0 3).bind fun t101 => (some t101)
set_option maxHeartbeats 60000000 in
set_option maxRecDepth 100000 in
theorem impl_isReplica.calls (a0 : Int) (r : Bool) (w : World) (h : impl_isReplica.f a0 = some r) :
    Calls Try.prog 23 #[.int .i64 a0] w fun e w' => e = .returned (.bool r) ∧ Drawn0 w w' := by
 have H : ((impl_within.f a0 0 3).bind fun t101 => (some t101)) = some r := h; clear h; replace H := oM H; obtain ⟨t101, A20, H⟩ := H; have A2 := AM A20; clear A20; obtain rfl := Option.some.inj H; go_enter Try.func23, Try.ntmps23
 go_wp2_with (first | ((with_reducible refine gate_callee (f := 40) rfl ?_); refine gL (some 4) Try.func40 #[.int .i64 a0, .int .i64 0, .int .i64 3] ?_; (with_reducible refine (impl_within.calls _ _ _ _ _ A2.out).mono ?_); rintro e w' ⟨rfl, ⟨nd, rfl⟩⟩; refine ⟨_, rfl, ?_⟩))
 go_ret
 exact ⟨by first | rfl | (simp; done) | (simp [*]; done), drX⟩

/-! ### impl_isView: function 24 -/

def impl_isView.f (a0 : Int) (a1 : Int) : Option (Bool) := (impl_within.f a0 a1 7).bind fun t101 => (some t101)
set_option maxHeartbeats 60000000 in
set_option maxRecDepth 100000 in
theorem impl_isView.calls (a0 : Int) (a1 : Int) (r : Bool) (w : World) (h : impl_isView.f a0 a1 = some r) :
    Calls Try.prog 24 #[.int .i64 a0, .int .i64 a1] w fun e w' => e = .returned (.bool r) ∧ Drawn0 w w' := by
 have H : ((impl_within.f a0 a1 7).bind fun t101 => (some t101)) = some r := h; clear h; replace H := oM H; obtain ⟨t101, A30, H⟩ := H; have A3 := AM A30; clear A30; obtain rfl := Option.some.inj H; go_enter Try.func24, Try.ntmps24
 go_wp2_with (first | ((with_reducible refine gate_callee (f := 40) rfl ?_); refine gL (some 7) Try.func40 #[.int .i64 a0, .int .i64 a1, .int .i64 7] ?_; (with_reducible refine (impl_within.calls _ _ _ _ _ A3.out).mono ?_); rintro e w' ⟨rfl, ⟨nd, rfl⟩⟩; refine ⟨_, rfl, ?_⟩))
 go_ret
 exact ⟨by first | rfl | (simp; done) | (simp [*]; done), drX⟩

/-! ### impl_isSeq: function 51 -/

def impl_isSeq.f (a0 : Int) : Option (Bool) := (impl_within.f a0 1 6).bind fun t101 => (some t101)
set_option maxHeartbeats 60000000 in
set_option maxRecDepth 100000 in
theorem impl_isSeq.calls (a0 : Int) (r : Bool) (w : World) (h : impl_isSeq.f a0 = some r) :
    Calls Try.prog 51 #[.int .i64 a0] w fun e w' => e = .returned (.bool r) ∧ Drawn0 w w' := by
 have H : ((impl_within.f a0 1 6).bind fun t101 => (some t101)) = some r := h; clear h; replace H := oM H; obtain ⟨t101, A20, H⟩ := H; have A2 := AM A20; clear A20; obtain rfl := Option.some.inj H; go_enter Try.func51, Try.ntmps51
 go_wp2_with (first | ((with_reducible refine gate_callee (f := 40) rfl ?_); refine gL (some 4) Try.func40 #[.int .i64 a0, .int .i64 1, .int .i64 6] ?_; (with_reducible refine (impl_within.calls _ _ _ _ _ A2.out).mono ?_); rintro e w' ⟨rfl, ⟨nd, rfl⟩⟩; refine ⟨_, rfl, ?_⟩))
 go_ret
 exact ⟨by first | rfl | (simp; done) | (simp [*]; done), drX⟩

/-! ### impl_isOp: function 52 -/

def impl_isOp.f (a0 : ByteArray) : Option (Bool) := some (decide ((a0.size : Int) ≤ 120))
set_option maxHeartbeats 60000000 in
set_option maxRecDepth 100000 in
theorem impl_isOp.calls (a0 : ByteArray) (r : Bool) (w : World) (h : impl_isOp.f a0 = some r) :
    Calls Try.prog 52 #[.string a0] w fun e w' => e = .returned (.bool r) ∧ Drawn0 w w' := by
 have H : (some (decide ((a0.size : Int) ≤ 120))) = some r := h; clear h; obtain rfl := Option.some.inj H; go_enter Try.func52, Try.ntmps52
 go_wp2
 go_ret
 exact ⟨by first | rfl | (simp; done) | (simp [*]; done), drX⟩

/-! ### impl_isQuorum: function 53 -/

def impl_isQuorum.l0 : Nat → List Int → List Int → Int → Int → Option (Bool)
  | 0, _, _, _, _ => none
  | k + 1, x0, x5, x6, x7 => if x7 < x6 then (if 0 ≤ x7 then (if x7 < (x5.length : Int) then ((impl_isReplica.f (rd x5 x7)).bind fun t102 => (if t102 = true then (if x7 > 0 then (if 0 ≤ (wrap64 (x7 - 1)) then (if (wrap64 (x7 - 1)) < (x0.length : Int) then (if (rd x0 (wrap64 (x7 - 1))) ≥ (rd x5 x7) then (some false) else (impl_isQuorum.l0 k x0 x5 x6 (wrap64 (x7 + 1)))) else (none)) else (none)) else (impl_isQuorum.l0 k x0 x5 x6 (wrap64 (x7 + 1)))) else (some false))) else (none)) else (none)) else (some (decide ((x0.length : Int) ≥ 3)))
def impl_isQuorum.f (k : Nat) (l0 : List Int) : Option (Bool) := impl_isQuorum.l0 k l0 l0 (l0.length : Int) 0
set_option maxHeartbeats 60000000 in
set_option maxRecDepth 100000 in
theorem impl_isQuorum.calls (k : Nat) (A0 : Option Addr) (c0 : Nat) (l0 : List Int) (r : Bool) (w : World) (hr0 : Kd.C (Kd.int .i64) w A0 l0.length l0) (hc0 : l0.length ≤ c0) (h : impl_isQuorum.f k l0 = some r) :
    Calls Try.prog 53 #[.slice A0 l0.length c0] w fun e w' => e = .returned (.bool r) ∧ Drawn0 w w' := by
 have HR0 := AM hr0; have HC0 := AM hc0; clear hr0 hc0; have H : (impl_isQuorum.l0 k l0 l0 (l0.length : Int) 0) = some r := h; clear h; have H' := AM H; clear H; go_enter Try.func53, Try.ntmps53
 go_wp2
 go_loopg [7] k (fun kq v7 w' => ∃ (x7_1 : Int), v7 = .int .i64 x7_1 ∧ Aside0 (impl_isQuorum.l0 kq l0 l0 (l0.length : Int) x7_1 = some r) ∧ Aside0 (kq ≤ k) ∧ Drawn0 w w')
 case atStart => exact ⟨(0), rR, H', ⟨Nat.le_refl _⟩, drX⟩
 case round =>
  clear H'; obtain ⟨x7_1, rfl, HA, HK1, ⟨m1, rfl⟩⟩ := hrel
  cases gk with
  | zero => exact absurd HA.out (by simp [impl_isQuorum.l0])
  | succ k1 =>
   have H := HA.out; clear HA; simp only [impl_isQuorum.l0] at H
   by_cases c2 : x7_1 < (l0.length : Int)
   ·
    rw [if_pos c2] at H; have c2b0 := dY c2; clear c2; by_cases c3 : 0 ≤ x7_1
    ·
     rw [if_pos c3] at H; have c3b0 := dY c3; clear c3; by_cases c4 : x7_1 < (l0.length : Int)
     ·
      rw [if_pos c4] at H; have c4b0 := dY c4; clear c4; replace H := oM H; obtain ⟨t102, A50, H⟩ := H; have A5 := AM A50; clear A50; by_cases c6 : t102 = true
      ·
       subst c6; rw [if_pos rfl] at H; by_cases c7 : x7_1 > 0
       ·
        rw [if_pos c7] at H; have c7b0 : decide (0 < x7_1) = true := dY c7; clear c7; obtain ⟨ji8, hji8⟩ : ∃ j_ : Int, (wrap64 (x7_1 - 1)) = j_ := ⟨_, rfl⟩; replace H : (if 0 ≤ (ji8) then (if (ji8) < (l0.length : Int) then (if (rd l0 (ji8)) ≥ (rd l0 x7_1) then (some false) else (impl_isQuorum.l0 k1 l0 l0 (l0.length : Int) (wrap64 (x7_1 + 1)))) else (none)) else (none)) = some r := by first | (rw [hji8] at H; exact H) | (simp only [hji8] at H ⊢; exact H)
        (try rw [hji8] at A5); have hji8w : (IntKind.i64.wrap (x7_1 - 1)) = ji8 := (i64_w _).trans hji8; by_cases c9 : 0 ≤ (ji8)
        ·
         rw [if_pos c9] at H; have c9b0 := dY c9; clear c9; by_cases c10 : (ji8) < (l0.length : Int)
         ·
          rw [if_pos c10] at H; have c10b0 := dY c10; clear c10; by_cases c11 : (rd l0 (ji8)) ≥ (rd l0 x7_1)
          ·
           rw [if_pos c11] at H; have c11b0 : decide ((rd l0 x7_1) ≤ (rd l0 (ji8))) = true := dY c11; clear c11; obtain rfl := Option.some.inj H; obtain ⟨p101, q101, ad101, e101, hx101_0⟩ := pQ (Kd.at_int HR0.out x7_1); cases e101; go_wp2_with (first | ((with_reducible refine gate_callee (f := 23) rfl ?_); refine gL (some 13) Try.func23 #[.int .i64 (rd l0 x7_1)] ?_; (with_reducible refine (impl_isReplica.calls _ _ _ A5.out).mono ?_); rintro e w' ⟨rfl, ⟨nd, rfl⟩⟩; refine ⟨_, rfl, ?_⟩; have p103 : 0 ≤ ((ji8) : Int) := oD ‹_›; have q103 : (ji8) < (l0.length : Int) := oD ‹_›; obtain ⟨ad103, e103, hx103_0⟩ := Kd.at_int HR0.out (ji8) p103 q103; obtain rfl : ad101 = ad103 := (by injection e103); replace p103 := eq_true p103; replace q103 := eq_true q103))
           go_ret
           exact ⟨by first | rfl | (simp; done) | (simp only [← hji8] <;> (first | rfl | simp)) | (simp [*]; done), drX⟩
          rw [if_neg c11] at H; have c11b0 : decide ((rd l0 x7_1) ≤ (rd l0 (ji8))) = false := dN c11; clear c11; have H' := AM H; clear H; obtain ⟨p101, q101, ad101, e101, hx101_0⟩ := pQ (Kd.at_int HR0.out x7_1); cases e101; go_wp2_with (first | ((with_reducible refine gate_callee (f := 23) rfl ?_); refine gL (some 13) Try.func23 #[.int .i64 (rd l0 x7_1)] ?_; (with_reducible refine (impl_isReplica.calls _ _ _ A5.out).mono ?_); rintro e w' ⟨rfl, ⟨nd, rfl⟩⟩; refine ⟨_, rfl, ?_⟩; have p103 : 0 ≤ ((ji8) : Int) := oD ‹_›; have q103 : (ji8) < (l0.length : Int) := oD ‹_›; obtain ⟨ad103, e103, hx103_0⟩ := Kd.at_int HR0.out (ji8) p103 q103; obtain rfl : ad101 = ad103 := (by injection e103); replace p103 := eq_true p103; replace q103 := eq_true q103))
          go_roundg k1
          case measure => have := HK1.out; omega
          case rel => exact ⟨(wrap64 (x7_1 + 1)), rR, H', ⟨by have := HK1.out; omega⟩, drX⟩
         rw [if_neg c10] at H; exact absurd H (by simp)
        rw [if_neg c9] at H; exact absurd H (by simp)
       rw [if_neg c7] at H; have c7b0 : decide (0 < x7_1) = false := dN c7; clear c7; have H' := AM H; clear H; obtain ⟨p101, q101, ad101, e101, hx101_0⟩ := pQ (Kd.at_int HR0.out x7_1); cases e101; go_wp2_with (first | ((with_reducible refine gate_callee (f := 23) rfl ?_); refine gL (some 13) Try.func23 #[.int .i64 (rd l0 x7_1)] ?_; (with_reducible refine (impl_isReplica.calls _ _ _ A5.out).mono ?_); rintro e w' ⟨rfl, ⟨nd, rfl⟩⟩; refine ⟨_, rfl, ?_⟩))
       go_roundg k1
       case measure => have := HK1.out; omega
       case rel => exact ⟨(wrap64 (x7_1 + 1)), rR, H', ⟨by have := HK1.out; omega⟩, drX⟩
      replace c6 := oE c6; subst c6; rw [if_neg nft] at H; obtain rfl := Option.some.inj H; obtain ⟨p101, q101, ad101, e101, hx101_0⟩ := pQ (Kd.at_int HR0.out x7_1); cases e101; go_wp2_with (first | ((with_reducible refine gate_callee (f := 23) rfl ?_); refine gL (some 13) Try.func23 #[.int .i64 (rd l0 x7_1)] ?_; (with_reducible refine (impl_isReplica.calls _ _ _ A5.out).mono ?_); rintro e w' ⟨rfl, ⟨nd, rfl⟩⟩; refine ⟨_, rfl, ?_⟩))
      go_ret
      exact ⟨by first | rfl | (simp; done) | (simp [*]; done), drX⟩
     rw [if_neg c4] at H; exact absurd H (by simp)
    rw [if_neg c3] at H; exact absurd H (by simp)
   rw [if_neg c2] at H; have c2b0 := dN c2; clear c2; obtain rfl := Option.some.inj H; go_wp2
   go_ret
   exact ⟨by first | rfl | (simp; done) | (simp [*]; done), drX⟩

/-! ### impl_isProof: function 34 -/

def impl_isProof.f (k : Nat) (a0_0 : Int) (a0_1 : Int) (a0_2 : ByteArray) (l0_3 : List Int) : Option (Bool) := (impl_isView.f a0_0 0).bind fun t102 => (if t102 = true then ((impl_isSeq.f a0_1).bind fun t103 => (if t103 = true then ((impl_isOp.f a0_2).bind fun t104 => (if t104 = true then ((impl_isQuorum.f k l0_3).bind fun t105 => (some t105)) else (some false))) else (some false))) else (some false))
set_option maxHeartbeats 60000000 in
set_option maxRecDepth 100000 in
theorem impl_isProof.calls (k : Nat) (a0_0 : Int) (a0_1 : Int) (a0_2 : ByteArray) (A0_3 : Option Addr) (c0_3 : Nat) (l0_3 : List Int) (r : Bool) (w : World) (hr0_3 : Kd.C (Kd.int .i64) w A0_3 l0_3.length l0_3) (hc0_3 : l0_3.length ≤ c0_3) (h : impl_isProof.f k a0_0 a0_1 a0_2 l0_3 = some r) :
    Calls Try.prog 34 #[.agg #[.int .i64 a0_0, .int .i64 a0_1, .string a0_2, .slice A0_3 l0_3.length c0_3]] w fun e w' => e = .returned (.bool r) ∧ Below w.heap.size w w' := by
 have hu32 := Try.underlying32; have HR0_3 := AM hr0_3; have HC0_3 := AM hc0_3; clear hr0_3 hc0_3; have HB := AM (Below.refl w.heap.size w); have H : ((impl_isView.f a0_0 0).bind fun t102 => (if t102 = true then ((impl_isSeq.f a0_1).bind fun t103 => (if t103 = true then ((impl_isOp.f a0_2).bind fun t104 => (if t104 = true then ((impl_isQuorum.f k l0_3).bind fun t105 => (some t105)) else (some false))) else (some false))) else (some false))) = some r := h; clear h; replace H := oM H; obtain ⟨t102, A20, H⟩ := H; have A2 := AM A20; clear A20; by_cases c3 : t102 = true
 ·
  subst c3; rw [if_pos rfl] at H; replace H := oM H; obtain ⟨t103, A40, H⟩ := H; have A4 := AM A40; clear A40; by_cases c5 : t103 = true
  ·
   subst c5; rw [if_pos rfl] at H; replace H := oM H; obtain ⟨t104, A60, H⟩ := H; have A6 := AM A60; clear A60; by_cases c7 : t104 = true
   ·
    subst c7; rw [if_pos rfl] at H; replace H := oM H; obtain ⟨t105, A80, H⟩ := H; have A8 := AM A80; clear A80; obtain rfl := Option.some.inj H; go_enter Try.func34, Try.ntmps34
    go_wp2_with (first | (refine bE (N := 1) (cs := #[.int .i64 a0_0, .int .i64 a0_1, .string a0_2, .slice A0_3 l0_3.length c0_3]) (t := 32) ?_; intro gb101 hg w9 hbox hb; have GW101 := gY hg HB; have GE101 := GW101; have BK101 := AM (hbox); replace HB := bY HB hb; clear hb hbox hg; have hcz10 := q4 BK101.out; have hfz10 := fZ BK101.out) | ((with_reducible refine gate_callee (f := 24) rfl ?_); refine gL (some 5) Try.func24 #[.int .i64 a0_0, .int .i64 0] ?_; (with_reducible refine (impl_isView.calls _ _ _ _ A2.out).mono ?_); rintro e w' ⟨rfl, ⟨nd, rfl⟩⟩; refine ⟨_, rfl, ?_⟩) | (go_at_call 51; (with_reducible refine (impl_isSeq.calls _ _ _ A4.out).mono ?_); rintro e w' ⟨rfl, ⟨nd, rfl⟩⟩) | (go_at_call 52; (with_reducible refine (impl_isOp.calls _ _ _ A6.out).mono ?_); rintro e w' ⟨rfl, ⟨nd, rfl⟩⟩) | (go_at_call 53; (with_reducible refine (impl_isQuorum.calls _ _ _ _ _ _ ?s1 ?s2 A8.out).mono ?_); (case s1 => repeat (first | exact (cB HR0_3.out (bX HB.out)) | (with_reducible first | apply cA | apply cN | apply cD))); (case s2 => exact HC0_3.out); rintro e w' ⟨rfl, ⟨nd, rfl⟩⟩))
    go_ret
    exact ⟨rE, bX HB.out⟩
   replace c7 := oE c7; subst c7; rw [if_neg nft] at H; obtain rfl := Option.some.inj H; go_enter Try.func34, Try.ntmps34
   go_wp2_with (first | (refine bE (N := 1) (cs := #[.int .i64 a0_0, .int .i64 a0_1, .string a0_2, .slice A0_3 l0_3.length c0_3]) (t := 32) ?_; intro gb101 hg w11 hbox hb; have GW101 := gY hg HB; have GE101 := GW101; have BK101 := AM (hbox); replace HB := bY HB hb; clear hb hbox hg; have hcz12 := q4 BK101.out; have hfz12 := fZ BK101.out) | ((with_reducible refine gate_callee (f := 24) rfl ?_); refine gL (some 5) Try.func24 #[.int .i64 a0_0, .int .i64 0] ?_; (with_reducible refine (impl_isView.calls _ _ _ _ A2.out).mono ?_); rintro e w' ⟨rfl, ⟨nd, rfl⟩⟩; refine ⟨_, rfl, ?_⟩) | (go_at_call 51; (with_reducible refine (impl_isSeq.calls _ _ _ A4.out).mono ?_); rintro e w' ⟨rfl, ⟨nd, rfl⟩⟩) | (go_at_call 52; (with_reducible refine (impl_isOp.calls _ _ _ A6.out).mono ?_); rintro e w' ⟨rfl, ⟨nd, rfl⟩⟩))
   go_ret
   exact ⟨rE, bX HB.out⟩
  replace c5 := oE c5; subst c5; rw [if_neg nft] at H; obtain rfl := Option.some.inj H; go_enter Try.func34, Try.ntmps34
  go_wp2_with (first | (refine bE (N := 1) (cs := #[.int .i64 a0_0, .int .i64 a0_1, .string a0_2, .slice A0_3 l0_3.length c0_3]) (t := 32) ?_; intro gb101 hg w13 hbox hb; have GW101 := gY hg HB; have GE101 := GW101; have BK101 := AM (hbox); replace HB := bY HB hb; clear hb hbox hg; have hcz14 := q4 BK101.out; have hfz14 := fZ BK101.out) | ((with_reducible refine gate_callee (f := 24) rfl ?_); refine gL (some 5) Try.func24 #[.int .i64 a0_0, .int .i64 0] ?_; (with_reducible refine (impl_isView.calls _ _ _ _ A2.out).mono ?_); rintro e w' ⟨rfl, ⟨nd, rfl⟩⟩; refine ⟨_, rfl, ?_⟩) | (go_at_call 51; (with_reducible refine (impl_isSeq.calls _ _ _ A4.out).mono ?_); rintro e w' ⟨rfl, ⟨nd, rfl⟩⟩))
  go_ret
  exact ⟨rE, bX HB.out⟩
 replace c3 := oE c3; subst c3; rw [if_neg nft] at H; obtain rfl := Option.some.inj H; go_enter Try.func34, Try.ntmps34
 go_wp2_with (first | (refine bE (N := 1) (cs := #[.int .i64 a0_0, .int .i64 a0_1, .string a0_2, .slice A0_3 l0_3.length c0_3]) (t := 32) ?_; intro gb101 hg w15 hbox hb; have GW101 := gY hg HB; have GE101 := GW101; have BK101 := AM (hbox); replace HB := bY HB hb; clear hb hbox hg; have hcz16 := q4 BK101.out; have hfz16 := fZ BK101.out) | ((with_reducible refine gate_callee (f := 24) rfl ?_); refine gL (some 5) Try.func24 #[.int .i64 a0_0, .int .i64 0] ?_; (with_reducible refine (impl_isView.calls _ _ _ _ A2.out).mono ?_); rintro e w' ⟨rfl, ⟨nd, rfl⟩⟩; refine ⟨_, rfl, ?_⟩))
 go_ret
 exact ⟨rE, bX HB.out⟩

end Go.Proofs.Ytmfbkkjlijaabaa.Q
