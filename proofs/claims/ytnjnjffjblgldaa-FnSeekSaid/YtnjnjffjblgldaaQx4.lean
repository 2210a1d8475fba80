/- Printed by wip/mp.py: functions as plain Lean functions, and their calls. -/
import Derived.Test.YtnjnjffjblgldaaQx3
namespace Go.Proofs.Ytnjnjffjblgldaa.Q
open Go.RowKit Go.Proofs.Ytnjnjffjblgldaa.HB Go.Proofs.YtnjnjffjblgldaaW.PrintWords Go.Proofs.YtnjnjffjblgldaaW.PrintLast Go.Proofs.YtnjnjffjblgldaaW.PrintMore
attribute [local go_sem] max2_int min2_int max_two min_two max_three min_three max_four min_four   -- for this text's walks alone
set_option linter.unusedVariables false
set_option linter.unusedSimpArgs false

/-! ### spec_TopicFetch: function 9 -/
abbrev spec_TopicFetch.b0 : Array Bool := #[false, true, false, false, false, false, false, false, false, false, false, false, false]
abbrev spec_TopicFetch.b1 : Array Bool := #[false, true, true, false, false, false, false, false, false, false, false, false, false]
abbrev spec_TopicFetch.b2 : Array Bool := #[true, true, true, false, false, false, false, false, false, true, false, false, false]
abbrev spec_TopicFetch.b3 : Array Bool := #[true, true, true, true, false, false, false, false, false, true, false, false, false]
abbrev spec_TopicFetch.b4 : Array Bool := #[true, true, true, true, true, false, false, false, false, true, false, false, false]
abbrev spec_TopicFetch.b5 : Array Bool := #[true, true, true, true, true, true, false, false, false, true, false, false, false]
abbrev spec_TopicFetch.b6 : Array Bool := #[true, true, true, true, true, true, true, false, false, true, false, false, false]
abbrev spec_TopicFetch.b7 : Array Bool := #[true, true, true, true, true, true, true, true, false, true, false, false, false]
abbrev spec_TopicFetch.b8 : Array Bool := #[false, true, false, false, false, false, false, false, false, false, false]
abbrev spec_TopicFetch.b9 : Array Bool := #[false, true, false, true, false, false, false, false, false, false, false]
abbrev spec_TopicFetch.b10 : Array Bool := #[false, true, false, true, false, true, false, false, false, false, false]
abbrev spec_TopicFetch.b11 : Array Bool := #[false, true, false, true, false, true, true, false, false, false, false]
abbrev spec_TopicFetch.b12 : Array Bool := #[true, true, false, true, false, true, true, false, false, false, false]
abbrev spec_TopicFetch.b13 : Array Bool := #[true, true, false, true, true, true, true, false, false, false, false]
abbrev spec_TopicFetch.b14 : Array Bool := #[true, true, false, true, true, true, true, true, false, false, false]
/-- A slice of that length. -/
def SlF (v : Value) (n : Nat) : Prop := ∃ A c, v = .slice A n c
def spec_TopicFetch.f (k : Nat) (a0_0 : ByteArray) (a0_1 : Int) (l0_2 : List ByteArray) (l0_3 : List (S55)) (a1 : ByteArray) (a2 : Int) : Option (ByteArray × Int × List ByteArray × (List (S55)) × List ByteArray × Int × Int) := (spec_l03Is.f a2 0 20).bind fun t103 => ((spec_l07Begin.f k a0_0 a0_1 l0_2 l0_3 a1 t103).bind fun bt104 => (if bt104.2.2.2.2.2 = 0 then (if 0 ≤ bt104.2.2.2.2.1 then (if bt104.2.2.2.2.1 < (bt104.2.2.2.1.length : Int) then ((spec_l01Min.f (l0_2.length : Int) (wrap64 ((wrap64 (((rd_T55 bt104.2.2.2.1 bt104.2.2.2.2.1).f1) - a0_1)) + a2))).bind fun t116 => ((some (([] : List ByteArray) : List ByteArray)).bind fun y117 => (if 0 ≤ (wrap64 (((rd_T55 bt104.2.2.2.1 bt104.2.2.2.2.1).f1) - a0_1)) then (if (wrap64 (((rd_T55 bt104.2.2.2.1 bt104.2.2.2.2.1).f1) - a0_1)) ≤ t116 then (if t116 ≤ (l0_2.length : Int) then (if y117.length + ((l0_2.take (t116 : Int).toNat).drop ((wrap64 (((rd_T55 bt104.2.2.2.1 bt104.2.2.2.2.1).f1) - a0_1)) : Int).toNat).length < 8796093022208 then (some (bt104.1, bt104.2.1, bt104.2.2.1, bt104.2.2.2.1, (y117 ++ ((l0_2.take (t116 : Int).toNat).drop ((wrap64 (((rd_T55 bt104.2.2.2.1 bt104.2.2.2.2.1).f1) - a0_1)) : Int).toNat)), (rd_T55 bt104.2.2.2.1 bt104.2.2.2.2.1).f1, 0)) else (none)) else (none)) else (none)) else (none)))) else (none)) else (none)) else ((spec_l07Ill.f bt104.2.2.2.2.2).bind fun bt124 => (some (bt124.1, bt124.2.1, bt124.2.2.1, bt124.2.2.2.1, bt124.2.2.2.2.1, bt124.2.2.2.2.2.1, bt124.2.2.2.2.2.2)))))
def spec_TopicFetch.T1 : Bool × List (List Nat × List Nat) := (true, [([], []), ([], []), ([], []), ([2], [2]), ([0, 1, 3, 3], [0, 1, 3]), ([4], [4]), ([5], [5]), ([5], [5]), ([5], [5]), ([], []), ([9, 6, 4, 0, 1, 2, 3, 4, 5, 6, 9], [6, 9]), ([7, 10, 0, 1, 2, 3, 4, 5, 6, 7, 9, 10], [7]), ([8, 11, 0, 1, 2, 3, 4, 5, 6, 7, 8, 9, 10, 11], [8])])
def spec_TopicFetch.B1 : List Nat := [0, 0, 0, 4, 15, 31, 63, 63, 63, 0, 639, 1791, 4095]
theorem spec_TopicFetch.tab1 : rtab .any (opsOf Try.f9 1) = spec_TopicFetch.T1 := by kernel_rfl
theorem spec_TopicFetch.bits1 : waitsOk spec_TopicFetch.T1.2 spec_TopicFetch.B1 = true := by kernel_rfl
def spec_TopicFetch.T7 : Bool × List (List Nat × List Nat) := (true, [([], []), ([], []), ([], []), ([], []), ([3], [3]), ([], []), ([], []), ([4, 5, 6], [4, 5, 6]), ([2, 7], [2, 7]), ([0, 1, 8], [0, 1, 8]), ([9, 8, 0, 1, 2, 3, 4, 5, 6, 7, 8, 9], [9])])
def spec_TopicFetch.B7 : List Nat := [0, 0, 0, 0, 8, 0, 0, 120, 252, 511, 1023]
theorem spec_TopicFetch.tab7 : rtab .any (opsOf Try.f9 7) = spec_TopicFetch.T7 := by kernel_rfl
theorem spec_TopicFetch.bits7 : waitsOk spec_TopicFetch.T7.2 spec_TopicFetch.B7 = true := by kernel_rfl
set_option maxHeartbeats 60000000 in
set_option maxRecDepth 100000 in
theorem spec_TopicFetch.calls (k : Nat) (a0_0 : ByteArray) (a0_1 : Int) (A0_2 : Option Addr) (c0_2 : Nat) (l0_2 : List ByteArray) (A0_3 : Option Addr) (c0_3 : Nat) (l0_3 : List (S55)) (a1 : ByteArray) (a2 : Int) (r1 : ByteArray) (r2 : Int) (r3 : List ByteArray) (r4 : List (S55)) (r5 : List ByteArray) (r6 : Int) (r7 : Int) (w : World) (hr0_2 : Kd.C Kd.string w A0_2 l0_2.length l0_2) (hc0_2 : l0_2.length ≤ c0_2) (hr0_3 : Kd.C k55 w A0_3 l0_3.length l0_3) (hc0_3 : l0_3.length ≤ c0_3) (h : spec_TopicFetch.f k a0_0 a0_1 l0_2 l0_3 a1 a2 = some (r1, r2, r3, r4, r5, r6, r7)) :
    Calls Try.prog 9 #[.agg #[.string a0_0, .int .i64 a0_1, .slice A0_2 l0_2.length c0_2, .slice A0_3 l0_3.length c0_3], .string a1, .int .i64 a2] w fun e w' => ∃ v2_ v3_ v4_ : Value, e = .returned (.agg #[.string r1, .int .i64 r2, v2_, v3_, v4_, .int .i64 r6, .int .i64 r7]) ∧ Kd.R Kd.string 9 w' w.heap.size (fun k_ => some k_ ≠ (v4_ : Value).ownBlock) v2_ r3 ∧ Kd.R k55 55 w' w.heap.size (fun _ => True) v3_ r4 ∧ Kd.R Kd.string 9 w' w.heap.size (fun k_ => some k_ ≠ (v2_ : Value).ownBlock) v4_ r5 ∧ Below w.heap.size w w' := by
 have hu29 := Try.underlying29; have hu31 := Try.underlying31; have HR0_2 := AM hr0_2; have HC0_2 := AM hc0_2; clear hr0_2 hc0_2; have HR0_3 := AM hr0_3; have HC0_3 := AM hc0_3; clear hr0_3 hc0_3; have HB := AM (Below.refl w.heap.size w); have H : ((spec_l03Is.f a2 0 20).bind fun t103 => ((spec_l07Begin.f k a0_0 a0_1 l0_2 l0_3 a1 t103).bind fun bt104 => (if bt104.2.2.2.2.2 = 0 then (if 0 ≤ bt104.2.2.2.2.1 then (if bt104.2.2.2.2.1 < (bt104.2.2.2.1.length : Int) then ((spec_l01Min.f (l0_2.length : Int) (wrap64 ((wrap64 (((rd_T55 bt104.2.2.2.1 bt104.2.2.2.2.1).f1) - a0_1)) + a2))).bind fun t116 => ((some (([] : List ByteArray) : List ByteArray)).bind fun y117 => (if 0 ≤ (wrap64 (((rd_T55 bt104.2.2.2.1 bt104.2.2.2.2.1).f1) - a0_1)) then (if (wrap64 (((rd_T55 bt104.2.2.2.1 bt104.2.2.2.2.1).f1) - a0_1)) ≤ t116 then (if t116 ≤ (l0_2.length : Int) then (if y117.length + ((l0_2.take (t116 : Int).toNat).drop ((wrap64 (((rd_T55 bt104.2.2.2.1 bt104.2.2.2.2.1).f1) - a0_1)) : Int).toNat).length < 8796093022208 then (some (bt104.1, bt104.2.1, bt104.2.2.1, bt104.2.2.2.1, (y117 ++ ((l0_2.take (t116 : Int).toNat).drop ((wrap64 (((rd_T55 bt104.2.2.2.1 bt104.2.2.2.2.1).f1) - a0_1)) : Int).toNat)), (rd_T55 bt104.2.2.2.1 bt104.2.2.2.2.1).f1, 0)) else (none)) else (none)) else (none)) else (none)))) else (none)) else (none)) else ((spec_l07Ill.f bt104.2.2.2.2.2).bind fun bt124 => (some (bt124.1, bt124.2.1, bt124.2.2.1, bt124.2.2.2.1, bt124.2.2.2.2.1, bt124.2.2.2.2.2.1, bt124.2.2.2.2.2.2)))))) = some (r1, r2, r3, r4, r5, r6, r7) := h; clear h; replace H := oM H; obtain ⟨t103, A40, H⟩ := H; have A4 := AM A40; clear A40; replace H := oM H; obtain ⟨⟨t104, t105, t106, t109, t112, t113⟩, A50, H⟩ := H; try dsimp only at H
 have A5 := AM A50; clear A50; by_cases c6 : t113 = 0
 ·
  rw [if_pos c6] at H; have c6b0 : (t113 == 0) = true := beq_iff_eq.mpr c6; have c6b1 : (t113 != 0) = false := bne_eq_false_iff_eq.mpr c6; clear c6; by_cases c7 : 0 ≤ t112
  ·
   rw [if_pos c7] at H; have c7b0 := dY c7; clear c7; by_cases c8 : t112 < (t109.length : Int)
   ·
    rw [if_pos c8] at H; have c8b0 := dY c8; clear c8; replace H := oM H; obtain ⟨t116, A90, H⟩ := H; have A9 := AM A90; clear A90; obtain ⟨y117, hy117⟩ : ∃ y_ : List ByteArray, y_ = (([] : List ByteArray)) := ⟨_, rfl⟩; replace H : (if 0 ≤ (wrap64 (((rd_T55 t109 t112).f1) - a0_1)) then (if (wrap64 (((rd_T55 t109 t112).f1) - a0_1)) ≤ t116 then (if t116 ≤ (l0_2.length : Int) then (if y117.length + ((l0_2.take (t116 : Int).toNat).drop ((wrap64 (((rd_T55 t109 t112).f1) - a0_1)) : Int).toNat).length < 8796093022208 then (some (t104, t105, t106, t109, (y117 ++ ((l0_2.take (t116 : Int).toNat).drop ((wrap64 (((rd_T55 t109 t112).f1) - a0_1)) : Int).toNat)), (rd_T55 t109 t112).f1, 0)) else (none)) else (none)) else (none)) else (none)) = some (r1, r2, r3, r4, r5, r6, r7) := hS hy117 H
    have Ny117 := AM hy117; clear hy117; obtain ⟨ji10, hji10⟩ : ∃ j_ : Int, (wrap64 (((rd_T55 t109 t112).f1) - a0_1)) = j_ := ⟨_, rfl⟩; replace H : (if 0 ≤ (ji10) then (if (ji10) ≤ t116 then (if t116 ≤ (l0_2.length : Int) then (if y117.length + ((l0_2.take (t116 : Int).toNat).drop ((ji10) : Int).toNat).length < 8796093022208 then (some (t104, t105, t106, t109, (y117 ++ ((l0_2.take (t116 : Int).toNat).drop ((ji10) : Int).toNat)), (rd_T55 t109 t112).f1, 0)) else (none)) else (none)) else (none)) else (none)) = some (r1, r2, r3, r4, r5, r6, r7) := by first | (rw [hji10] at H; exact H) | (simp only [hji10] at H ⊢; exact H)
    (try rw [hji10] at A4); (try rw [hji10] at A5); (try rw [hji10] at A9); have hji10w : (IntKind.i64.wrap (((rd_T55 t109 t112).f1) - a0_1)) = ji10 := (i64_w _).trans hji10; by_cases c11 : 0 ≤ (ji10)
    ·
     rw [if_pos c11] at H; have c11b0 := eq_true c11; have c11b1 := dY c11; clear c11; by_cases c12 : (ji10) ≤ t116
     ·
      rw [if_pos c12] at H; have c12b0 := eq_true c12; have c12b1 := dY c12; clear c12; by_cases c13 : t116 ≤ (l0_2.length : Int)
      ·
       rw [if_pos c13] at H; have c13b0 := eq_true c13; have c13b1 := dY c13; clear c13; by_cases c14 : y117.length + ((l0_2.take (t116 : Int).toNat).drop ((ji10) : Int).toNat).length < 8796093022208
       ·
        rw [if_pos c14] at H; have LMc14 := AM c14; clear c14; obtain ⟨y121, hy121⟩ : ∃ y_ : List ByteArray, y_ = (y117 ++ ((l0_2.take (t116 : Int).toNat).drop ((ji10) : Int).toNat)) := ⟨_, rfl⟩; replace H : (some (t104, t105, t106, t109, y121, (rd_T55 t109 t112).f1, 0)) = some (r1, r2, r3, r4, r5, r6, r7) := hS hy121 H
        have Ny121 := AM hy121; clear hy121; simp only [Option.some.injEq, Prod.mk.injEq] at H
        obtain ⟨rfl, rfl, rfl, rfl, rfl, rfl, rfl⟩ := H; go_enter Try.func9, Try.ntmps9
        try go_wp2_with (first | (refine bE (N := 3) (cs := #[.string a0_0, .int .i64 a0_1, .slice A0_2 l0_2.length c0_2, .slice A0_3 l0_3.length c0_3]) (t := 29) ?_; intro gb101 hg w15 hbox hb; have GW101 := gY hg HB; have GE101 := GW101; have BK101 := AM (hbox); replace HB := bY HB hb; clear hb hbox hg) | (refine bE (N := 6) (cs := zz0) (t := 31) ?_; intro gb102 hg w16 hbox hb; have GW102 := gY hg HB; have GE102 := GW102; have BK102 := AM (hbox); have NB101_102 := lY hg BK101; have NB102_101 := sY NB101_102; replace BK101 := nY BK101 hb; replace HB := bY HB hb; clear hb hbox hg))
        replace BK101 := kDY BK101; replace BK102 := kDY BK102; replace HB := bDY HB; refine start_ (n := 13) (S := fun w' => w'.cell? ⟨gb101, 0, none⟩ = some (.string a0_0) ∧ w'.cell? ⟨gb101, 1, none⟩ = some (.int .i64 a0_1) ∧ w'.cell? ⟨gb101, 2, none⟩ = some (.slice A0_2 l0_2.length c0_2) ∧ w'.cell? ⟨gb101, 3, none⟩ = some (.slice A0_3 l0_3.length c0_3)) (ds := []) (upTo 0 13) (by kernel_rfl) rfl rfl (q4 BK101.out) (fun hHeld => ?_); refine with_tabW spec_TopicFetch.tab1 spec_TopicFetch.bits1 (fun HT_ HW_ => ?_); generalize w16.drew = w17 at BK101 BK102 HB hHeld ⊢; refine pF2 1 15 spec_TopicFetch.b0 ?_; refine pF2 2 16 spec_TopicFetch.b1 ?_; refine pT2 0 14 (upTo 3 13) ?_ hHeld; refine join_ (σ := Value × Value × Nat) 3 (upTo 10 13) (fun s_ => [(17, .bool t103), (18, .tuple #[.agg #[.string t104, .int .i64 t105, s_.1, s_.2.1], .int .i64 t112, .int .i64 t113]), (7, .pointer (some ⟨s_.2.2, 0, none⟩)), (13, .tuple #[.agg #[.string t104, .int .i64 t105, s_.1, s_.2.1], .int .i64 t112, .int .i64 t113]), (19, .agg #[.string t104, .int .i64 t105, s_.1, s_.2.1]), (20, .int .i64 t112), (21, .int .i64 t113)]) (fun s_ w' => (w'.cell? ⟨gb101, 0, none⟩ = some (.string a0_0) ∧ w'.cell? ⟨gb101, 1, none⟩ = some (.int .i64 a0_1) ∧ w'.cell? ⟨gb101, 2, none⟩ = some (.slice A0_2 l0_2.length c0_2) ∧ w'.cell? ⟨gb101, 3, none⟩ = some (.slice A0_3 l0_3.length c0_3)) ∧ (Kd.R Kd.string 9 w' w.heap.size (fun _ => True) s_.1 t106) ∧ (Kd.R k55 55 w' w.heap.size (fun _ => True) s_.2.1 t109) ∧ (w'.heap[gb101]? = some (.cells #[.string a0_0, .int .i64 a0_1, .slice A0_2 l0_2.length c0_2, .slice A0_3 l0_3.length c0_3] 29 (0, 0))) ∧ (w'.heap[gb102]? = some (.cells #[.string (⟨#[]⟩ : ByteArray), .int .i64 0, .slice none 0 0, .slice none 0 0, .slice none 0 0, .int .i64 0, .int .i64 0] 31 (0, 0))) ∧ (w'.heap[s_.2.2]? = some (.cells #[.string (⟨#[]⟩ : ByteArray), .int .i64 0, .slice none 0 0, .slice none 0 0] 29 (0, 0))) ∧ (w.heap.size ≤ s_.2.2) ∧ (w.heap.size ≤ s_.2.2) ∧ (gb101 ≠ s_.2.2) ∧ (s_.2.2 ≠ gb101) ∧ (gb102 ≠ s_.2.2) ∧ (s_.2.2 ≠ gb102) ∧ (Below w.heap.size w w')) ?_ ?_; rotate_left
        ·
         intro hCont; refine two_ (i := 3) (j := 9) (Ni := some 17) (Nj := some 7) (upTo 4 13) spec_TopicFetch.b2 rfl rfl rfl rfl (two_of HT_.out (by kernel_rfl)) (by decide) (by decide) (fun K hK => ?_) (fun K hK => ?_)
         ·
          skip
          refine gs Try.func33 #[.int .i64 a2, .int .i64 0, .int .i64 20] ?_; with_reducible refine (spec_l03Is.calls a2 0 20 t103 _ A4.out).mono ?_
          rintro e w' ⟨rfl, ⟨nd, rfl⟩⟩; refine ⟨_, rfl, ?_⟩; refine hK.out _ _ (q4 BK101.out) (fun hHeld => ?_); clear hK K; refine nS 17 ?_
          refine two_ (i := 4) (j := 9) (Ni := some 18) (Nj := some 7) (upTo 5 13) spec_TopicFetch.b3 rfl rfl rfl rfl (two_of HT_.out (by kernel_rfl)) (by decide) (by decide) (fun K hK => ?_) (fun K hK => ?_)
          ·
           skip
           refine gs Try.func32 #[.agg #[.string a0_0, .int .i64 a0_1, .slice A0_2 l0_2.length c0_2, .slice A0_3 l0_3.length c0_3], .string a1, .bool t103] ?_; with_reducible refine (spec_l07Begin.calls k a0_0 a0_1 _ _ l0_2 _ _ l0_3 a1 t103 t104 t105 t106 t109 t112 t113 _ ?s1 ?s2 ?s3 ?s4 A5.out).mono ?_
           (case s1 => repeat (first | exact (cB HR0_2.out (bX HB.out)) | (with_reducible first | apply cA | apply cN | apply cD)))
           (case s2 => exact HC0_2.out)
           (case s3 => repeat (first | exact (cB HR0_3.out (bX HB.out)) | (with_reducible first | apply cA | apply cN | apply cD)))
           (case s4 => exact HC0_3.out)
           rintro e w18 ⟨B2_, d2_, B3_, d3_, rfl, hz_, hb⟩; obtain ⟨ho0, ho1⟩ := hz_ (beq_iff_eq.mp c6b0); clear hz_; generalize hgv_ : (Value.slice B2_ t106.length d2_) = v107 at ho0 ⊢; generalize hgw_ : (Value.slice B3_ t109.length d3_) = v110 at ho1 ⊢; clear hgv_ hgw_; refine ⟨_, rfl, ?_⟩; have HO108 := AM (Kd.R_lower ho0 (bZ (bX HB.out))); have HO111 := AM (Kd.R_lower ho1 (bZ (bX HB.out))); replace BK101 := nY BK101 hb; replace BK102 := nY BK102 hb; replace HB := bY HB hb; (try clear ho0); (try clear ho1); refine hK.out _ _ (q4 BK101.out) (fun hHeld => ?_); clear hK K; refine nS 18 ?_
           refine pF 5 6 13 13 ?_; refine pF 6 7 13 19 ?_; refine pF 7 8 13 20 ?_; refine pF 8 9 13 21 ?_; refine oU 9 7 (upTo 10 13) HT_.out (fun K hK => ?_); refine box_step ?hg (N := 7) ?hd (cs := zz1) (t := 29) ?hr ?_; (case hd => rfl); (case hg => rfl); (case hr => first | (go_simp; done) | (go_simp; rfl)); intro gb114 hg w19 hbox hb; have BK114 := AM (hbox); have GW114 := gY hg HB; have GE114 := gY hg HB; have NB101_114 := lY hg BK101; have NB114_101 := sY NB101_114; have NB102_114 := lY hg BK102; have NB114_102 := sY NB102_114; replace HO108 := rY HO108 hb; replace HO111 := rY HO111 hb; replace BK101 := nY BK101 hb; replace BK102 := nY BK102 hb; replace HB := bY HB hb; clear hb hbox hg; refine hK.out _ _ (q4 BK101.out) (fun hHeld => ?_); clear hK K; refine nS 7 ?_
           exact norm_ (by simp only [putAll, Act.put, List.setIfInBounds_toArray, List.set_cons_zero, List.set_cons_succ]) (hCont (v107, v110, gb114) _ ⟨hHeld, (rX HO108.out), (rX HO111.out), (kX BK101.out), (kX BK102.out), (kX BK114.out), GW114.out, GE114.out, NB101_114.out, NB114_101.out, NB102_114.out, NB114_102.out, (bX HB.out)⟩)
          skip
          refine box_step ?hg (N := 7) ?hd (cs := zz1) (t := 29) ?hr ?_; (case hd => rfl); (case hg => rfl); (case hr => first | (go_simp; done) | (go_simp; rfl)); intro gb114 hg w18 hbox hb; have BK114 := AM (hbox); have GW114 := gY hg HB; have GE114 := gY hg HB; have NB101_114 := lY hg BK101; have NB114_101 := sY NB101_114; have NB102_114 := lY hg BK102; have NB114_102 := sY NB102_114; replace BK101 := nY BK101 hb; replace BK102 := nY BK102 hb; replace HB := bY HB hb; clear hb hbox hg; refine hK.out _ _ (q4 BK101.out) (fun hHeld => ?_); clear hK K; refine nS 7 ?_
          refine one_ (i := 4) (N := some 18) spec_TopicFetch.b4 rfl rfl (one_of HT_.out (by kernel_rfl)) (by decide) (fun K hK => ?_); refine gs Try.func32 #[.agg #[.string a0_0, .int .i64 a0_1, .slice A0_2 l0_2.length c0_2, .slice A0_3 l0_3.length c0_3], .string a1, .bool t103] ?_; with_reducible refine (spec_l07Begin.calls k a0_0 a0_1 _ _ l0_2 _ _ l0_3 a1 t103 t104 t105 t106 t109 t112 t113 _ ?s1 ?s2 ?s3 ?s4 A5.out).mono ?_
          (case s1 => exact cY HR0_2 HB)
          (case s2 => exact HC0_2.out)
          (case s3 => exact cY HR0_3 HB)
          (case s4 => exact HC0_3.out)
          rintro e w19 ⟨B2_, d2_, B3_, d3_, rfl, hz_, hb⟩; obtain ⟨ho0, ho1⟩ := hz_ (beq_iff_eq.mp c6b0); clear hz_; generalize hgv_ : (Value.slice B2_ t106.length d2_) = v107 at ho0 ⊢; generalize hgw_ : (Value.slice B3_ t109.length d3_) = v110 at ho1 ⊢; clear hgv_ hgw_; refine ⟨_, rfl, ?_⟩; have HO108 := AM (Kd.R_lower ho0 (bZ (bX HB.out))); have HO111 := AM (Kd.R_lower ho1 (bZ (bX HB.out))); replace BK101 := nY BK101 hb; replace BK102 := nY BK102 hb; replace BK114 := nY BK114 hb; replace HB := bY HB hb; (try clear ho0); (try clear ho1); refine hK.out _ _ (q4 BK101.out) (fun hHeld => ?_); clear hK K; refine nS 18 ?_
          refine pF2 5 13 spec_TopicFetch.b5 ?_; refine pF2 6 19 spec_TopicFetch.b6 ?_; refine pF2 7 20 spec_TopicFetch.b7 ?_; refine pF2 8 21 (upTo 10 13) ?_; exact norm_ (by simp only [putAll, Act.put, List.setIfInBounds_toArray, List.set_cons_zero, List.set_cons_succ]) (hCont (v107, v110, gb114) _ ⟨hHeld, (rX HO108.out), (rX HO111.out), (kX BK101.out), (kX BK102.out), (kX BK114.out), GW114.out, GE114.out, NB101_114.out, NB114_101.out, NB102_114.out, NB114_102.out, (bX HB.out)⟩)
         skip
         refine box_step ?hg (N := 7) ?hd (cs := zz1) (t := 29) ?hr ?_; (case hd => rfl); (case hg => rfl); (case hr => first | (go_simp; done) | (go_simp; rfl)); intro gb114 hg w18 hbox hb; have BK114 := AM (hbox); have GW114 := gY hg HB; have GE114 := gY hg HB; have NB101_114 := lY hg BK101; have NB114_101 := sY NB101_114; have NB102_114 := lY hg BK102; have NB114_102 := sY NB102_114; replace BK101 := nY BK101 hb; replace BK102 := nY BK102 hb; replace HB := bY HB hb; clear hb hbox hg; refine hK.out _ _ (q4 BK101.out) (fun hHeld => ?_); clear hK K; refine nS 7 ?_
         refine one_ (i := 3) (N := some 17) spec_TopicFetch.b3 rfl rfl (one_of HT_.out (by kernel_rfl)) (by decide) (fun K hK => ?_); refine gs Try.func33 #[.int .i64 a2, .int .i64 0, .int .i64 20] ?_; with_reducible refine (spec_l03Is.calls a2 0 20 t103 _ A4.out).mono ?_
         rintro e w' ⟨rfl, ⟨nd, rfl⟩⟩; refine ⟨_, rfl, ?_⟩; refine hK.out _ _ (q4 BK101.out) (fun hHeld => ?_); clear hK K; refine nS 17 ?_
         refine one_ (i := 4) (N := some 18) spec_TopicFetch.b4 rfl rfl (one_of HT_.out (by kernel_rfl)) (by decide) (fun K hK => ?_); refine gs Try.func32 #[.agg #[.string a0_0, .int .i64 a0_1, .slice A0_2 l0_2.length c0_2, .slice A0_3 l0_3.length c0_3], .string a1, .bool t103] ?_; with_reducible refine (spec_l07Begin.calls k a0_0 a0_1 _ _ l0_2 _ _ l0_3 a1 t103 t104 t105 t106 t109 t112 t113 _ ?s1 ?s2 ?s3 ?s4 A5.out).mono ?_
         (case s1 => repeat (first | exact (cB HR0_2.out (bX HB.out)) | (with_reducible first | apply cA | apply cN | apply cD)))
         (case s2 => exact HC0_2.out)
         (case s3 => repeat (first | exact (cB HR0_3.out (bX HB.out)) | (with_reducible first | apply cA | apply cN | apply cD)))
         (case s4 => exact HC0_3.out)
         rintro e w19 ⟨B2_, d2_, B3_, d3_, rfl, hz_, hb⟩; obtain ⟨ho0, ho1⟩ := hz_ (beq_iff_eq.mp c6b0); clear hz_; generalize hgv_ : (Value.slice B2_ t106.length d2_) = v107 at ho0 ⊢; generalize hgw_ : (Value.slice B3_ t109.length d3_) = v110 at ho1 ⊢; clear hgv_ hgw_; refine ⟨_, rfl, ?_⟩; have HO108 := AM (Kd.R_lower ho0 (bZ (bX HB.out))); have HO111 := AM (Kd.R_lower ho1 (bZ (bX HB.out))); replace BK101 := nY BK101 hb; replace BK102 := nY BK102 hb; replace BK114 := nY BK114 hb; replace HB := bY HB hb; (try clear ho0); (try clear ho1); refine hK.out _ _ (q4 BK101.out) (fun hHeld => ?_); clear hK K; refine nS 18 ?_
         refine pF2 5 13 spec_TopicFetch.b5 ?_; refine pF2 6 19 spec_TopicFetch.b6 ?_; refine pF2 7 20 spec_TopicFetch.b7 ?_; refine pF2 8 21 (upTo 10 13) ?_; exact norm_ (by simp only [putAll, Act.put, List.setIfInBounds_toArray, List.set_cons_zero, List.set_cons_succ]) (hCont (v107, v110, gb114) _ ⟨hHeld, (rX HO108.out), (rX HO111.out), (kX BK101.out), (kX BK102.out), (kX BK114.out), GW114.out, GE114.out, NB101_114.out, NB114_101.out, NB102_114.out, NB114_102.out, (bX HB.out)⟩)
        rintro ⟨v107, v110, gb114⟩ w20 ⟨hS_, h0_, h1_, h2_, h3_, h4_, h5_, h6_, h7_, h8_, h9_, h10_, h11_⟩; have _ : Aside0 (Kd.R Kd.string 9 w20 w.heap.size (fun _ => True) v107 t106) := ⟨h0_⟩; have _ : Aside0 (Kd.R k55 55 w20 w.heap.size (fun _ => True) v110 t109) := ⟨h1_⟩; have _ : Aside0 (w20.heap[gb101]? = some (.cells #[.string a0_0, .int .i64 a0_1, .slice A0_2 l0_2.length c0_2, .slice A0_3 l0_3.length c0_3] 29 (0, 0))) := ⟨h2_⟩; have _ : Aside0 (w20.heap[gb102]? = some (.cells #[.string (⟨#[]⟩ : ByteArray), .int .i64 0, .slice none 0 0, .slice none 0 0, .slice none 0 0, .int .i64 0, .int .i64 0] 31 (0, 0))) := ⟨h3_⟩; have _ : Aside0 (w20.heap[gb114]? = some (.cells #[.string (⟨#[]⟩ : ByteArray), .int .i64 0, .slice none 0 0, .slice none 0 0] 29 (0, 0))) := ⟨h4_⟩; have _ : Aside0 (w.heap.size ≤ gb114) := ⟨h5_⟩; have _ : Aside0 (w.heap.size ≤ gb114) := ⟨h6_⟩; have _ : Aside0 (gb101 ≠ gb114) := ⟨h7_⟩; have _ : Aside0 (gb114 ≠ gb101) := ⟨h8_⟩; have _ : Aside0 (gb102 ≠ gb114) := ⟨h9_⟩; have _ : Aside0 (gb114 ≠ gb102) := ⟨h10_⟩; have _ : Aside0 (Below w.heap.size w w20) := ⟨h11_⟩; clear BK101 BK102 HB h0_ h1_ h2_ h3_ h4_ h5_ h6_ h7_ h8_ h9_ h10_ h11_; rename_i HO108 HO111 BK101 BK102 BK114 GW114 GE114 NB101_114 NB114_101 NB102_114 NB114_102 HB; have hHeld : w20.cell? ⟨gb101, 0, none⟩ = some (.string a0_0) ∧ w20.cell? ⟨gb101, 1, none⟩ = some (.int .i64 a0_1) ∧ w20.cell? ⟨gb101, 2, none⟩ = some (.slice A0_2 l0_2.length c0_2) ∧ w20.cell? ⟨gb101, 3, none⟩ = some (.slice A0_3 l0_3.length c0_3) := hS_; obtain ⟨Ao23, co23, eo23⟩ := Kd.R_slice HO108.out
        (first | subst eo23 | (injection eo23 with f1_ f2_ f3_; have f4_ := f1_.symm; have f5_ := f3_.symm; clear f1_ f2_ f3_; subst f4_; subst f5_))
        obtain ⟨Ao25, co25, eo25⟩ := Kd.R_slice HO111.out
        (first | subst eo25 | (injection eo25 with f1_ f2_ f3_; have f4_ := f1_.symm; have f5_ := f3_.symm; clear f1_ f2_ f3_; subst f4_; subst f5_))
        refine norm_ (a' := ?_) ?_ ?_; rotate_left
        ·
         simp only [putAll, Act.put, List.setIfInBounds_toArray, List.set_cons_zero, List.set_cons_succ]
         rfl
        refine one_ (i := 10) (N := none) (upTo 11 13) rfl rfl (one_of HT_.out (by kernel_rfl)) (by decide) (fun K hK => ?_); have hs21 := q4 BK114.out; have hfs21 := fZ BK114.out; have hns21_0 := nP NB101_114; have hns21_1 := nP NB102_114; refine skip_ (w1 := ?_) (by rfl) rfl ?_ ?_; rotate_left
        ·
         go_simp
         rfl
        refine hK.out _ _ ⟨(cT4 NB101_114 hHeld.1), (cT4 NB101_114 hHeld.2.1), (cT4 NB101_114 hHeld.2.2.1), (cT4 NB101_114 hHeld.2.2.2)⟩ (fun hHeld => ?_); clear hK K; refine pF 11 12 13 8 ?_; refine pF 12 13 13 9 ?_; refine done_ (done_of HT_.out (by kernel_rfl)) ?_; have hnb27 := nP NB114_101; have hnb28 := nP NB114_102; have hcz29 := q4 BK114.out; have hfz29 := fZ BK114.out; obtain ⟨p115, q115, ad115, e115, hx115_0, hx115_1⟩ := pQ (at_T55 (Kd.R_reads' HO111.out).2.2 t112); cases e115; have hn115_0 : ad115.block ≠ gb114 := Kd.own_blk (Kd.R_ne HO111.out BK114.out (by decide)); have hn115_1 : ad115.block ≠ gb114 := Kd.own_blk (Kd.R_ne HO111.out BK114.out (by decide)); have hn115_2 : ad115.block ≠ gb114 := Kd.own_blk (Kd.R_ne HO111.out BK114.out (by decide)); have hn115_3 : ad115.block ≠ gb114 := Kd.own_blk (Kd.R_ne HO111.out BK114.out (by decide)); replace hx115_0 := (cell_far (p := ⟨gb114, 0, none⟩) (by first | (rw [add_block]; exact hn115_0) | (show (Addr.add _ _).block ≠ _; rw [add_block]; exact hn115_0) | exact hn115_0) (.string t104)).trans hx115_0; replace hx115_1 := (cell_far (p := ⟨gb114, 0, none⟩) (by first | (rw [add_block]; exact hn115_0) | (show (Addr.add _ _).block ≠ _; rw [add_block]; exact hn115_0) | exact hn115_0) (.string t104)).trans hx115_1; replace hx115_0 := (cell_far (p := ⟨gb114, 1, none⟩) (by first | (rw [add_block]; exact hn115_1) | (show (Addr.add _ _).block ≠ _; rw [add_block]; exact hn115_1) | exact hn115_1) (.int .i64 t105)).trans hx115_0; replace hx115_1 := (cell_far (p := ⟨gb114, 1, none⟩) (by first | (rw [add_block]; exact hn115_1) | (show (Addr.add _ _).block ≠ _; rw [add_block]; exact hn115_1) | exact hn115_1) (.int .i64 t105)).trans hx115_1; replace hx115_0 := (cell_far (p := ⟨gb114, 2, none⟩) (by first | (rw [add_block]; exact hn115_2) | (show (Addr.add _ _).block ≠ _; rw [add_block]; exact hn115_2) | exact hn115_2) (.slice Ao23 t106.length co23)).trans hx115_0; replace hx115_1 := (cell_far (p := ⟨gb114, 2, none⟩) (by first | (rw [add_block]; exact hn115_2) | (show (Addr.add _ _).block ≠ _; rw [add_block]; exact hn115_2) | exact hn115_2) (.slice Ao23 t106.length co23)).trans hx115_1; replace hx115_0 := (cell_far (p := ⟨gb114, 3, none⟩) (by first | (rw [add_block]; exact hn115_3) | (show (Addr.add _ _).block ≠ _; rw [add_block]; exact hn115_3) | exact hn115_3) (.slice (some ad115) t109.length co25)).trans hx115_0; replace hx115_1 := (cell_far (p := ⟨gb114, 3, none⟩) (by first | (rw [add_block]; exact hn115_3) | (show (Addr.add _ _).block ≠ _; rw [add_block]; exact hn115_3) | exact hn115_3) (.slice (some ad115) t109.length co25)).trans hx115_1; clear hn115_0; clear hn115_1; clear hn115_2; clear hn115_3; have hnb30 := nP NB101_102; have hcz31 := q4 BK101.out; have hfz31 := fZ BK101.out; try go_wp2_with (first | ((with_reducible refine gate_callee (f := 35) rfl ?_); refine goesL_ (some 42) rfl rfl Try.func35 (by kernel_rfl) rfl #[.int .i64 (l0_2.length : Int), .int .i64 (wrap64 ((ji10) + a2))] rfl (by (try simp only [mA, mB, mC]); first | done | (simp only [hji10]; rfl) | rfl | (simp only [mD, mE]; rfl)) ?_; (with_reducible refine (spec_l01Min.calls _ _ _ _ A9.out).mono ?_); rintro e w' ⟨rfl, ⟨nd, rfl⟩⟩; refine ⟨_, rfl, ?_⟩))
        generalize hW_ : ((((w20.setCell ⟨gb114, 0, none⟩ (.string t104)).setCell ⟨gb114, 1, none⟩ (.int .i64 t105)).setCell ⟨gb114, 2, none⟩ (.slice Ao23 t106.length co23)).setCell ⟨gb114, 3, none⟩ (.slice (some ad115) t109.length co25)) = w32; have n0_ := rV4 hW_ HO108 BK114 (fun _ => True) (fun _ hk => trivial)
        have n1_ := rV4 hW_ HO111 BK114 (fun _ => True) (fun _ hk => trivial)
        have n2_ := kW hW_ BK101 (by intro h_; (iterate 4 refine kF NB101_114.out ?_); exact kX h_)
        have n3_ := kW hW_ BK102 (by intro h_; (iterate 4 refine kF NB102_114.out ?_); exact kX h_)
        have n4_ := pW4 hW_ BK114
        have n5_ := bW hW_ HB
        (try clear HO108); (try clear HO111); (try clear BK101); (try clear BK102); (try clear BK114); (try clear HB); clear hW_; have HO108 := n0_; have HO111 := n1_; have BK101 := n2_; have BK102 := n3_; have BK114 := n4_; have HB := n5_; clear n0_ n1_ n2_ n3_ n4_ n5_; (try (rw [drewN_self w32]; generalize hq_ : World.drewN w32 _ = w32; have _ : Aside0 (Kd.R Kd.string 9 w32 w.heap.size (fun _ => True) (.slice Ao23 t106.length co23) t106) := ⟨by rw [← hq_]; exact (rX HO108.out)⟩; have _ : Aside0 (Kd.R k55 55 w32 w.heap.size (fun _ => True) (.slice (some ad115) t109.length co25) t109) := ⟨by rw [← hq_]; exact (rX HO111.out)⟩; have _ : Aside0 (w32.heap[gb101]? = some (.cells #[.string a0_0, .int .i64 a0_1, .slice A0_2 l0_2.length c0_2, .slice A0_3 l0_3.length c0_3] 29 (0, 0))) := ⟨by rw [← hq_]; exact (kX BK101.out)⟩; have _ : Aside0 (w32.heap[gb102]? = some (.cells #[.string (⟨#[]⟩ : ByteArray), .int .i64 0, .slice none 0 0, .slice none 0 0, .slice none 0 0, .int .i64 0, .int .i64 0] 31 (0, 0))) := ⟨by rw [← hq_]; exact (kX BK102.out)⟩; have _ : Aside0 (w32.heap[gb114]? = some (.cells #[.string t104, .int .i64 t105, .slice Ao23 t106.length co23, .slice (some ad115) t109.length co25] 29 (0, 0))) := ⟨by rw [← hq_]; exact (kX BK114.out)⟩; have _ : Aside0 (Below w.heap.size w w32) := ⟨by rw [← hq_]; exact (bX HB.out)⟩; clear HO108 HO111 BK101 BK102 BK114 HB hq_; rename_i HO108 HO111 BK101 BK102 BK114 HB; have hczu101 := q4 BK101.out; have hfzu101 := fZ BK101.out; have hczu102 := q7 BK102.out; have hfzu102 := fZ BK102.out; have hczu114 := q4 BK114.out; have hfzu114 := fZ BK114.out)); replace HO108 := rDY HO108; replace HO111 := rDY HO111; replace BK101 := kDY BK101; replace BK102 := kDY BK102; replace BK114 := kDY BK114; replace HB := bDY HB; obtain ⟨i034, hi034, _, hsz34, _⟩ := info_parts info9; obtain ⟨A34, hcut34, hA34, hC34⟩ := print_mid_of (P := Try.prog) Value.string (⟨#[]⟩ : ByteArray) 22 9 .i64 .i64 Try.underlying22 hi034 hsz34 A0_2 c0_2 l0_2 (ji10) t116 (oD ‹_›) (by first | omega | exact oD ‹_›) (oD ‹_›) HC0_2.out; have HR120 := AM (Kd.C_of_reads (h1 := fun _ => rfl) (hA34 _ (Kd.reads_of_C HR0_2.out))); have HC120 := AM hC34; clear hA34 hC34 hi034 hsz34; refine start_ (n := 11) (S := fun w' => w'.cell? ⟨gb114, 0, none⟩ = some (.string t104) ∧ w'.cell? ⟨gb114, 1, none⟩ = some (.int .i64 t105) ∧ w'.cell? ⟨gb114, 2, none⟩ = some (.slice Ao23 t106.length co23) ∧ w'.cell? ⟨gb114, 3, none⟩ = some (.slice (some ad115) t109.length co25) ∧ w'.cell? ⟨gb101, 0, none⟩ = some (.string a0_0) ∧ w'.cell? ⟨gb101, 1, none⟩ = some (.int .i64 a0_1) ∧ w'.cell? ⟨gb101, 2, none⟩ = some (.slice A0_2 l0_2.length c0_2) ∧ w'.cell? ⟨gb101, 3, none⟩ = some (.slice A0_3 l0_3.length c0_3)) (ds := []) (upTo 0 11) (by kernel_rfl) rfl rfl ⟨hC BK114.out 0, hC BK114.out 1, hC BK114.out 2, hC BK114.out 3, hC BK101.out 0, hC BK101.out 1, hC BK101.out 2, hC BK101.out 3⟩ (fun hHeld => ?_); refine with_tabW spec_TopicFetch.tab7 spec_TopicFetch.bits7 (fun HT_ HW_ => ?_); generalize w32.drew = w33 at HO108 HO111 BK101 BK102 BK114 HB HR120 hHeld ⊢; refine pF2 1 44 spec_TopicFetch.b8 ?_; refine pF2 3 46 spec_TopicFetch.b9 ?_; refine pF2 5 48 spec_TopicFetch.b10 ?_; refine pF2 6 49 spec_TopicFetch.b11 ?_; refine pT2 0 43 spec_TopicFetch.b12 ?_ hHeld; refine pT2 4 47 spec_TopicFetch.b13 ?_ hHeld; refine pF2 7 50 spec_TopicFetch.b14 ?_; refine oU 2 45 (upTo 8 11) HT_.out (fun K hK => ?_); refine Kd.R_lit_step Kd.string _ 9 ?hg (N := 45) ?hd (xs := ([] : List ByteArray)) (inner := []) (ok := fun _ => True) (okp := fun _ => True) ?hr ?hp (fun _ hk => hk) trivial (Below.refl _ _) (Nat.le_refl _) (by simp) ?_; (case hd => rfl); (case hg => rfl); (case hr => first | (go_simp; done) | (go_simp; rfl)); (case hp => exact (Reps.none _ _)); intro v118 w35 ho36 hb hg_ hnew_; clear hg_ hnew_
        (first | rw [← Ny117.out] at ho36 | (simp only [Int.reduceToNat] at ho36; rw [← Ny117.out] at ho36))
        have HO119 := AM (Kd.R_lower (Kd.R_new' ho36 (Kd.R_lt (rX HO108.out))) (bZ (bX HB.out))); replace HO108 := eR HO108 ho36 hb; replace HO111 := rY HO111 hb; replace BK101 := nY BK101 hb; replace BK102 := nY BK102 hb; replace BK114 := nY BK114 hb; replace HB := bY HB hb; clear hb ho36; refine hK.out _ _ ⟨hC BK114.out 0, hC BK114.out 1, hC BK114.out 2, hC BK114.out 3, hC BK101.out 0, hC BK101.out 1, hC BK101.out 2, hC BK101.out 3⟩ (fun hHeld => ?_); clear hK K; refine nS 45 ?_
        refine oU 8 51 (upTo 9 11) HT_.out (fun K hK => ?_); refine Kd.R_append_rows_step Kd.string (w0 := w) w.heap.size (by rfl) (.tmp 45) (.tmp 50) 22 9 (.string ⟨#[]⟩) 16 rfl Try.underlying22 info9 rfl (by decide) (by omega) v118 y117 ((l0_2.take (t116 : Int).toNat).drop ((ji10) : Int).toNat) _ _ _ (fun k_ => some k_ ≠ (.slice Ao23 t106.length co23 : Value).ownBlock) (fun _ => False) rfl rfl ?aO ?aR (fun _ _ h => h) (fun _ h => h.elim) ?aF ?aB ?aS ?aL ?_
        (case aR => first | (rw [← show ((l0_2.take (t116 : Int).toNat).drop ((ji10) : Int).toNat).length = (t116.toNat - (ji10).toNat) from (by rw [mD, mE]; have h_ : (t116 : Int) ≤ (l0_2.length : Int) := oD ‹_›; omega)]; exact cY HR120 HB) | (exact cY HR120 HB))
        (case aB => exact (bX HB.out))
        (case aF => exact (fun k_ hk => Kd.fresh' (Kd.R_lt (rX HO108.out)) k_ hk))
        (case aO => exact (by (with_reducible repeat (first | apply rA | apply rN | apply rD)); exact Kd.R_mono HO119.out (fun _ hk => hk.2)))
        (case aS => exact (bZ (bX HB.out)))
        (case aL => have := LMc14.out; have hlx_ := (show ((l0_2.take (t116 : Int).toNat).drop ((ji10) : Int).toNat).length = (t116.toNat - (ji10).toNat) from (by rw [mD, mE]; have h_ : (t116 : Int) ≤ (l0_2.length : Int) := oD ‹_›; omega)); omega)
        intro v122 w37 ho hb hg hat; rw [← Ny121.out] at ho; have _ := AM (gR BK101.out hg (Kd.R_ne HO119.out BK101.out (by decide))); have _ := AM (gR BK102.out hg (Kd.R_ne HO119.out BK102.out (by decide))); have _ := AM (Kd.R_after (ok := (fun _ => True)) (rX HO108.out) hg hat); have _ := AM (Kd.R_over' (rX HO111.out) (Kd.R_typed (rX HO119.out)) (by decide) hg); have _ := AM (gR BK114.out hg (Kd.R_ne HO119.out BK114.out (by decide))); have _ := AM (hb); have _ := AM (ho); clear BK101 BK102 HO108 HO111 BK114 HB HO119; rename_i BK101 BK102 HO108 HO111 BK114 HB HO123; clear ho hb hg hat; obtain ⟨Ao38, co38, eo38⟩ := Kd.R_slice HO123.out
        (first | subst eo38 | (injection eo38 with f1_ f2_ f3_; have f4_ := f1_.symm; have f5_ := f3_.symm; clear f1_ f2_ f3_; subst f4_; subst f5_))
        refine hK.out _ _ ⟨hC BK114.out 0, hC BK114.out 1, hC BK114.out 2, hC BK114.out 3, hC BK101.out 0, hC BK101.out 1, hC BK101.out 2, hC BK101.out 3⟩ (fun hHeld => ?_); clear hK K; refine nS 51 ?_
        refine pF 9 10 11 52 ?_; refine one_ (i := 10) (N := none) (upTo 11 11) rfl rfl (one_of HT_.out (by kernel_rfl)) (by decide) (fun K hK => ?_); have hs39 := q7 BK102.out; have hfs39 := fZ BK102.out; have hns39_0 := nP NB101_102; have hns39_2 := nP NB114_102; refine skip_ (w1 := ?_) (by rfl) rfl ?_ ?_; rotate_left
        ·
         go_simp
         rfl
        refine hK.out _ _ ⟨(cT7 NB114_102 hHeld.1), (cT7 NB114_102 hHeld.2.1), (cT7 NB114_102 hHeld.2.2.1), (cT7 NB114_102 hHeld.2.2.2.1), (cT7 NB101_102 hHeld.2.2.2.2.1), (cT7 NB101_102 hHeld.2.2.2.2.2.1), (cT7 NB101_102 hHeld.2.2.2.2.2.2.1), (cT7 NB101_102 hHeld.2.2.2.2.2.2.2)⟩ (fun hHeld => ?_); clear hK K; refine done_ (done_of HT_.out (by kernel_rfl)) ?_; try go_wp2
        refine bodyPost_ret (results_cell_row rfl _ _ gb102 31 #[.string t104, .int .i64 t105, .slice Ao23 t106.length co23, .slice (some ad115) t109.length co25, .slice Ao38 y121.length co38, .int .i64 ((rd_T55 t109 t112).f1), .int .i64 0] (0, 0) _ rfl (by refine pk7 zz0 ?_; exact kX BK102.out) Try.underlying31 rfl (by kernel_rfl)) rfl ?_; exact ⟨_, _, _, by first | rfl | (simp [errW_none, errW_some] <;> rfl) | (simp only [← hji10]; first | rfl | (simp [errW_none, errW_some] <;> rfl)) | (simp [*, errW_none, errW_some] <;> rfl), by (with_reducible repeat (first | apply rA | apply rN | apply rD)); exact Rf7 HO108.out BK102.out (by decide) (fun _ hk => hk.1.2), by (with_reducible repeat (first | apply rA | apply rN | apply rD)); exact Rf7 HO111.out BK102.out (by decide) (fun _ hk => trivial), by (with_reducible repeat (first | apply rA | apply rN | apply rD)); exact Rf7 HO123.out BK102.out (by decide) (fun _ hk => hk.1), bX HB.out⟩
       rw [if_neg c14] at H; exact absurd H (by simp)
      rw [if_neg c13] at H; exact absurd H (by simp)
     rw [if_neg c12] at H; exact absurd H (by simp)
    rw [if_neg c11] at H; exact absurd H (by simp)
   rw [if_neg c8] at H; exact absurd H (by simp)
  rw [if_neg c7] at H; exact absurd H (by simp)
 rw [if_neg c6] at H; have c6b0 : (t113 == 0) = false := beq_eq_false_iff_ne.mpr c6; have c6b1 : (t113 != 0) = true := bne_iff_ne.mpr c6; replace H := oM H; obtain ⟨⟨t124, t125, t126, t129, t132, t135, t136⟩, A460, H⟩ := H; try dsimp only at H
 have A46 := AM A460; clear A460; simp only [Option.some.injEq, Prod.mk.injEq] at H
 obtain ⟨rfl, rfl, rfl, rfl, rfl, rfl, rfl⟩ := H; go_enter Try.func9, Try.ntmps9
 try go_wp2_with (first | (refine bE (N := 3) (cs := #[.string a0_0, .int .i64 a0_1, .slice A0_2 l0_2.length c0_2, .slice A0_3 l0_3.length c0_3]) (t := 29) ?_; intro gb101 hg w47 hbox hb; have GW101 := gY hg HB; have GE101 := GW101; have BK101 := AM (hbox); replace HB := bY HB hb; clear hb hbox hg) | (refine bE (N := 6) (cs := zz0) (t := 31) ?_; intro gb102 hg w48 hbox hb; have GW102 := gY hg HB; have GE102 := GW102; have BK102 := AM (hbox); have NB101_102 := lY hg BK101; have NB102_101 := sY NB101_102; replace BK101 := nY BK101 hb; replace HB := bY HB hb; clear hb hbox hg))
 replace BK101 := kDY BK101; replace BK102 := kDY BK102; replace HB := bDY HB; refine start_ (n := 13) (S := fun w' => w'.cell? ⟨gb101, 0, none⟩ = some (.string a0_0) ∧ w'.cell? ⟨gb101, 1, none⟩ = some (.int .i64 a0_1) ∧ w'.cell? ⟨gb101, 2, none⟩ = some (.slice A0_2 l0_2.length c0_2) ∧ w'.cell? ⟨gb101, 3, none⟩ = some (.slice A0_3 l0_3.length c0_3)) (ds := []) (upTo 0 13) (by kernel_rfl) rfl rfl (q4 BK101.out) (fun hHeld => ?_); refine with_tabW spec_TopicFetch.tab1 spec_TopicFetch.bits1 (fun HT_ HW_ => ?_); generalize w48.drew = w49 at BK101 BK102 HB hHeld ⊢; refine pF2 1 15 spec_TopicFetch.b0 ?_; refine pF2 2 16 spec_TopicFetch.b1 ?_; refine pT2 0 14 (upTo 3 13) ?_ hHeld; refine join_ (σ := Value × Value × Nat) 3 (upTo 10 13) (fun s_ => [(17, .bool t103), (18, .tuple #[.agg #[.string t104, .int .i64 t105, s_.1, s_.2.1], .int .i64 t112, .int .i64 t113]), (7, .pointer (some ⟨s_.2.2, 0, none⟩)), (13, .tuple #[.agg #[.string t104, .int .i64 t105, s_.1, s_.2.1], .int .i64 t112, .int .i64 t113]), (19, .agg #[.string t104, .int .i64 t105, s_.1, s_.2.1]), (20, .int .i64 t112), (21, .int .i64 t113)]) (fun s_ w' => (w'.cell? ⟨gb101, 0, none⟩ = some (.string a0_0) ∧ w'.cell? ⟨gb101, 1, none⟩ = some (.int .i64 a0_1) ∧ w'.cell? ⟨gb101, 2, none⟩ = some (.slice A0_2 l0_2.length c0_2) ∧ w'.cell? ⟨gb101, 3, none⟩ = some (.slice A0_3 l0_3.length c0_3)) ∧ (SlF s_.1 t106.length) ∧ (SlF s_.2.1 t109.length) ∧ (w'.heap[gb101]? = some (.cells #[.string a0_0, .int .i64 a0_1, .slice A0_2 l0_2.length c0_2, .slice A0_3 l0_3.length c0_3] 29 (0, 0))) ∧ (w'.heap[gb102]? = some (.cells #[.string (⟨#[]⟩ : ByteArray), .int .i64 0, .slice none 0 0, .slice none 0 0, .slice none 0 0, .int .i64 0, .int .i64 0] 31 (0, 0))) ∧ (w'.heap[s_.2.2]? = some (.cells #[.string (⟨#[]⟩ : ByteArray), .int .i64 0, .slice none 0 0, .slice none 0 0] 29 (0, 0))) ∧ (w.heap.size ≤ s_.2.2) ∧ (w.heap.size ≤ s_.2.2) ∧ (gb101 ≠ s_.2.2) ∧ (s_.2.2 ≠ gb101) ∧ (gb102 ≠ s_.2.2) ∧ (s_.2.2 ≠ gb102) ∧ (Below w.heap.size w w')) ?_ ?_; rotate_left
 ·
  intro hCont; refine two_ (i := 3) (j := 9) (Ni := some 17) (Nj := some 7) (upTo 4 13) spec_TopicFetch.b2 rfl rfl rfl rfl (two_of HT_.out (by kernel_rfl)) (by decide) (by decide) (fun K hK => ?_) (fun K hK => ?_)
  ·
   skip
   refine gs Try.func33 #[.int .i64 a2, .int .i64 0, .int .i64 20] ?_; with_reducible refine (spec_l03Is.calls a2 0 20 t103 _ A4.out).mono ?_
   rintro e w' ⟨rfl, ⟨nd, rfl⟩⟩; refine ⟨_, rfl, ?_⟩; refine hK.out _ _ (q4 BK101.out) (fun hHeld => ?_); clear hK K; refine nS 17 ?_
   refine two_ (i := 4) (j := 9) (Ni := some 18) (Nj := some 7) (upTo 5 13) spec_TopicFetch.b3 rfl rfl rfl rfl (two_of HT_.out (by kernel_rfl)) (by decide) (by decide) (fun K hK => ?_) (fun K hK => ?_)
   ·
    skip
    refine gs Try.func32 #[.agg #[.string a0_0, .int .i64 a0_1, .slice A0_2 l0_2.length c0_2, .slice A0_3 l0_3.length c0_3], .string a1, .bool t103] ?_; with_reducible refine (spec_l07Begin.calls k a0_0 a0_1 _ _ l0_2 _ _ l0_3 a1 t103 t104 t105 t106 t109 t112 t113 _ ?s1 ?s2 ?s3 ?s4 A5.out).mono ?_
    (case s1 => repeat (first | exact (cB HR0_2.out (bX HB.out)) | (with_reducible first | apply cA | apply cN | apply cD)))
    (case s2 => exact HC0_2.out)
    (case s3 => repeat (first | exact (cB HR0_3.out (bX HB.out)) | (with_reducible first | apply cA | apply cN | apply cD)))
    (case s4 => exact HC0_3.out)
    rintro e w50 ⟨B2_, d2_, B3_, d3_, rfl, hz_, hb⟩; clear hz_; have ho0 : SlF (.slice B2_ t106.length d2_) t106.length := ⟨_, _, rfl⟩; have ho1 : SlF (.slice B3_ t109.length d3_) t109.length := ⟨_, _, rfl⟩; generalize hgv_ : (Value.slice B2_ t106.length d2_) = v107 at ho0 ⊢; generalize hgw_ : (Value.slice B3_ t109.length d3_) = v110 at ho1 ⊢; clear hgv_ hgw_; refine ⟨_, rfl, ?_⟩; have _ := AM ho0; have _ := AM ho1; have _ := nY BK101 hb; have _ := nY BK102 hb; have _ := bY HB hb; clear BK101 BK102 HB; rename_i HO108 HO111 BK101 BK102 HB; (try clear ho0); (try clear ho1); refine hK.out _ _ (q4 BK101.out) (fun hHeld => ?_); clear hK K; refine nS 18 ?_
    refine pF 5 6 13 13 ?_; refine pF 6 7 13 19 ?_; refine pF 7 8 13 20 ?_; refine pF 8 9 13 21 ?_; refine oU 9 7 (upTo 10 13) HT_.out (fun K hK => ?_); refine box_step ?hg (N := 7) ?hd (cs := zz1) (t := 29) ?hr ?_; (case hd => rfl); (case hg => rfl); (case hr => first | (go_simp; done) | (go_simp; rfl)); intro gb114 hg w51 hbox hb; have BK114 := AM (hbox); have GW114 := gY hg HB; have GE114 := gY hg HB; have NB101_114 := lY hg BK101; have NB114_101 := sY NB101_114; have NB102_114 := lY hg BK102; have NB114_102 := sY NB102_114; replace HO108 := AM (HO108.out); replace HO111 := AM (HO111.out); replace BK101 := nY BK101 hb; replace BK102 := nY BK102 hb; replace HB := bY HB hb; clear hb hbox hg; refine hK.out _ _ (q4 BK101.out) (fun hHeld => ?_); clear hK K; refine nS 7 ?_
    exact norm_ (by simp only [putAll, Act.put, List.setIfInBounds_toArray, List.set_cons_zero, List.set_cons_succ]) (hCont (v107, v110, gb114) _ ⟨hHeld, HO108.out, HO111.out, (kX BK101.out), (kX BK102.out), (kX BK114.out), GW114.out, GE114.out, NB101_114.out, NB114_101.out, NB102_114.out, NB114_102.out, (bX HB.out)⟩)
   skip
   refine box_step ?hg (N := 7) ?hd (cs := zz1) (t := 29) ?hr ?_; (case hd => rfl); (case hg => rfl); (case hr => first | (go_simp; done) | (go_simp; rfl)); intro gb114 hg w50 hbox hb; have BK114 := AM (hbox); have GW114 := gY hg HB; have GE114 := gY hg HB; have NB101_114 := lY hg BK101; have NB114_101 := sY NB101_114; have NB102_114 := lY hg BK102; have NB114_102 := sY NB102_114; replace BK101 := nY BK101 hb; replace BK102 := nY BK102 hb; replace HB := bY HB hb; clear hb hbox hg; refine hK.out _ _ (q4 BK101.out) (fun hHeld => ?_); clear hK K; refine nS 7 ?_
   refine one_ (i := 4) (N := some 18) spec_TopicFetch.b4 rfl rfl (one_of HT_.out (by kernel_rfl)) (by decide) (fun K hK => ?_); refine gs Try.func32 #[.agg #[.string a0_0, .int .i64 a0_1, .slice A0_2 l0_2.length c0_2, .slice A0_3 l0_3.length c0_3], .string a1, .bool t103] ?_; with_reducible refine (spec_l07Begin.calls k a0_0 a0_1 _ _ l0_2 _ _ l0_3 a1 t103 t104 t105 t106 t109 t112 t113 _ ?s1 ?s2 ?s3 ?s4 A5.out).mono ?_
   (case s1 => exact cY HR0_2 HB)
   (case s2 => exact HC0_2.out)
   (case s3 => exact cY HR0_3 HB)
   (case s4 => exact HC0_3.out)
   rintro e w51 ⟨B2_, d2_, B3_, d3_, rfl, hz_, hb⟩; clear hz_; have ho0 : SlF (.slice B2_ t106.length d2_) t106.length := ⟨_, _, rfl⟩; have ho1 : SlF (.slice B3_ t109.length d3_) t109.length := ⟨_, _, rfl⟩; generalize hgv_ : (Value.slice B2_ t106.length d2_) = v107 at ho0 ⊢; generalize hgw_ : (Value.slice B3_ t109.length d3_) = v110 at ho1 ⊢; clear hgv_ hgw_; refine ⟨_, rfl, ?_⟩; have _ := AM ho0; have _ := AM ho1; have _ := nY BK101 hb; have _ := nY BK102 hb; have _ := nY BK114 hb; have _ := bY HB hb; clear BK101 BK102 BK114 HB; rename_i HO108 HO111 BK101 BK102 BK114 HB; (try clear ho0); (try clear ho1); refine hK.out _ _ (q4 BK101.out) (fun hHeld => ?_); clear hK K; refine nS 18 ?_
   refine pF2 5 13 spec_TopicFetch.b5 ?_; refine pF2 6 19 spec_TopicFetch.b6 ?_; refine pF2 7 20 spec_TopicFetch.b7 ?_; refine pF2 8 21 (upTo 10 13) ?_; exact norm_ (by simp only [putAll, Act.put, List.setIfInBounds_toArray, List.set_cons_zero, List.set_cons_succ]) (hCont (v107, v110, gb114) _ ⟨hHeld, HO108.out, HO111.out, (kX BK101.out), (kX BK102.out), (kX BK114.out), GW114.out, GE114.out, NB101_114.out, NB114_101.out, NB102_114.out, NB114_102.out, (bX HB.out)⟩)
  skip
  refine box_step ?hg (N := 7) ?hd (cs := zz1) (t := 29) ?hr ?_; (case hd => rfl); (case hg => rfl); (case hr => first | (go_simp; done) | (go_simp; rfl)); intro gb114 hg w50 hbox hb; have BK114 := AM (hbox); have GW114 := gY hg HB; have GE114 := gY hg HB; have NB101_114 := lY hg BK101; have NB114_101 := sY NB101_114; have NB102_114 := lY hg BK102; have NB114_102 := sY NB102_114; replace BK101 := nY BK101 hb; replace BK102 := nY BK102 hb; replace HB := bY HB hb; clear hb hbox hg; refine hK.out _ _ (q4 BK101.out) (fun hHeld => ?_); clear hK K; refine nS 7 ?_
  refine one_ (i := 3) (N := some 17) spec_TopicFetch.b3 rfl rfl (one_of HT_.out (by kernel_rfl)) (by decide) (fun K hK => ?_); refine gs Try.func33 #[.int .i64 a2, .int .i64 0, .int .i64 20] ?_; with_reducible refine (spec_l03Is.calls a2 0 20 t103 _ A4.out).mono ?_
  rintro e w' ⟨rfl, ⟨nd, rfl⟩⟩; refine ⟨_, rfl, ?_⟩; refine hK.out _ _ (q4 BK101.out) (fun hHeld => ?_); clear hK K; refine nS 17 ?_
  refine one_ (i := 4) (N := some 18) spec_TopicFetch.b4 rfl rfl (one_of HT_.out (by kernel_rfl)) (by decide) (fun K hK => ?_); refine gs Try.func32 #[.agg #[.string a0_0, .int .i64 a0_1, .slice A0_2 l0_2.length c0_2, .slice A0_3 l0_3.length c0_3], .string a1, .bool t103] ?_; with_reducible refine (spec_l07Begin.calls k a0_0 a0_1 _ _ l0_2 _ _ l0_3 a1 t103 t104 t105 t106 t109 t112 t113 _ ?s1 ?s2 ?s3 ?s4 A5.out).mono ?_
  (case s1 => repeat (first | exact (cB HR0_2.out (bX HB.out)) | (with_reducible first | apply cA | apply cN | apply cD)))
  (case s2 => exact HC0_2.out)
  (case s3 => repeat (first | exact (cB HR0_3.out (bX HB.out)) | (with_reducible first | apply cA | apply cN | apply cD)))
  (case s4 => exact HC0_3.out)
  rintro e w51 ⟨B2_, d2_, B3_, d3_, rfl, hz_, hb⟩; clear hz_; have ho0 : SlF (.slice B2_ t106.length d2_) t106.length := ⟨_, _, rfl⟩; have ho1 : SlF (.slice B3_ t109.length d3_) t109.length := ⟨_, _, rfl⟩; generalize hgv_ : (Value.slice B2_ t106.length d2_) = v107 at ho0 ⊢; generalize hgw_ : (Value.slice B3_ t109.length d3_) = v110 at ho1 ⊢; clear hgv_ hgw_; refine ⟨_, rfl, ?_⟩; have _ := AM ho0; have _ := AM ho1; have _ := nY BK101 hb; have _ := nY BK102 hb; have _ := nY BK114 hb; have _ := bY HB hb; clear BK101 BK102 BK114 HB; rename_i HO108 HO111 BK101 BK102 BK114 HB; (try clear ho0); (try clear ho1); refine hK.out _ _ (q4 BK101.out) (fun hHeld => ?_); clear hK K; refine nS 18 ?_
  refine pF2 5 13 spec_TopicFetch.b5 ?_; refine pF2 6 19 spec_TopicFetch.b6 ?_; refine pF2 7 20 spec_TopicFetch.b7 ?_; refine pF2 8 21 (upTo 10 13) ?_; exact norm_ (by simp only [putAll, Act.put, List.setIfInBounds_toArray, List.set_cons_zero, List.set_cons_succ]) (hCont (v107, v110, gb114) _ ⟨hHeld, HO108.out, HO111.out, (kX BK101.out), (kX BK102.out), (kX BK114.out), GW114.out, GE114.out, NB101_114.out, NB114_101.out, NB102_114.out, NB114_102.out, (bX HB.out)⟩)
 rintro ⟨v107, v110, gb114⟩ w52 ⟨hS_, h0_, h1_, h2_, h3_, h4_, h5_, h6_, h7_, h8_, h9_, h10_, h11_⟩; have _ : Aside0 (SlF v107 t106.length) := ⟨h0_⟩; have _ : Aside0 (SlF v110 t109.length) := ⟨h1_⟩; have _ : Aside0 (w52.heap[gb101]? = some (.cells #[.string a0_0, .int .i64 a0_1, .slice A0_2 l0_2.length c0_2, .slice A0_3 l0_3.length c0_3] 29 (0, 0))) := ⟨h2_⟩; have _ : Aside0 (w52.heap[gb102]? = some (.cells #[.string (⟨#[]⟩ : ByteArray), .int .i64 0, .slice none 0 0, .slice none 0 0, .slice none 0 0, .int .i64 0, .int .i64 0] 31 (0, 0))) := ⟨h3_⟩; have _ : Aside0 (w52.heap[gb114]? = some (.cells #[.string (⟨#[]⟩ : ByteArray), .int .i64 0, .slice none 0 0, .slice none 0 0] 29 (0, 0))) := ⟨h4_⟩; have _ : Aside0 (w.heap.size ≤ gb114) := ⟨h5_⟩; have _ : Aside0 (w.heap.size ≤ gb114) := ⟨h6_⟩; have _ : Aside0 (gb101 ≠ gb114) := ⟨h7_⟩; have _ : Aside0 (gb114 ≠ gb101) := ⟨h8_⟩; have _ : Aside0 (gb102 ≠ gb114) := ⟨h9_⟩; have _ : Aside0 (gb114 ≠ gb102) := ⟨h10_⟩; have _ : Aside0 (Below w.heap.size w w52) := ⟨h11_⟩; clear BK101 BK102 HB h0_ h1_ h2_ h3_ h4_ h5_ h6_ h7_ h8_ h9_ h10_ h11_; rename_i HO108 HO111 BK101 BK102 BK114 GW114 GE114 NB101_114 NB114_101 NB102_114 NB114_102 HB; have hHeld : w52.cell? ⟨gb101, 0, none⟩ = some (.string a0_0) ∧ w52.cell? ⟨gb101, 1, none⟩ = some (.int .i64 a0_1) ∧ w52.cell? ⟨gb101, 2, none⟩ = some (.slice A0_2 l0_2.length c0_2) ∧ w52.cell? ⟨gb101, 3, none⟩ = some (.slice A0_3 l0_3.length c0_3) := hS_; obtain ⟨Ao55, co55, eo55⟩ := HO108.out
 (first | subst eo55 | (injection eo55 with f1_ f2_ f3_; have f4_ := f1_.symm; have f5_ := f3_.symm; clear f1_ f2_ f3_; subst f4_; subst f5_))
 obtain ⟨Ao57, co57, eo57⟩ := HO111.out
 (first | subst eo57 | (injection eo57 with f1_ f2_ f3_; have f4_ := f1_.symm; have f5_ := f3_.symm; clear f1_ f2_ f3_; subst f4_; subst f5_))
 refine norm_ (a' := ?_) ?_ ?_; rotate_left
 ·
  simp only [putAll, Act.put, List.setIfInBounds_toArray, List.set_cons_zero, List.set_cons_succ]
  rfl
 refine one_ (i := 10) (N := none) (upTo 11 13) rfl rfl (one_of HT_.out (by kernel_rfl)) (by decide) (fun K hK => ?_); have hs53 := q4 BK114.out; have hfs53 := fZ BK114.out; have hns53_0 := nP NB101_114; have hns53_1 := nP NB102_114; refine skip_ (w1 := ?_) (by rfl) rfl ?_ ?_; rotate_left
 ·
  go_simp
  rfl
 refine hK.out _ _ ⟨(cT4 NB101_114 hHeld.1), (cT4 NB101_114 hHeld.2.1), (cT4 NB101_114 hHeld.2.2.1), (cT4 NB101_114 hHeld.2.2.2)⟩ (fun hHeld => ?_); clear hK K; refine pF 11 12 13 8 ?_; refine pF 12 13 13 9 ?_; refine done_ (done_of HT_.out (by kernel_rfl)) ?_; try go_wp2_with (first | ((with_reducible refine gate_callee (f := 34) rfl ?_); refine gL (some 25) Try.func34 #[.int .i64 t113] ?_; (with_reducible refine (spec_l07Ill.calls _ _ _ _ _ _ _ _ _ A46.out).mono ?_); rintro e w59 ⟨v127, v130, v133, rfl, ho0, ho1, ho2, hb⟩; refine ⟨_, rfl, ?_⟩; have _ := AM (HO108.out); have _ := AM (HO111.out); have _ := AM (Kd.R_lower (Kd.R_mono (ok' := fun k_ => _ ∧ True) ho0 (fun _ h_ => ⟨h_, trivial⟩)) (bZ (bX HB.out))); have _ := AM (Kd.R_lower (Kd.R_mono (ok' := fun k_ => _ ∧ True) ho1 (fun _ h_ => ⟨h_, trivial⟩)) (bZ (bX HB.out))); have _ := AM (Kd.R_lower (Kd.R_mono (ok' := fun k_ => _ ∧ True) ho2 (fun _ h_ => ⟨h_, trivial⟩)) (bZ (bX HB.out))); have _ := AM (blk_below (g := gb101) (o := .cells #[.string a0_0, .int .i64 a0_1, .slice A0_2 l0_2.length c0_2, .slice A0_3 l0_3.length c0_3] 29 (0, 0)) (by (iterate 4 refine kF NB101_114.out ?_); exact kX BK101.out) hb); have _ := AM (blk_below (g := gb102) (o := .cells #[.string (⟨#[]⟩ : ByteArray), .int .i64 0, .slice none 0 0, .slice none 0 0, .slice none 0 0, .int .i64 0, .int .i64 0] 31 (0, 0)) (by (iterate 4 refine kF NB102_114.out ?_); exact kX BK102.out) hb); have _ := AM (blk_below (g := gb114) (o := .cells #[.string t104, .int .i64 t105, .slice Ao55 t106.length co55, .slice Ao57 t109.length co57] 29 (0, 0)) (by refine pk4 zz1 ?_; exact kX BK114.out) hb); have _ := bY HB hb; clear HO108 HO111 BK101 BK102 BK114 HB; rename_i HO108 HO111 HO128 HO131 HO134 BK101 BK102 BK114 HB; (try clear ho0); (try clear ho1); (try clear ho2); have hnb60 := nP NB102_101; have hnb61 := nP NB102_114; have hcz62 := q7 BK102.out; have hfz62 := fZ BK102.out; obtain ⟨Ao63, co63, eo63⟩ := Kd.R_slice HO128.out; subst eo63; obtain ⟨Ao64, co64, eo64⟩ := Kd.R_slice HO131.out; subst eo64; obtain ⟨Ao65, co65, eo65⟩ := Kd.R_slice HO134.out; subst eo65))
 refine bodyPost_ret (results_cell_row rfl _ _ gb102 31 #[.string t124, .int .i64 t125, .slice Ao63 t126.length co63, .slice Ao64 t129.length co64, .slice Ao65 t132.length co65, .int .i64 t135, .int .i64 t136] (0, 0) _ rfl (by refine pk7 zz0 ?_; exact kX BK102.out) Try.underlying31 rfl (by kernel_rfl)) rfl ?_; exact ⟨_, _, _, rE, by (with_reducible repeat (first | apply rA | apply rN | apply rD)); exact Rf7 HO128.out BK102.out (by decide) (fun _ hk => hk.1.1), by (with_reducible repeat (first | apply rA | apply rN | apply rD)); exact Rf7 HO131.out BK102.out (by decide) (fun _ hk => trivial), by (with_reducible repeat (first | apply rA | apply rN | apply rD)); exact Rf7 HO134.out BK102.out (by decide) (fun _ hk => hk.1.1), bX HB.out⟩

/-! ### impl_isName: function 39 -/

def impl_isName.l0 : Nat → ByteArray → Int → Int → Option (Bool)
  | 0, _, _, _ => none
  | k + 1, x0, x7, x8 => if x8 < x7 then (if 0 ≤ x8 then (if x8 < (x0.size : Int) then (if (bt x0 x8) ≥ 97 then (if ((bt x0 x8) ≤ 122) then (impl_isName.l0 k x0 x7 (wrap64 (x8 + 1))) else (if x8 = 0 then (some false) else (if (bt x0 x8) = 95 then (impl_isName.l0 k x0 x7 (wrap64 (x8 + 1))) else (if (bt x0 x8) < 48 then (some false) else (if (bt x0 x8) > 57 then (some false) else (impl_isName.l0 k x0 x7 (wrap64 (x8 + 1)))))))) else (if x8 = 0 then (some false) else (if (bt x0 x8) = 95 then (impl_isName.l0 k x0 x7 (wrap64 (x8 + 1))) else (if (bt x0 x8) < 48 then (some false) else (if (bt x0 x8) > 57 then (some false) else (impl_isName.l0 k x0 x7 (wrap64 (x8 + 1)))))))) else (none)) else (none)) else (if (x0.size : Int) ≥ 1 then (some (decide ((x0.size : Int) ≤ 20))) else (some false))
def impl_isName.f (k : Nat) (a0 : ByteArray) : Option (Bool) := impl_isName.l0 k a0 (a0.size : Int) 0
set_option maxHeartbeats 60000000 in
set_option maxRecDepth 100000 in
theorem impl_isName.calls (k : Nat) (a0 : ByteArray) (r : Bool) (w : World) (h : impl_isName.f k a0 = some r) :
    Calls Try.prog 39 #[.string a0] w fun e w' => e = .returned (.bool r) ∧ Drawn0 w w' := by
 have H : (impl_isName.l0 k a0 (a0.size : Int) 0) = some r := h; clear h; have H' := AM H; clear H; go_enter Try.func39, Try.ntmps39
 go_wp2
 go_loopg [8] k (fun kq v8 w' => ∃ (x8_1 : Int), v8 = .int .i64 x8_1 ∧ Aside0 (impl_isName.l0 kq a0 (a0.size : Int) x8_1 = some r) ∧ Aside0 (kq ≤ k) ∧ Drawn0 w w')
 case atStart => exact ⟨(0), rR, H', ⟨Nat.le_refl _⟩, drX⟩
 case round =>
  clear H'; obtain ⟨x8_1, rfl, HA, HK1, ⟨m1, rfl⟩⟩ := hrel
  cases gk with
  | zero => exact absurd HA.out (by simp [impl_isName.l0])
  | succ k1 =>
   have H := HA.out; clear HA; simp only [impl_isName.l0] at H
   by_cases c2 : x8_1 < (a0.size : Int)
   ·
    rw [if_pos c2] at H; have c2b0 := dY c2; clear c2; by_cases c3 : 0 ≤ x8_1
    ·
     rw [if_pos c3] at H; have c3b0 := dY c3; clear c3; by_cases c4 : x8_1 < (a0.size : Int)
     ·
      rw [if_pos c4] at H; have c4b0 := dY c4; clear c4; by_cases c6 : (bt a0 x8_1) ≥ 97
      ·
       rw [if_pos c6] at H; have c6b0 : decide (97 ≤ (bt a0 x8_1)) = true := dY c6; clear c6; by_cases c7 : ((bt a0 x8_1) ≤ 122)
       ·
        rw [if_pos c7] at H; have c7b0 : decide ((bt a0 x8_1) ≤ 122) = true := dY c7; clear c7; have H' := AM H; clear H; have p5 : 0 ≤ (x8_1 : Int) := oD ‹_›; have q5 : x8_1 < (a0.size : Int) := oD ‹_›; have hx5 := bt_at a0 x8_1; replace p5 := eq_true p5; replace q5 := eq_true q5; go_wp2
        go_roundg k1
        case measure => have := HK1.out; omega
        case rel => exact ⟨(wrap64 (x8_1 + 1)), rR, H', ⟨by have := HK1.out; omega⟩, drX⟩
       rw [if_neg c7] at H; have c7b0 : decide ((bt a0 x8_1) ≤ 122) = false := dN c7; clear c7; by_cases c8 : x8_1 = 0
       ·
        rw [if_pos c8] at H; have c8b0 : (x8_1 == 0) = true := beq_iff_eq.mpr c8; have c8b1 : (x8_1 != 0) = false := bne_eq_false_iff_eq.mpr c8; clear c8; obtain rfl := Option.some.inj H; have p5 : 0 ≤ (x8_1 : Int) := oD ‹_›; have q5 : x8_1 < (a0.size : Int) := oD ‹_›; have hx5 := bt_at a0 x8_1; replace p5 := eq_true p5; replace q5 := eq_true q5; go_wp2
        go_ret
        exact ⟨by first | rfl | (simp; done) | (simp [*]; done), drX⟩
       rw [if_neg c8] at H; have c8b0 : (x8_1 == 0) = false := beq_eq_false_iff_ne.mpr c8; have c8b1 : (x8_1 != 0) = true := bne_iff_ne.mpr c8; by_cases c9 : (bt a0 x8_1) = 95
       ·
        rw [if_pos c9] at H; have c9b0 : ((bt a0 x8_1) == 95) = true := beq_iff_eq.mpr c9; have c9b1 : ((bt a0 x8_1) != 95) = false := bne_eq_false_iff_eq.mpr c9; clear c9; have H' := AM H; clear H; have p5 : 0 ≤ (x8_1 : Int) := oD ‹_›; have q5 : x8_1 < (a0.size : Int) := oD ‹_›; have hx5 := bt_at a0 x8_1; replace p5 := eq_true p5; replace q5 := eq_true q5; go_wp2
        go_roundg k1
        case measure => have := HK1.out; omega
        case rel => exact ⟨(wrap64 (x8_1 + 1)), rR, H', ⟨by have := HK1.out; omega⟩, drX⟩
       rw [if_neg c9] at H; have c9b0 : ((bt a0 x8_1) == 95) = false := beq_eq_false_iff_ne.mpr c9; have c9b1 : ((bt a0 x8_1) != 95) = true := bne_iff_ne.mpr c9; by_cases c10 : (bt a0 x8_1) < 48
       ·
        rw [if_pos c10] at H; have c10b0 := dY c10; clear c10; obtain rfl := Option.some.inj H; have p5 : 0 ≤ (x8_1 : Int) := oD ‹_›; have q5 : x8_1 < (a0.size : Int) := oD ‹_›; have hx5 := bt_at a0 x8_1; replace p5 := eq_true p5; replace q5 := eq_true q5; go_wp2
        go_ret
        exact ⟨by first | rfl | (simp; done) | (simp [*]; done), drX⟩
       rw [if_neg c10] at H; have c10b0 := dN c10; clear c10; by_cases c11 : (bt a0 x8_1) > 57
       ·
        rw [if_pos c11] at H; have c11b0 : decide (57 < (bt a0 x8_1)) = true := dY c11; clear c11; obtain rfl := Option.some.inj H; have p5 : 0 ≤ (x8_1 : Int) := oD ‹_›; have q5 : x8_1 < (a0.size : Int) := oD ‹_›; have hx5 := bt_at a0 x8_1; replace p5 := eq_true p5; replace q5 := eq_true q5; go_wp2
        go_ret
        exact ⟨by first | rfl | (simp; done) | (simp [*]; done), drX⟩
       rw [if_neg c11] at H; have c11b0 : decide (57 < (bt a0 x8_1)) = false := dN c11; clear c11; have H' := AM H; clear H; have p5 : 0 ≤ (x8_1 : Int) := oD ‹_›; have q5 : x8_1 < (a0.size : Int) := oD ‹_›; have hx5 := bt_at a0 x8_1; replace p5 := eq_true p5; replace q5 := eq_true q5; go_wp2
       go_roundg k1
       case measure => have := HK1.out; omega
       case rel => exact ⟨(wrap64 (x8_1 + 1)), rR, H', ⟨by have := HK1.out; omega⟩, drX⟩
      rw [if_neg c6] at H; have c6b0 : decide (97 ≤ (bt a0 x8_1)) = false := dN c6; clear c6; by_cases c12 : x8_1 = 0
      ·
       rw [if_pos c12] at H; have c12b0 : (x8_1 == 0) = true := beq_iff_eq.mpr c12; have c12b1 : (x8_1 != 0) = false := bne_eq_false_iff_eq.mpr c12; clear c12; obtain rfl := Option.some.inj H; have p5 : 0 ≤ (x8_1 : Int) := oD ‹_›; have q5 : x8_1 < (a0.size : Int) := oD ‹_›; have hx5 := bt_at a0 x8_1; replace p5 := eq_true p5; replace q5 := eq_true q5; go_wp2
       go_ret
       exact ⟨by first | rfl | (simp; done) | (simp [*]; done), drX⟩
      rw [if_neg c12] at H; have c12b0 : (x8_1 == 0) = false := beq_eq_false_iff_ne.mpr c12; have c12b1 : (x8_1 != 0) = true := bne_iff_ne.mpr c12; by_cases c13 : (bt a0 x8_1) = 95
      ·
       rw [if_pos c13] at H; have c13b0 : ((bt a0 x8_1) == 95) = true := beq_iff_eq.mpr c13; have c13b1 : ((bt a0 x8_1) != 95) = false := bne_eq_false_iff_eq.mpr c13; clear c13; have H' := AM H; clear H; have p5 : 0 ≤ (x8_1 : Int) := oD ‹_›; have q5 : x8_1 < (a0.size : Int) := oD ‹_›; have hx5 := bt_at a0 x8_1; replace p5 := eq_true p5; replace q5 := eq_true q5; go_wp2
       go_roundg k1
       case measure => have := HK1.out; omega
       case rel => exact ⟨(wrap64 (x8_1 + 1)), rR, H', ⟨by have := HK1.out; omega⟩, drX⟩
      rw [if_neg c13] at H; have c13b0 : ((bt a0 x8_1) == 95) = false := beq_eq_false_iff_ne.mpr c13; have c13b1 : ((bt a0 x8_1) != 95) = true := bne_iff_ne.mpr c13; by_cases c14 : (bt a0 x8_1) < 48
      ·
       rw [if_pos c14] at H; have c14b0 := dY c14; clear c14; obtain rfl := Option.some.inj H; have p5 : 0 ≤ (x8_1 : Int) := oD ‹_›; have q5 : x8_1 < (a0.size : Int) := oD ‹_›; have hx5 := bt_at a0 x8_1; replace p5 := eq_true p5; replace q5 := eq_true q5; go_wp2
       go_ret
       exact ⟨by first | rfl | (simp; done) | (simp [*]; done), drX⟩
      rw [if_neg c14] at H; have c14b0 := dN c14; clear c14; by_cases c15 : (bt a0 x8_1) > 57
      ·
       rw [if_pos c15] at H; have c15b0 : decide (57 < (bt a0 x8_1)) = true := dY c15; clear c15; obtain rfl := Option.some.inj H; have p5 : 0 ≤ (x8_1 : Int) := oD ‹_›; have q5 : x8_1 < (a0.size : Int) := oD ‹_›; have hx5 := bt_at a0 x8_1; replace p5 := eq_true p5; replace q5 := eq_true q5; go_wp2
       go_ret
       exact ⟨by first | rfl | (simp; done) | (simp [*]; done), drX⟩
      rw [if_neg c15] at H; have c15b0 : decide (57 < (bt a0 x8_1)) = false := dN c15; clear c15; have H' := AM H; clear H; have p5 : 0 ≤ (x8_1 : Int) := oD ‹_›; have q5 : x8_1 < (a0.size : Int) := oD ‹_›; have hx5 := bt_at a0 x8_1; replace p5 := eq_true p5; replace q5 := eq_true q5; go_wp2
      go_roundg k1
      case measure => have := HK1.out; omega
      case rel => exact ⟨(wrap64 (x8_1 + 1)), rR, H', ⟨by have := HK1.out; omega⟩, drX⟩
     rw [if_neg c4] at H; exact absurd H (by simp)
    rw [if_neg c3] at H; exact absurd H (by simp)
   rw [if_neg c2] at H; have c2b0 := dN c2; clear c2; by_cases c16 : (a0.size : Int) ≥ 1
   ·
    rw [if_pos c16] at H; have c16b0 : decide (1 ≤ (a0.size : Int)) = true := dY c16; have c16b1 : decide (1 ≤ a0.size) = true := dY (by omega); clear c16; obtain rfl := Option.some.inj H; go_wp2
    go_ret
    exact ⟨by first | rfl | (simp; done) | (simp [*]; done), drX⟩
   rw [if_neg c16] at H; have c16b0 : decide (1 ≤ (a0.size : Int)) = false := dN c16; have c16b1 : decide (1 ≤ a0.size) = false := dN (by omega); clear c16; obtain rfl := Option.some.inj H; go_wp2
   go_ret
   exact ⟨by first | rfl | (simp; done) | (simp [*]; done), drX⟩

/-! ### impl_within: function 40 -/

def impl_within.f (a0 : Int) (a1 : Int) (a2 : Int) : Option (Bool) := if a0 ≥ a1 then (some (decide (a0 ≤ a2))) else (some false)
set_option maxHeartbeats 60000000 in
set_option maxRecDepth 100000 in
theorem impl_within.calls (a0 : Int) (a1 : Int) (a2 : Int) (r : Bool) (w : World) (h : impl_within.f a0 a1 a2 = some r) :
    Calls Try.prog 40 #[.int .i64 a0, .int .i64 a1, .int .i64 a2] w fun e w' => e = .returned (.bool r) ∧ Drawn0 w w' := by
 have H : (if a0 ≥ a1 then (some (decide (a0 ≤ a2))) else (some false)) = some r := h; clear h; by_cases c4 : a0 ≥ a1
 ·
  rw [if_pos c4] at H; have c4b0 : decide (a1 ≤ a0) = true := dY c4; clear c4; obtain rfl := Option.some.inj H; go_enter Try.func40, Try.ntmps40
  go_wp2
  go_ret
  exact ⟨by first | rfl | (simp; done) | (simp [*]; done), drX⟩
 rw [if_neg c4] at H; have c4b0 : decide (a1 ≤ a0) = false := dN c4; clear c4; obtain rfl := Option.some.inj H; go_enter Try.func40, Try.ntmps40
 go_wp2
 go_ret
 exact ⟨by first | rfl | (simp; done) | (simp [*]; done), drX⟩

/-! ### impl_size_string: function 73 (by hand) -/
def impl_size_string.f (l0 : List (ByteArray)) : Option Int := some (l0.length : Int)
theorem impl_size_string.calls (A0 : Option Addr) (c0 : Nat) (l0 : List (ByteArray)) (r : Int) (w : World) (h : impl_size_string.f l0 = some r) :
    Calls Try.prog 73 #[.slice A0 l0.length c0] w fun e w' => e = .returned (.int .i64 r) ∧ Drawn0 w w' := by
  obtain rfl := Option.some.inj h; go_enter Try.func73, Try.ntmps73
  go_wp2
  go_ret
  exact ⟨rfl, Drawn0.refl _⟩


/-! ### impl_Topic_end: function 60 (by hand) -/
def impl_Topic_end.f (s0 : ByteArray) (s1 : Int) (s2 : List ByteArray) (s3 : List (S55)) : Option Int := some (wrap64 (s1 + (s2.length : Int)))
theorem impl_Topic_end.calls (g : Nat) (s0 : ByteArray) (s1 : Int) (A2 : Option Addr) (c2 : Nat) (s2 : List ByteArray) (s3 : List (S55)) (r : Int) (w : World) (hc1 : w.cell? ⟨g,1,none⟩ = some (.int .i64 s1)) (hc2 : w.cell? ⟨g,2,none⟩ = some (.slice A2 s2.length c2)) (h : impl_Topic_end.f s0 s1 s2 s3 = some r) :
    Calls Try.prog 60 #[.pointer (some ⟨g, 0, none⟩)] w fun e w' => e = .returned (.int .i64 r) ∧ Drawn0 w w' := by
  obtain rfl := Option.some.inj h; clear h; go_enter Try.func60, Try.ntmps60
  go_wp2_with (first | (go_at_call 73; (with_reducible refine (impl_size_string.calls _ _ s2 _ _ rfl).mono ?_); rintro e w' ⟨rfl, ⟨nd, rfl⟩⟩))
  repeat (go_quiet (first | (go_at_call 73; (with_reducible refine (impl_size_string.calls _ _ s2 _ _ rfl).mono ?_); rintro e w' ⟨rfl, ⟨nd, rfl⟩⟩; (try first | exact ⟨rfl, _, dD⟩ | exact ⟨rfl, _, dA⟩))); try go_wp2_with (first | (go_at_call 73; (with_reducible refine (impl_size_string.calls _ _ s2 _ _ rfl).mono ?_); rintro e w' ⟨rfl, ⟨nd, rfl⟩⟩; (try first | exact ⟨rfl, _, dD⟩ | exact ⟨rfl, _, dA⟩))))
  go_ret
  exact ⟨by first | rfl | simp, by first | exact ⟨_, rfl⟩ | exact Drawn0.refl _⟩


/-! ### impl_isTime: function 66 -/

def impl_isTime.f (a0 : Int) : Option (Bool) := (impl_within.f a0 0 1000000000).bind fun t101 => (some t101)
set_option maxHeartbeats 60000000 in
set_option maxRecDepth 100000 in
theorem impl_isTime.calls (a0 : Int) (r : Bool) (w : World) (h : impl_isTime.f a0 = some r) :
    Calls Try.prog 66 #[.int .i64 a0] w fun e w' => e = .returned (.bool r) ∧ Drawn0 w w' := by
 have H : ((impl_within.f a0 0 1000000000).bind fun t101 => (some t101)) = some r := h; clear h; replace H := oM H; obtain ⟨t101, A20, H⟩ := H; have A2 := AM A20; clear A20; obtain rfl := Option.some.inj H; go_enter Try.func66, Try.ntmps66
 go_wp2_with (first | ((with_reducible refine gate_callee (f := 40) rfl ?_); refine gL (some 4) Try.func40 #[.int .i64 a0, .int .i64 0, .int .i64 1000000000] ?_; (with_reducible refine (impl_within.calls _ _ _ _ _ A2.out).mono ?_); rintro e w' ⟨rfl, ⟨nd, rfl⟩⟩; refine ⟨_, rfl, ?_⟩))
 go_ret
 exact ⟨by first | rfl | (simp; done) | (simp [*]; done), drX⟩

/-! ### impl_isMessage: function 69 -/

def impl_isMessage.f (a0 : ByteArray) : Option (Bool) := if (a0.size : Int) ≥ 1 then (some (decide ((a0.size : Int) ≤ 40))) else (some false)
set_option maxHeartbeats 60000000 in
set_option maxRecDepth 100000 in
theorem impl_isMessage.calls (a0 : ByteArray) (r : Bool) (w : World) (h : impl_isMessage.f a0 = some r) :
    Calls Try.prog 69 #[.string a0] w fun e w' => e = .returned (.bool r) ∧ Drawn0 w w' := by
 have H : (if (a0.size : Int) ≥ 1 then (some (decide ((a0.size : Int) ≤ 40))) else (some false)) = some r := h; clear h; by_cases c2 : (a0.size : Int) ≥ 1
 ·
  rw [if_pos c2] at H; have c2b0 : decide (1 ≤ (a0.size : Int)) = true := dY c2; have c2b1 : decide (1 ≤ a0.size) = true := dY (by omega); clear c2; obtain rfl := Option.some.inj H; go_enter Try.func69, Try.ntmps69
  go_wp2
  go_ret
  exact ⟨by first | rfl | (simp; done) | (simp [*]; done), drX⟩
 rw [if_neg c2] at H; have c2b0 : decide (1 ≤ (a0.size : Int)) = false := dN c2; have c2b1 : decide (1 ≤ a0.size) = false := dN (by omega); clear c2; obtain rfl := Option.some.inj H; go_enter Try.func69, Try.ntmps69
 go_wp2
 go_ret
 exact ⟨by first | rfl | (simp; done) | (simp [*]; done), drX⟩

end Go.Proofs.Ytnjnjffjblgldaa.Q
