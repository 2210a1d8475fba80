/- Printed by a program of this session (wip/mp.py over the kit's print.py): functions of the translation as plain Lean functions, and that the machine's calls do what these say. -/
import Derived.Test.YtbediildfabhnaaDoorQx0
import Derived.Test.YtbediildfabhnaaDoorQx6
import Derived.Test.YtbediildfabhnaaDoorQx9
namespace Go.Proofs.YtbediildfabhnaaDoor.Q
open Go.RowKit Go.Proofs.YtbediildfabhnaaDoor.HB Go.Proofs.YtbediildfabhnaaDoorW.PrintWords Go.Proofs.YtbediildfabhnaaDoorW.PrintLast Go.Proofs.YtbediildfabhnaaDoorW.PrintMore
attribute [local go_sem] max2_int min2_int max_two min_two max_three min_three max_four min_four   -- for this text's walks alone
set_option linter.unusedVariables false
set_option linter.unusedSimpArgs false

/-! ### spec_l06Read: function 30 -/
abbrev spec_l06Read.b0 : Array Bool := #[false, true, false, false, false, false, false, false, false, false, false, false, false, false, false, false, false, false]
abbrev spec_l06Read.b1 : Array Bool := #[false, true, true, false, false, false, false, false, false, false, false, false, false, false, false, false, false, false]
abbrev spec_l06Read.b2 : Array Bool := #[false, true, true, true, false, false, false, false, false, false, false, false, false, false, false, false, false, false]
abbrev spec_l06Read.b3 : Array Bool := #[true, true, true, true, true, true, true, true, true, true, true, false, false, true, false, false, false, false]
abbrev spec_l06Read.b4 : Array Bool := #[true, true, true, true, true, true, true, true, true, true, true, true, false, true, false, false, false, false]
def spec_l06Read.f (k : Nat) (a0 : ByteArray) : Option (Int × Int × Int × ByteArray × ByteArray × ByteArray × Int × Bool) := (spec_l06Reader_num.f k a0 0 false).bind fun bt103 => ((spec_l06Reader_num.f k bt103.2.1 bt103.2.2.1 bt103.2.2.2).bind fun bt108 => ((spec_l06Reader_num.f k bt108.2.1 bt108.2.2.1 bt108.2.2.2).bind fun bt112 => ((spec_l06Reader_text.f k bt112.2.1 bt112.2.2.1 bt112.2.2.2).bind fun bt116 => ((spec_l06Reader_text.f k bt116.2.1 bt116.2.2.1 bt116.2.2.2).bind fun bt120 => ((spec_l06Reader_text.f k bt120.2.1 bt120.2.2.1 bt120.2.2.2).bind fun bt124 => ((spec_l06Reader_num.f k bt124.2.1 bt124.2.2.1 bt124.2.2.2).bind fun bt128 => (if bt128.2.2.2 = true then (some (bt103.1, bt108.1, bt112.1, bt116.1, bt120.1, bt124.1, bt128.1, false)) else (if a0.toList = ([] : List UInt8) then (some (bt103.1, bt108.1, bt112.1, bt116.1, bt120.1, bt124.1, bt128.1, false)) else ((spec_CommandBytes.f k bt103.1 bt108.1 bt112.1 bt116.1 bt120.1 bt124.1 bt128.1).bind fun t132 => (some (bt103.1, bt108.1, bt112.1, bt116.1, bt120.1, bt124.1, bt128.1, (t132.toList == a0.toList))))))))))))
theorem spec_l06Read.mono : ∀ a0 k, LeO (spec_l06Read.f k a0) (spec_l06Read.f (k + 1) a0) := by
  intro a0 k
  unfold spec_l06Read.f
  repeat' first
      | (with_reducible exact spec_CommandBytes.mono _ _ _ _ _ _ _ _)
      | (with_reducible exact spec_l06Reader_num.mono _ _ _ _)
      | (with_reducible exact spec_l06Reader_text.mono _ _ _ _)
      | (with_reducible exact LeO.refl _)
      | (with_reducible exact LeO.none _)
      | (with_reducible refine LeO.ite ?_ ?_)
      | (with_reducible refine LeO.bind ?_ (fun _ => ?_))
      | exact spec_CommandBytes.mono _ _ _ _ _ _ _ _
      | exact spec_l06Reader_num.mono _ _ _ _
      | exact spec_l06Reader_text.mono _ _ _ _
      | exact LeO.none _
      | refine LeO.ite ?_ ?_
      | refine LeO.bind ?_ (fun _ => ?_)
def spec_l06Read.T9 : Bool × List (List Nat × List Nat) := (true, [([], []), ([], []), ([1], [1]), ([2], [2]), ([3], [3]), ([4], [4]), ([5], [5]), ([6], [6]), ([7, 6], [6, 7]), ([6, 8], [6, 8]), ([9, 6], [9]), ([10], [10]), ([11, 10, 10], [10, 11]), ([10], [10]), ([12, 13, 10], [10, 12, 13]), ([10, 14], [10, 14]), ([0, 12, 0], [0]), ([15, 16, 0, 1, 2, 3, 4, 5, 6, 7, 8, 9, 10, 11, 12, 13, 14, 15, 16], [15])])
def spec_l06Read.B9 : List Nat := [0, 0, 2, 6, 14, 30, 62, 126, 254, 510, 1022, 2046, 4094, 2046, 16382, 32766, 8191, 131071]
theorem spec_l06Read.tab9 : rtab .any (opsOf Tryd.f30 9) = spec_l06Read.T9 := by kernel_rfl
theorem spec_l06Read.bits9 : waitsOk spec_l06Read.T9.2 spec_l06Read.B9 = true := by kernel_rfl
theorem bI62_102_spec_l06Read {n : Nat} {w W W' : World} (h : Below n w W) (f : Below n w W → Below n w W' := by intro h_; repeat (first | (with_reducible first | exact h_ | apply bA | apply bN | apply bD | refine bS ?_ (IsS62.ge HI102.out) | refine bS ?_ (Aside0.out (by assumption))) | exact h_)) : Below n w W' := f h
theorem iX62_6_spec_l06Read {p q : Prop} (h : p) (f : p → q := by intro h_; repeat (first | (with_reducible first | exact h_ | apply IsS62.alloc | apply IsS62.drewN | apply IsS62.drew | apply IsS62.set_0 | apply IsS62.set_1 | apply IsS62.set_2 | refine IsS62.far ?_ (Aside0.out (by assumption)) _ | apply IsS62.far | exact Aside0.out (by assumption)) | exact h_)) : q := f h
set_option maxHeartbeats 60000000 in
set_option maxRecDepth 100000 in
theorem spec_l06Read.calls (k : Nat) (a0 : ByteArray) (r1 : Int) (r2 : Int) (r3 : Int) (r4 : ByteArray) (r5 : ByteArray) (r6 : ByteArray) (r7 : Int) (r8 : Bool) (w : World) (h : spec_l06Read.f k a0 = some (r1, r2, r3, r4, r5, r6, r7, r8)) :
    Calls Tryd.prog 30 #[.string a0] w fun e w' => e = .returned (.tuple #[.agg #[.int .i64 r1, .int .i64 r2, .int .i64 r3, .string r4, .string r5, .string r6, .int .i64 r7], .bool r8]) ∧ Below w.heap.size w w' := by
 have hu24 := Tryd.underlying24
 have hu62 := Tryd.underlying62
 have HB := AM (Below.refl w.heap.size w)
 have H : ((spec_l06Reader_num.f k a0 0 false).bind fun bt103 => ((spec_l06Reader_num.f k bt103.2.1 bt103.2.2.1 bt103.2.2.2).bind fun bt108 => ((spec_l06Reader_num.f k bt108.2.1 bt108.2.2.1 bt108.2.2.2).bind fun bt112 => ((spec_l06Reader_text.f k bt112.2.1 bt112.2.2.1 bt112.2.2.2).bind fun bt116 => ((spec_l06Reader_text.f k bt116.2.1 bt116.2.2.1 bt116.2.2.2).bind fun bt120 => ((spec_l06Reader_text.f k bt120.2.1 bt120.2.2.1 bt120.2.2.2).bind fun bt124 => ((spec_l06Reader_num.f k bt124.2.1 bt124.2.2.1 bt124.2.2.2).bind fun bt128 => (if bt128.2.2.2 = true then (some (bt103.1, bt108.1, bt112.1, bt116.1, bt120.1, bt124.1, bt128.1, false)) else (if a0.toList = ([] : List UInt8) then (some (bt103.1, bt108.1, bt112.1, bt116.1, bt120.1, bt124.1, bt128.1, false)) else ((spec_CommandBytes.f k bt103.1 bt108.1 bt112.1 bt116.1 bt120.1 bt124.1 bt128.1).bind fun t132 => (some (bt103.1, bt108.1, bt112.1, bt116.1, bt120.1, bt124.1, bt128.1, (t132.toList == a0.toList))))))))))))) = some (r1, r2, r3, r4, r5, r6, r7, r8) := h
 clear h
 replace H := Option.bind_eq_some_iff.mp H
 obtain ⟨⟨t103, t104, t105, t106⟩, A20, H⟩ := H
 try dsimp only at H
 have A2 := AM A20
 clear A20
 replace H := Option.bind_eq_some_iff.mp H
 obtain ⟨⟨t108, t109, t110, t111⟩, A30, H⟩ := H
 try dsimp only at H
 have A3 := AM A30
 clear A30
 replace H := Option.bind_eq_some_iff.mp H
 obtain ⟨⟨t112, t113, t114, t115⟩, A40, H⟩ := H
 try dsimp only at H
 have A4 := AM A40
 clear A40
 replace H := Option.bind_eq_some_iff.mp H
 obtain ⟨⟨t116, t117, t118, t119⟩, A50, H⟩ := H
 try dsimp only at H
 have A5 := AM A50
 clear A50
 replace H := Option.bind_eq_some_iff.mp H
 obtain ⟨⟨t120, t121, t122, t123⟩, A60, H⟩ := H
 try dsimp only at H
 have A6 := AM A60
 clear A60
 replace H := Option.bind_eq_some_iff.mp H
 obtain ⟨⟨t124, t125, t126, t127⟩, A70, H⟩ := H
 try dsimp only at H
 have A7 := AM A70
 clear A70
 replace H := Option.bind_eq_some_iff.mp H
 obtain ⟨⟨t128, t129, t130, t131⟩, A80, H⟩ := H
 try dsimp only at H
 have A8 := AM A80
 clear A80
 by_cases c9 : t131 = true
 ·
  subst c9
  have H1 : (some (t103, t108, t112, t116, t120, t124, t128, false)) = some (r1, r2, r3, r4, r5, r6, r7, r8) := by rw [if_pos rfl] at H; exact H
  clear H
  have H := H1
  clear H1
  simp only [Option.some.injEq, Prod.mk.injEq] at H
  obtain ⟨rfl, rfl, rfl, rfl, rfl, rfl, rfl, rfl⟩ := H
  go_enter Tryd.func30, Tryd.ntmps30
  try go_wp2_with (first | ((with_reducible refine gate_dst (N := 2) rfl ?_); refine box_event (by rfl) (N := 2) (by rfl) (cs := #[.int .i64 0, .int .i64 0, .int .i64 0, .string (⟨#[]⟩ : ByteArray), .string (⟨#[]⟩ : ByteArray), .string (⟨#[]⟩ : ByteArray), .int .i64 0]) (t := 24) (by first | (go_simp; done) | (go_simp; rfl)) ?_; intro gb101 hg w10 hbox hb; have _ := AM (below_step (bX HB.out) hb); have _ := AM (hbox); have n2_ := AM ((by rw [hg]; exact (bZ (bX HB.out)) : w.heap.size ≤ gb101)); clear HB; rename_i HB BK101; have GW101 := n2_; have GE101 := n2_; clear n2_; clear hb hbox hg) | ((with_reducible refine gate_dst (N := 8) rfl ?_); refine box_event (by rfl) (N := 8) (by rfl) (cs := #[.string a0, .int .i64 0, .bool false]) (t := 62) (by first | (go_simp; done) | (go_simp; rfl)) ?_; intro gb102 hg w11 hbox hb; have _ := AM (nB BK101.out hb); have _ := AM (below_step (bX HB.out) hb); have _ := AM ((show IsS62 w w11 gb102 a0 0 false from ⟨hbox, (by rw [hg]; exact (bZ (bX HB.out)) : w.heap.size ≤ gb102)⟩)); have n3_ := AM ((by rw [hg]; exact (bZ (bX HB.out)) : w.heap.size ≤ gb102)); have _ := AM (lX hg BK101.out); have _ := AM (lX hg BK101.out).symm; clear BK101 HB; rename_i BK101 HB HI102 NB101_102 NB102_101; have GW102 := n3_; have GE102 := n3_; clear n3_; clear hb hbox hg) | ((with_reducible refine gate_callee (f := 42) rfl ?_); refine goesL_ (some 10) rfl rfl Tryd.func42 (by kernel_rfl) rfl #[.pointer (some ⟨gb102, 0, none⟩)] rfl (by (try simp only [mA, mB, mC]); first | done | rfl | (simp only [mD, mE]; rfl)) ?_; (with_reducible refine (spec_l06Reader_num.calls k gb102 a0 0 false t103 t104 t105 t106 w _ ?side1 ?side2 A2.out).mono ?_); (case side1 => exact (iX62_6_spec_l06Read HI102.out)); (case side2 => exact (bI62_102_spec_l06Read HB.out)); rintro e w12 ⟨rfl, hi, hb, hk⟩; refine ⟨_, rfl, ?_⟩; have _ := AM (kB hk BK101.out NB101_102.out (by simp)); have _ := AM (hb); have _ := AM (hi); clear BK101 HB HI102; rename_i BK101 HB HI102; (try clear hb); (try clear hb2); (try clear hk); (try clear hi)) | ((with_reducible refine gate_dst (N := 5) rfl ?_); refine box_event (by rfl) (N := 5) (by rfl) (cs := #[.int .i64 0, .int .i64 0, .int .i64 0, .string (⟨#[]⟩ : ByteArray), .string (⟨#[]⟩ : ByteArray), .string (⟨#[]⟩ : ByteArray), .int .i64 0]) (t := 24) (by first | (go_simp; done) | (go_simp; rfl)) ?_; intro gb107 hg w13 hbox hb; have _ := AM (nB BK101.out hb); have _ := AM (IsS62.below (iX62_6_spec_l06Read HI102.out) hb); have _ := AM (below_step (bI62_102_spec_l06Read HB.out) hb); have _ := AM (hbox); have n4_ := AM ((by rw [hg]; exact (bZ (bI62_102_spec_l06Read HB.out)) : w.heap.size ≤ gb107)); have _ := AM (lX hg BK101.out); have _ := AM (lX hg BK101.out).symm; have _ := AM ((by rw [hg]; exact Nat.ne_of_lt (IsS62.lt (show IsS62 w _ gb102 t104 t105 t106 from iX62_6_spec_l06Read HI102.out)) : gb102 ≠ gb107)); have _ := AM ((by rw [hg]; exact Nat.ne_of_gt (IsS62.lt (show IsS62 w _ gb102 t104 t105 t106 from iX62_6_spec_l06Read HI102.out)) : gb107 ≠ gb102)); clear BK101 HI102 HB; rename_i BK101 HI102 HB BK107 NB101_107 NB107_101 NB102_107 NB107_102; have GW107 := n4_; have GE107 := n4_; clear n4_; clear hb hbox hg; have hnb14 := NB107_101.out; have hnc14 := NB101_107.out; have hnb15 := NB107_102.out; have hnc15 := NB102_107.out; have hcz16 := q7 BK107.out; have hfz16 := fZ BK107.out) | ((with_reducible refine gate_callee (f := 42) rfl ?_); refine goesL_ (some 13) rfl rfl Tryd.func42 (by kernel_rfl) rfl #[.pointer (some ⟨gb102, 0, none⟩)] rfl (by (try simp only [mA, mB, mC]); first | done | rfl | (simp only [mD, mE]; rfl)) ?_; (with_reducible refine (spec_l06Reader_num.calls k gb102 t104 t105 t106 t108 t109 t110 t111 w _ ?side1 ?side2 A3.out).mono ?_); (case side1 => exact (iX62_6_spec_l06Read HI102.out)); (case side2 => exact (bI62_102_spec_l06Read HB.out)); rintro e w17 ⟨rfl, hi, hb, hk⟩; refine ⟨_, rfl, ?_⟩; have _ := AM (KeepBut.blk hk (g' := gb101) (o := .cells #[.int .i64 0, .int .i64 0, .int .i64 0, .string (⟨#[]⟩ : ByteArray), .string (⟨#[]⟩ : ByteArray), .string (⟨#[]⟩ : ByteArray), .int .i64 0] 24 (0, 0)) (by (iterate 7 refine kF NB101_107.out ?_); (with_reducible repeat (first | apply kN | apply kD | apply kA)); exact BK101.out) NB101_102.out (by simp)); have _ := AM (KeepBut.blk hk (g' := gb107) (o := .cells #[.int .i64 t103, .int .i64 0, .int .i64 0, .string (⟨#[]⟩ : ByteArray), .string (⟨#[]⟩ : ByteArray), .string (⟨#[]⟩ : ByteArray), .int .i64 0] 24 (0, 0)) (by refine kP (cs := #[.int .i64 t103, .int .i64 0, .int .i64 0, .string (⟨#[]⟩ : ByteArray), .string (⟨#[]⟩ : ByteArray), .string (⟨#[]⟩ : ByteArray), .int .i64 0]) 6 ?_; refine kP (cs := #[.int .i64 t103, .int .i64 0, .int .i64 0, .string (⟨#[]⟩ : ByteArray), .string (⟨#[]⟩ : ByteArray), .string (⟨#[]⟩ : ByteArray), .int .i64 0]) 5 ?_; refine kP (cs := #[.int .i64 t103, .int .i64 0, .int .i64 0, .string (⟨#[]⟩ : ByteArray), .string (⟨#[]⟩ : ByteArray), .string (⟨#[]⟩ : ByteArray), .int .i64 0]) 4 ?_; refine kP (cs := #[.int .i64 t103, .int .i64 0, .int .i64 0, .string (⟨#[]⟩ : ByteArray), .string (⟨#[]⟩ : ByteArray), .string (⟨#[]⟩ : ByteArray), .int .i64 0]) 3 ?_; refine kP (cs := #[.int .i64 t103, .int .i64 0, .int .i64 0, .string (⟨#[]⟩ : ByteArray), .string (⟨#[]⟩ : ByteArray), .string (⟨#[]⟩ : ByteArray), .int .i64 0]) 2 ?_; refine kP (cs := #[.int .i64 t103, .int .i64 0, .int .i64 0, .string (⟨#[]⟩ : ByteArray), .string (⟨#[]⟩ : ByteArray), .string (⟨#[]⟩ : ByteArray), .int .i64 0]) 1 ?_; refine kP (cs := #[.int .i64 0, .int .i64 0, .int .i64 0, .string (⟨#[]⟩ : ByteArray), .string (⟨#[]⟩ : ByteArray), .string (⟨#[]⟩ : ByteArray), .int .i64 0]) 0 ?_; (with_reducible repeat (first | apply kN | apply kD | apply kA)); exact BK107.out) NB107_102.out (by simp)); have _ := AM (hb); have _ := AM (hi); clear BK101 BK107 HB HI102; rename_i BK101 BK107 HB HI102; (try clear hb); (try clear hb2); (try clear hk); (try clear hi); have hcz18 := q7 BK107.out; have hfz18 := fZ BK107.out) | ((with_reducible refine gate_callee (f := 42) rfl ?_); refine goesL_ (some 16) rfl rfl Tryd.func42 (by kernel_rfl) rfl #[.pointer (some ⟨gb102, 0, none⟩)] rfl (by (try simp only [mA, mB, mC]); first | done | rfl | (simp only [mD, mE]; rfl)) ?_; (with_reducible refine (spec_l06Reader_num.calls k gb102 t109 t110 t111 t112 t113 t114 t115 w _ ?side1 ?side2 A4.out).mono ?_); (case side1 => exact (iX62_6_spec_l06Read HI102.out)); (case side2 => exact (bI62_102_spec_l06Read HB.out)); rintro e w19 ⟨rfl, hi, hb, hk⟩; refine ⟨_, rfl, ?_⟩; have _ := AM (KeepBut.blk hk (g' := gb101) (o := .cells #[.int .i64 0, .int .i64 0, .int .i64 0, .string (⟨#[]⟩ : ByteArray), .string (⟨#[]⟩ : ByteArray), .string (⟨#[]⟩ : ByteArray), .int .i64 0] 24 (0, 0)) (by refine kF NB101_107.out ?_; (with_reducible repeat (first | apply kN | apply kD | apply kA)); exact BK101.out) NB101_102.out (by simp)); have _ := AM (KeepBut.blk hk (g' := gb107) (o := .cells #[.int .i64 t103, .int .i64 t108, .int .i64 0, .string (⟨#[]⟩ : ByteArray), .string (⟨#[]⟩ : ByteArray), .string (⟨#[]⟩ : ByteArray), .int .i64 0] 24 (0, 0)) (by refine kP (cs := #[.int .i64 t103, .int .i64 0, .int .i64 0, .string (⟨#[]⟩ : ByteArray), .string (⟨#[]⟩ : ByteArray), .string (⟨#[]⟩ : ByteArray), .int .i64 0]) 1 ?_; (with_reducible repeat (first | apply kN | apply kD | apply kA)); exact BK107.out) NB107_102.out (by simp)); have _ := AM (hb); have _ := AM (hi); clear BK101 BK107 HB HI102; rename_i BK101 BK107 HB HI102; (try clear hb); (try clear hb2); (try clear hk); (try clear hi); have hcz20 := q7 BK107.out; have hfz20 := fZ BK107.out) | ((with_reducible refine gate_callee (f := 43) rfl ?_); refine goesL_ (some 19) rfl rfl Tryd.func43 (by kernel_rfl) rfl #[.pointer (some ⟨gb102, 0, none⟩)] rfl (by (try simp only [mA, mB, mC]); first | done | rfl | (simp only [mD, mE]; rfl)) ?_; (with_reducible refine (spec_l06Reader_text.calls k gb102 t113 t114 t115 t116 t117 t118 t119 w _ ?side1 ?side2 A5.out).mono ?_); (case side1 => exact (iX62_6_spec_l06Read HI102.out)); (case side2 => exact (bI62_102_spec_l06Read HB.out)); rintro e w21 ⟨rfl, hi, hb, hk⟩; refine ⟨_, rfl, ?_⟩; have _ := AM (KeepBut.blk hk (g' := gb101) (o := .cells #[.int .i64 0, .int .i64 0, .int .i64 0, .string (⟨#[]⟩ : ByteArray), .string (⟨#[]⟩ : ByteArray), .string (⟨#[]⟩ : ByteArray), .int .i64 0] 24 (0, 0)) (by refine kF NB101_107.out ?_; (with_reducible repeat (first | apply kN | apply kD | apply kA)); exact BK101.out) NB101_102.out (by simp)); have _ := AM (KeepBut.blk hk (g' := gb107) (o := .cells #[.int .i64 t103, .int .i64 t108, .int .i64 t112, .string (⟨#[]⟩ : ByteArray), .string (⟨#[]⟩ : ByteArray), .string (⟨#[]⟩ : ByteArray), .int .i64 0] 24 (0, 0)) (by refine kP (cs := #[.int .i64 t103, .int .i64 t108, .int .i64 0, .string (⟨#[]⟩ : ByteArray), .string (⟨#[]⟩ : ByteArray), .string (⟨#[]⟩ : ByteArray), .int .i64 0]) 2 ?_; (with_reducible repeat (first | apply kN | apply kD | apply kA)); exact BK107.out) NB107_102.out (by simp)); have _ := AM (hb); have _ := AM (hi); clear BK101 BK107 HB HI102; rename_i BK101 BK107 HB HI102; (try clear hb); (try clear hb2); (try clear hk); (try clear hi); have hcz22 := q7 BK107.out; have hfz22 := fZ BK107.out) | ((with_reducible refine gate_callee (f := 43) rfl ?_); refine goesL_ (some 22) rfl rfl Tryd.func43 (by kernel_rfl) rfl #[.pointer (some ⟨gb102, 0, none⟩)] rfl (by (try simp only [mA, mB, mC]); first | done | rfl | (simp only [mD, mE]; rfl)) ?_; (with_reducible refine (spec_l06Reader_text.calls k gb102 t117 t118 t119 t120 t121 t122 t123 w _ ?side1 ?side2 A6.out).mono ?_); (case side1 => exact (iX62_6_spec_l06Read HI102.out)); (case side2 => exact (bI62_102_spec_l06Read HB.out)); rintro e w23 ⟨rfl, hi, hb, hk⟩; refine ⟨_, rfl, ?_⟩; have _ := AM (KeepBut.blk hk (g' := gb101) (o := .cells #[.int .i64 0, .int .i64 0, .int .i64 0, .string (⟨#[]⟩ : ByteArray), .string (⟨#[]⟩ : ByteArray), .string (⟨#[]⟩ : ByteArray), .int .i64 0] 24 (0, 0)) (by refine kF NB101_107.out ?_; (with_reducible repeat (first | apply kN | apply kD | apply kA)); exact BK101.out) NB101_102.out (by simp)); have _ := AM (KeepBut.blk hk (g' := gb107) (o := .cells #[.int .i64 t103, .int .i64 t108, .int .i64 t112, .string t116, .string (⟨#[]⟩ : ByteArray), .string (⟨#[]⟩ : ByteArray), .int .i64 0] 24 (0, 0)) (by refine kP (cs := #[.int .i64 t103, .int .i64 t108, .int .i64 t112, .string (⟨#[]⟩ : ByteArray), .string (⟨#[]⟩ : ByteArray), .string (⟨#[]⟩ : ByteArray), .int .i64 0]) 3 ?_; (with_reducible repeat (first | apply kN | apply kD | apply kA)); exact BK107.out) NB107_102.out (by simp)); have _ := AM (hb); have _ := AM (hi); clear BK101 BK107 HB HI102; rename_i BK101 BK107 HB HI102; (try clear hb); (try clear hb2); (try clear hk); (try clear hi); have hcz24 := q7 BK107.out; have hfz24 := fZ BK107.out) | ((with_reducible refine gate_callee (f := 43) rfl ?_); refine goesL_ (some 25) rfl rfl Tryd.func43 (by kernel_rfl) rfl #[.pointer (some ⟨gb102, 0, none⟩)] rfl (by (try simp only [mA, mB, mC]); first | done | rfl | (simp only [mD, mE]; rfl)) ?_; (with_reducible refine (spec_l06Reader_text.calls k gb102 t121 t122 t123 t124 t125 t126 t127 w _ ?side1 ?side2 A7.out).mono ?_); (case side1 => exact (iX62_6_spec_l06Read HI102.out)); (case side2 => exact (bI62_102_spec_l06Read HB.out)); rintro e w25 ⟨rfl, hi, hb, hk⟩; refine ⟨_, rfl, ?_⟩; have _ := AM (KeepBut.blk hk (g' := gb101) (o := .cells #[.int .i64 0, .int .i64 0, .int .i64 0, .string (⟨#[]⟩ : ByteArray), .string (⟨#[]⟩ : ByteArray), .string (⟨#[]⟩ : ByteArray), .int .i64 0] 24 (0, 0)) (by refine kF NB101_107.out ?_; (with_reducible repeat (first | apply kN | apply kD | apply kA)); exact BK101.out) NB101_102.out (by simp)); have _ := AM (KeepBut.blk hk (g' := gb107) (o := .cells #[.int .i64 t103, .int .i64 t108, .int .i64 t112, .string t116, .string t120, .string (⟨#[]⟩ : ByteArray), .int .i64 0] 24 (0, 0)) (by refine kP (cs := #[.int .i64 t103, .int .i64 t108, .int .i64 t112, .string t116, .string (⟨#[]⟩ : ByteArray), .string (⟨#[]⟩ : ByteArray), .int .i64 0]) 4 ?_; (with_reducible repeat (first | apply kN | apply kD | apply kA)); exact BK107.out) NB107_102.out (by simp)); have _ := AM (hb); have _ := AM (hi); clear BK101 BK107 HB HI102; rename_i BK101 BK107 HB HI102; (try clear hb); (try clear hb2); (try clear hk); (try clear hi); have hcz26 := q7 BK107.out; have hfz26 := fZ BK107.out) | ((with_reducible refine gate_callee (f := 42) rfl ?_); refine goesL_ (some 28) rfl rfl Tryd.func42 (by kernel_rfl) rfl #[.pointer (some ⟨gb102, 0, none⟩)] rfl (by (try simp only [mA, mB, mC]); first | done | rfl | (simp only [mD, mE]; rfl)) ?_; (with_reducible refine (spec_l06Reader_num.calls k gb102 t125 t126 t127 t128 t129 t130 true w _ ?side1 ?side2 A8.out).mono ?_); (case side1 => exact (iX62_6_spec_l06Read HI102.out)); (case side2 => exact (bI62_102_spec_l06Read HB.out)); rintro e w27 ⟨rfl, hi, hb, hk⟩; refine ⟨_, rfl, ?_⟩; have _ := AM (KeepBut.blk hk (g' := gb101) (o := .cells #[.int .i64 0, .int .i64 0, .int .i64 0, .string (⟨#[]⟩ : ByteArray), .string (⟨#[]⟩ : ByteArray), .string (⟨#[]⟩ : ByteArray), .int .i64 0] 24 (0, 0)) (by refine kF NB101_107.out ?_; (with_reducible repeat (first | apply kN | apply kD | apply kA)); exact BK101.out) NB101_102.out (by simp)); have _ := AM (KeepBut.blk hk (g' := gb107) (o := .cells #[.int .i64 t103, .int .i64 t108, .int .i64 t112, .string t116, .string t120, .string t124, .int .i64 0] 24 (0, 0)) (by refine kP (cs := #[.int .i64 t103, .int .i64 t108, .int .i64 t112, .string t116, .string t120, .string (⟨#[]⟩ : ByteArray), .int .i64 0]) 5 ?_; (with_reducible repeat (first | apply kN | apply kD | apply kA)); exact BK107.out) NB107_102.out (by simp)); have _ := AM (hb); have _ := AM (hi); clear BK101 BK107 HB HI102; rename_i BK101 BK107 HB HI102; (try clear hb); (try clear hb2); (try clear hk); (try clear hi); have hcz28 := q7 BK107.out; have hfz28 := fZ BK107.out))
  have n0_ : Aside0 ((w27.setCell ⟨gb107, 6, none⟩ (.int .i64 t128)).heap[gb101]? = some (.cells #[.int .i64 0, .int .i64 0, .int .i64 0, .string (⟨#[]⟩ : ByteArray), .string (⟨#[]⟩ : ByteArray), .string (⟨#[]⟩ : ByteArray), .int .i64 0] 24 (0, 0))) := ⟨by refine kF NB101_107.out ?_; (with_reducible repeat (first | apply kN | apply kD | apply kA)); exact BK101.out⟩
  have n1_ : Aside0 ((w27.setCell ⟨gb107, 6, none⟩ (.int .i64 t128)).heap[gb107]? = some (.cells #[.int .i64 t103, .int .i64 t108, .int .i64 t112, .string t116, .string t120, .string t124, .int .i64 t128] 24 (0, 0))) := ⟨by refine kP (cs := #[.int .i64 t103, .int .i64 t108, .int .i64 t112, .string t116, .string t120, .string t124, .int .i64 0]) 6 ?_; (with_reducible repeat (first | apply kN | apply kD | apply kA)); exact BK107.out⟩
  have n2_ : Aside0 (IsS62 w (w27.setCell ⟨gb107, 6, none⟩ (.int .i64 t128)) gb102 t129 t130 true) := ⟨iX62_6_spec_l06Read HI102.out⟩
  have n3_ : Aside0 (Below w.heap.size w (w27.setCell ⟨gb107, 6, none⟩ (.int .i64 t128))) := ⟨bI62_102_spec_l06Read HB.out⟩
  (try clear BK101)
  (try clear BK107)
  (try clear HI102)
  (try clear HB)
  generalize (w27.setCell ⟨gb107, 6, none⟩ (.int .i64 t128)) = w29 at n0_ n1_ n2_ n3_ ⊢
  have BK101 := n0_
  have BK107 := n1_
  have HI102 := n2_
  have HB := n3_
  clear n0_ n1_ n2_ n3_
  have _ := AM (kD BK101.out)
  have _ := AM (kD BK107.out)
  have _ := AM (IsS62.drew HI102.out)
  have _ := AM (bD HB.out)
  clear BK101 BK107 HI102 HB
  rename_i BK101 BK107 HI102 HB
  refine start_ (n := 18) (S := fun w' => w'.cell? ⟨gb107, 0, none⟩ = some (.int .i64 t103) ∧ w'.cell? ⟨gb107, 1, none⟩ = some (.int .i64 t108) ∧ w'.cell? ⟨gb107, 2, none⟩ = some (.int .i64 t112) ∧ w'.cell? ⟨gb107, 3, none⟩ = some (.string t116) ∧ w'.cell? ⟨gb107, 4, none⟩ = some (.string t120) ∧ w'.cell? ⟨gb107, 5, none⟩ = some (.string t124) ∧ w'.cell? ⟨gb107, 6, none⟩ = some (.int .i64 t128) ∧ w'.cell? ⟨gb102, 0, none⟩ = some (.string t129) ∧ w'.cell? ⟨gb102, 1, none⟩ = some (.int .i64 t130) ∧ w'.cell? ⟨gb102, 2, none⟩ = some (.bool true)) (ds := []) (upTo 0 18) (by kernel_rfl) rfl rfl ⟨(kC BK107.out 0).trans rfl, (kC BK107.out 1).trans rfl, (kC BK107.out 2).trans rfl, (kC BK107.out 3).trans rfl, (kC BK107.out 4).trans rfl, (kC BK107.out 5).trans rfl, (kC BK107.out 6).trans rfl, (kC (AM HI102.out.1).out 0).trans rfl, (kC (AM HI102.out.1).out 1).trans rfl, (kC (AM HI102.out.1).out 2).trans rfl⟩ (fun hHeld => ?_); refine with_tabW spec_l06Read.tab9 spec_l06Read.bits9 (fun HT_ HW_ => ?_)
  generalize w29.drew = w30 at BK101 BK107 HI102 HB hHeld ⊢
  refine pF2 1 31 spec_l06Read.b0 ?_
  refine pF2 2 32 spec_l06Read.b1 ?_
  refine pF2 3 33 spec_l06Read.b2 ?_
  refine pT2 0 30 (upTo 4 18) ?_ hHeld
  refine pT2 4 34 (upTo 5 18) ?_ hHeld
  refine pF 5 6 18 35 ?_
  refine pF 6 7 18 36 ?_
  refine pU 7 8 18 37 ?_
  refine pU 8 9 18 38 ?_
  refine pF 9 10 18 39 ?_
  refine pF 10 11 18 40 ?_
  refine pU 11 12 18 41 ?_
  refine pU 12 13 18 42 ?_
  refine pU 13 14 18 43 ?_
  refine pU 14 15 18 44 ?_
  refine pF 15 16 18 45 ?_
  refine one_ (i := 16) (N := none) (upTo 17 18) rfl rfl (one_of HT_.out (by kernel_rfl)) (by decide) (fun K hK => ?_)
  have hs31 : w30.cell? ⟨gb101, 0, none⟩ = some (.int .i64 0) := (kC BK101.out 0).trans rfl
  have hfs31 := fZ BK101.out 0
  have hns31_1 := NB107_101.out
  have hms31_1 := NB101_107.out
  have hs32 : w30.cell? ⟨gb101, 1, none⟩ = some (.int .i64 0) := (kC BK101.out 1).trans rfl
  have hfs32 := fZ BK101.out 1
  have hns32_1 := NB107_101.out
  have hms32_1 := NB101_107.out
  have hs33 : w30.cell? ⟨gb101, 2, none⟩ = some (.int .i64 0) := (kC BK101.out 2).trans rfl
  have hfs33 := fZ BK101.out 2
  have hns33_1 := NB107_101.out
  have hms33_1 := NB101_107.out
  have hs34 : w30.cell? ⟨gb101, 3, none⟩ = some (.string (⟨#[]⟩ : ByteArray)) := (kC BK101.out 3).trans rfl
  have hfs34 := fZ BK101.out 3
  have hns34_1 := NB107_101.out
  have hms34_1 := NB101_107.out
  have hs35 : w30.cell? ⟨gb101, 4, none⟩ = some (.string (⟨#[]⟩ : ByteArray)) := (kC BK101.out 4).trans rfl
  have hfs35 := fZ BK101.out 4
  have hns35_1 := NB107_101.out
  have hms35_1 := NB101_107.out
  have hs36 : w30.cell? ⟨gb101, 5, none⟩ = some (.string (⟨#[]⟩ : ByteArray)) := (kC BK101.out 5).trans rfl
  have hfs36 := fZ BK101.out 5
  have hns36_1 := NB107_101.out
  have hms36_1 := NB101_107.out
  have hs37 : w30.cell? ⟨gb101, 6, none⟩ = some (.int .i64 0) := (kC BK101.out 6).trans rfl
  have hfs37 := fZ BK101.out 6
  have hns37_1 := NB107_101.out
  have hms37_1 := NB101_107.out
  refine skip_ (w1 := ?_) (by rfl) rfl ?_ ?_
  rotate_left
  ·
   go_simp
   rfl
  refine hK.out _ _ ⟨(cT NB107_101.out ((cT NB107_101.out ((cT NB107_101.out ((cT NB107_101.out ((cT NB107_101.out ((cT NB107_101.out ((cT NB107_101.out (hHeld.1)))))))))))))), (cT NB107_101.out ((cT NB107_101.out ((cT NB107_101.out ((cT NB107_101.out ((cT NB107_101.out ((cT NB107_101.out ((cT NB107_101.out (hHeld.2.1)))))))))))))), (cT NB107_101.out ((cT NB107_101.out ((cT NB107_101.out ((cT NB107_101.out ((cT NB107_101.out ((cT NB107_101.out ((cT NB107_101.out (hHeld.2.2.1)))))))))))))), (cT NB107_101.out ((cT NB107_101.out ((cT NB107_101.out ((cT NB107_101.out ((cT NB107_101.out ((cT NB107_101.out ((cT NB107_101.out (hHeld.2.2.2.1)))))))))))))), (cT NB107_101.out ((cT NB107_101.out ((cT NB107_101.out ((cT NB107_101.out ((cT NB107_101.out ((cT NB107_101.out ((cT NB107_101.out (hHeld.2.2.2.2.1)))))))))))))), (cT NB107_101.out ((cT NB107_101.out ((cT NB107_101.out ((cT NB107_101.out ((cT NB107_101.out ((cT NB107_101.out ((cT NB107_101.out (hHeld.2.2.2.2.2.1)))))))))))))), (cT NB107_101.out ((cT NB107_101.out ((cT NB107_101.out ((cT NB107_101.out ((cT NB107_101.out ((cT NB107_101.out ((cT NB107_101.out (hHeld.2.2.2.2.2.2.1)))))))))))))), (cT NB102_101.out ((cT NB102_101.out ((cT NB102_101.out ((cT NB102_101.out ((cT NB102_101.out ((cT NB102_101.out ((cT NB102_101.out (hHeld.2.2.2.2.2.2.2.1)))))))))))))), (cT NB102_101.out ((cT NB102_101.out ((cT NB102_101.out ((cT NB102_101.out ((cT NB102_101.out ((cT NB102_101.out ((cT NB102_101.out (hHeld.2.2.2.2.2.2.2.2.1)))))))))))))), (cT NB102_101.out ((cT NB102_101.out ((cT NB102_101.out ((cT NB102_101.out ((cT NB102_101.out ((cT NB102_101.out ((cT NB102_101.out (hHeld.2.2.2.2.2.2.2.2.2))))))))))))))⟩ (fun hHeld => ?_)
  clear hK K
  refine pF 17 18 18 3 ?_
  refine done_ (done_of HT_.out (by kernel_rfl)) ?_
  try go_wp2
  refine bodyPost_ret (results_ct rfl _ _ gb101 24 #[.int .i64 t103, .int .i64 t108, .int .i64 t112, .string t116, .string t120, .string t124, .int .i64 t128] (0, 0) _ rfl (by refine kP (cs := #[.int .i64 t103, .int .i64 t108, .int .i64 t112, .string t116, .string t120, .string t124, .int .i64 0]) 6 ?_; refine kP (cs := #[.int .i64 t103, .int .i64 t108, .int .i64 t112, .string t116, .string t120, .string (⟨#[]⟩ : ByteArray), .int .i64 0]) 5 ?_; refine kP (cs := #[.int .i64 t103, .int .i64 t108, .int .i64 t112, .string t116, .string (⟨#[]⟩ : ByteArray), .string (⟨#[]⟩ : ByteArray), .int .i64 0]) 4 ?_; refine kP (cs := #[.int .i64 t103, .int .i64 t108, .int .i64 t112, .string (⟨#[]⟩ : ByteArray), .string (⟨#[]⟩ : ByteArray), .string (⟨#[]⟩ : ByteArray), .int .i64 0]) 3 ?_; refine kP (cs := #[.int .i64 t103, .int .i64 t108, .int .i64 0, .string (⟨#[]⟩ : ByteArray), .string (⟨#[]⟩ : ByteArray), .string (⟨#[]⟩ : ByteArray), .int .i64 0]) 2 ?_; refine kP (cs := #[.int .i64 t103, .int .i64 0, .int .i64 0, .string (⟨#[]⟩ : ByteArray), .string (⟨#[]⟩ : ByteArray), .string (⟨#[]⟩ : ByteArray), .int .i64 0]) 1 ?_; refine kP (cs := #[.int .i64 0, .int .i64 0, .int .i64 0, .string (⟨#[]⟩ : ByteArray), .string (⟨#[]⟩ : ByteArray), .string (⟨#[]⟩ : ByteArray), .int .i64 0]) 0 ?_; (with_reducible repeat (first | apply kN | apply kD | apply kA)); exact BK101.out) Tryd.underlying24 rfl (by kernel_rfl)) rfl ?_
  exact ⟨by first | rfl | (simp [*, errW_none, errW_some] <;> rfl), bI62_102_spec_l06Read HB.out⟩
 replace c9 := Bool.eq_false_iff.mpr c9
 subst c9
 have H1 : (if a0.toList = ([] : List UInt8) then (some (t103, t108, t112, t116, t120, t124, t128, false)) else ((spec_CommandBytes.f k t103 t108 t112 t116 t120 t124 t128).bind fun t132 => (some (t103, t108, t112, t116, t120, t124, t128, (t132.toList == a0.toList))))) = some (r1, r2, r3, r4, r5, r6, r7, r8) := by rw [if_neg (show ¬ (false = true) by decide)] at H; exact H
 clear H
 have H := H1
 clear H1
 by_cases c38 : a0.toList = ([] : List UInt8)
 ·
  rw [if_pos c38] at H
  have c38b0 : (a0.toList == ([] : List UInt8)) = true := beq_iff_eq.mpr c38
  have c38b1 : (a0.toList != ([] : List UInt8)) = false := bne_eq_false_iff_eq.mpr c38
  clear c38
  simp only [Option.some.injEq, Prod.mk.injEq] at H
  obtain ⟨rfl, rfl, rfl, rfl, rfl, rfl, rfl, rfl⟩ := H
  go_enter Tryd.func30, Tryd.ntmps30
  try go_wp2_with (first | ((with_reducible refine gate_dst (N := 2) rfl ?_); refine box_event (by rfl) (N := 2) (by rfl) (cs := #[.int .i64 0, .int .i64 0, .int .i64 0, .string (⟨#[]⟩ : ByteArray), .string (⟨#[]⟩ : ByteArray), .string (⟨#[]⟩ : ByteArray), .int .i64 0]) (t := 24) (by first | (go_simp; done) | (go_simp; rfl)) ?_; intro gb101 hg w39 hbox hb; have _ := AM (below_step (bX HB.out) hb); have _ := AM (hbox); have n2_ := AM ((by rw [hg]; exact (bZ (bX HB.out)) : w.heap.size ≤ gb101)); clear HB; rename_i HB BK101; have GW101 := n2_; have GE101 := n2_; clear n2_; clear hb hbox hg) | ((with_reducible refine gate_dst (N := 8) rfl ?_); refine box_event (by rfl) (N := 8) (by rfl) (cs := #[.string a0, .int .i64 0, .bool false]) (t := 62) (by first | (go_simp; done) | (go_simp; rfl)) ?_; intro gb102 hg w40 hbox hb; have _ := AM (nB BK101.out hb); have _ := AM (below_step (bX HB.out) hb); have _ := AM ((show IsS62 w w40 gb102 a0 0 false from ⟨hbox, (by rw [hg]; exact (bZ (bX HB.out)) : w.heap.size ≤ gb102)⟩)); have n3_ := AM ((by rw [hg]; exact (bZ (bX HB.out)) : w.heap.size ≤ gb102)); have _ := AM (lX hg BK101.out); have _ := AM (lX hg BK101.out).symm; clear BK101 HB; rename_i BK101 HB HI102 NB101_102 NB102_101; have GW102 := n3_; have GE102 := n3_; clear n3_; clear hb hbox hg) | ((with_reducible refine gate_callee (f := 42) rfl ?_); refine goesL_ (some 10) rfl rfl Tryd.func42 (by kernel_rfl) rfl #[.pointer (some ⟨gb102, 0, none⟩)] rfl (by (try simp only [mA, mB, mC]); first | done | rfl | (simp only [mD, mE]; rfl)) ?_; (with_reducible refine (spec_l06Reader_num.calls k gb102 a0 0 false t103 t104 t105 t106 w _ ?side1 ?side2 A2.out).mono ?_); (case side1 => exact (iX62_6_spec_l06Read HI102.out)); (case side2 => exact (bI62_102_spec_l06Read HB.out)); rintro e w41 ⟨rfl, hi, hb, hk⟩; refine ⟨_, rfl, ?_⟩; have _ := AM (kB hk BK101.out NB101_102.out (by simp)); have _ := AM (hb); have _ := AM (hi); clear BK101 HB HI102; rename_i BK101 HB HI102; (try clear hb); (try clear hb2); (try clear hk); (try clear hi)) | ((with_reducible refine gate_dst (N := 5) rfl ?_); refine box_event (by rfl) (N := 5) (by rfl) (cs := #[.int .i64 0, .int .i64 0, .int .i64 0, .string (⟨#[]⟩ : ByteArray), .string (⟨#[]⟩ : ByteArray), .string (⟨#[]⟩ : ByteArray), .int .i64 0]) (t := 24) (by first | (go_simp; done) | (go_simp; rfl)) ?_; intro gb107 hg w42 hbox hb; have _ := AM (nB BK101.out hb); have _ := AM (IsS62.below (iX62_6_spec_l06Read HI102.out) hb); have _ := AM (below_step (bI62_102_spec_l06Read HB.out) hb); have _ := AM (hbox); have n4_ := AM ((by rw [hg]; exact (bZ (bI62_102_spec_l06Read HB.out)) : w.heap.size ≤ gb107)); have _ := AM (lX hg BK101.out); have _ := AM (lX hg BK101.out).symm; have _ := AM ((by rw [hg]; exact Nat.ne_of_lt (IsS62.lt (show IsS62 w _ gb102 t104 t105 t106 from iX62_6_spec_l06Read HI102.out)) : gb102 ≠ gb107)); have _ := AM ((by rw [hg]; exact Nat.ne_of_gt (IsS62.lt (show IsS62 w _ gb102 t104 t105 t106 from iX62_6_spec_l06Read HI102.out)) : gb107 ≠ gb102)); clear BK101 HI102 HB; rename_i BK101 HI102 HB BK107 NB101_107 NB107_101 NB102_107 NB107_102; have GW107 := n4_; have GE107 := n4_; clear n4_; clear hb hbox hg; have hnb43 := NB107_101.out; have hnc43 := NB101_107.out; have hnb44 := NB107_102.out; have hnc44 := NB102_107.out; have hcz45 := q7 BK107.out; have hfz45 := fZ BK107.out) | ((with_reducible refine gate_callee (f := 42) rfl ?_); refine goesL_ (some 13) rfl rfl Tryd.func42 (by kernel_rfl) rfl #[.pointer (some ⟨gb102, 0, none⟩)] rfl (by (try simp only [mA, mB, mC]); first | done | rfl | (simp only [mD, mE]; rfl)) ?_; (with_reducible refine (spec_l06Reader_num.calls k gb102 t104 t105 t106 t108 t109 t110 t111 w _ ?side1 ?side2 A3.out).mono ?_); (case side1 => exact (iX62_6_spec_l06Read HI102.out)); (case side2 => exact (bI62_102_spec_l06Read HB.out)); rintro e w46 ⟨rfl, hi, hb, hk⟩; refine ⟨_, rfl, ?_⟩; have _ := AM (KeepBut.blk hk (g' := gb101) (o := .cells #[.int .i64 0, .int .i64 0, .int .i64 0, .string (⟨#[]⟩ : ByteArray), .string (⟨#[]⟩ : ByteArray), .string (⟨#[]⟩ : ByteArray), .int .i64 0] 24 (0, 0)) (by (iterate 7 refine kF NB101_107.out ?_); (with_reducible repeat (first | apply kN | apply kD | apply kA)); exact BK101.out) NB101_102.out (by simp)); have _ := AM (KeepBut.blk hk (g' := gb107) (o := .cells #[.int .i64 t103, .int .i64 0, .int .i64 0, .string (⟨#[]⟩ : ByteArray), .string (⟨#[]⟩ : ByteArray), .string (⟨#[]⟩ : ByteArray), .int .i64 0] 24 (0, 0)) (by refine kP (cs := #[.int .i64 t103, .int .i64 0, .int .i64 0, .string (⟨#[]⟩ : ByteArray), .string (⟨#[]⟩ : ByteArray), .string (⟨#[]⟩ : ByteArray), .int .i64 0]) 6 ?_; refine kP (cs := #[.int .i64 t103, .int .i64 0, .int .i64 0, .string (⟨#[]⟩ : ByteArray), .string (⟨#[]⟩ : ByteArray), .string (⟨#[]⟩ : ByteArray), .int .i64 0]) 5 ?_; refine kP (cs := #[.int .i64 t103, .int .i64 0, .int .i64 0, .string (⟨#[]⟩ : ByteArray), .string (⟨#[]⟩ : ByteArray), .string (⟨#[]⟩ : ByteArray), .int .i64 0]) 4 ?_; refine kP (cs := #[.int .i64 t103, .int .i64 0, .int .i64 0, .string (⟨#[]⟩ : ByteArray), .string (⟨#[]⟩ : ByteArray), .string (⟨#[]⟩ : ByteArray), .int .i64 0]) 3 ?_; refine kP (cs := #[.int .i64 t103, .int .i64 0, .int .i64 0, .string (⟨#[]⟩ : ByteArray), .string (⟨#[]⟩ : ByteArray), .string (⟨#[]⟩ : ByteArray), .int .i64 0]) 2 ?_; refine kP (cs := #[.int .i64 t103, .int .i64 0, .int .i64 0, .string (⟨#[]⟩ : ByteArray), .string (⟨#[]⟩ : ByteArray), .string (⟨#[]⟩ : ByteArray), .int .i64 0]) 1 ?_; refine kP (cs := #[.int .i64 0, .int .i64 0, .int .i64 0, .string (⟨#[]⟩ : ByteArray), .string (⟨#[]⟩ : ByteArray), .string (⟨#[]⟩ : ByteArray), .int .i64 0]) 0 ?_; (with_reducible repeat (first | apply kN | apply kD | apply kA)); exact BK107.out) NB107_102.out (by simp)); have _ := AM (hb); have _ := AM (hi); clear BK101 BK107 HB HI102; rename_i BK101 BK107 HB HI102; (try clear hb); (try clear hb2); (try clear hk); (try clear hi); have hcz47 := q7 BK107.out; have hfz47 := fZ BK107.out) | ((with_reducible refine gate_callee (f := 42) rfl ?_); refine goesL_ (some 16) rfl rfl Tryd.func42 (by kernel_rfl) rfl #[.pointer (some ⟨gb102, 0, none⟩)] rfl (by (try simp only [mA, mB, mC]); first | done | rfl | (simp only [mD, mE]; rfl)) ?_; (with_reducible refine (spec_l06Reader_num.calls k gb102 t109 t110 t111 t112 t113 t114 t115 w _ ?side1 ?side2 A4.out).mono ?_); (case side1 => exact (iX62_6_spec_l06Read HI102.out)); (case side2 => exact (bI62_102_spec_l06Read HB.out)); rintro e w48 ⟨rfl, hi, hb, hk⟩; refine ⟨_, rfl, ?_⟩; have _ := AM (KeepBut.blk hk (g' := gb101) (o := .cells #[.int .i64 0, .int .i64 0, .int .i64 0, .string (⟨#[]⟩ : ByteArray), .string (⟨#[]⟩ : ByteArray), .string (⟨#[]⟩ : ByteArray), .int .i64 0] 24 (0, 0)) (by refine kF NB101_107.out ?_; (with_reducible repeat (first | apply kN | apply kD | apply kA)); exact BK101.out) NB101_102.out (by simp)); have _ := AM (KeepBut.blk hk (g' := gb107) (o := .cells #[.int .i64 t103, .int .i64 t108, .int .i64 0, .string (⟨#[]⟩ : ByteArray), .string (⟨#[]⟩ : ByteArray), .string (⟨#[]⟩ : ByteArray), .int .i64 0] 24 (0, 0)) (by refine kP (cs := #[.int .i64 t103, .int .i64 0, .int .i64 0, .string (⟨#[]⟩ : ByteArray), .string (⟨#[]⟩ : ByteArray), .string (⟨#[]⟩ : ByteArray), .int .i64 0]) 1 ?_; (with_reducible repeat (first | apply kN | apply kD | apply kA)); exact BK107.out) NB107_102.out (by simp)); have _ := AM (hb); have _ := AM (hi); clear BK101 BK107 HB HI102; rename_i BK101 BK107 HB HI102; (try clear hb); (try clear hb2); (try clear hk); (try clear hi); have hcz49 := q7 BK107.out; have hfz49 := fZ BK107.out) | ((with_reducible refine gate_callee (f := 43) rfl ?_); refine goesL_ (some 19) rfl rfl Tryd.func43 (by kernel_rfl) rfl #[.pointer (some ⟨gb102, 0, none⟩)] rfl (by (try simp only [mA, mB, mC]); first | done | rfl | (simp only [mD, mE]; rfl)) ?_; (with_reducible refine (spec_l06Reader_text.calls k gb102 t113 t114 t115 t116 t117 t118 t119 w _ ?side1 ?side2 A5.out).mono ?_); (case side1 => exact (iX62_6_spec_l06Read HI102.out)); (case side2 => exact (bI62_102_spec_l06Read HB.out)); rintro e w50 ⟨rfl, hi, hb, hk⟩; refine ⟨_, rfl, ?_⟩; have _ := AM (KeepBut.blk hk (g' := gb101) (o := .cells #[.int .i64 0, .int .i64 0, .int .i64 0, .string (⟨#[]⟩ : ByteArray), .string (⟨#[]⟩ : ByteArray), .string (⟨#[]⟩ : ByteArray), .int .i64 0] 24 (0, 0)) (by refine kF NB101_107.out ?_; (with_reducible repeat (first | apply kN | apply kD | apply kA)); exact BK101.out) NB101_102.out (by simp)); have _ := AM (KeepBut.blk hk (g' := gb107) (o := .cells #[.int .i64 t103, .int .i64 t108, .int .i64 t112, .string (⟨#[]⟩ : ByteArray), .string (⟨#[]⟩ : ByteArray), .string (⟨#[]⟩ : ByteArray), .int .i64 0] 24 (0, 0)) (by refine kP (cs := #[.int .i64 t103, .int .i64 t108, .int .i64 0, .string (⟨#[]⟩ : ByteArray), .string (⟨#[]⟩ : ByteArray), .string (⟨#[]⟩ : ByteArray), .int .i64 0]) 2 ?_; (with_reducible repeat (first | apply kN | apply kD | apply kA)); exact BK107.out) NB107_102.out (by simp)); have _ := AM (hb); have _ := AM (hi); clear BK101 BK107 HB HI102; rename_i BK101 BK107 HB HI102; (try clear hb); (try clear hb2); (try clear hk); (try clear hi); have hcz51 := q7 BK107.out; have hfz51 := fZ BK107.out) | ((with_reducible refine gate_callee (f := 43) rfl ?_); refine goesL_ (some 22) rfl rfl Tryd.func43 (by kernel_rfl) rfl #[.pointer (some ⟨gb102, 0, none⟩)] rfl (by (try simp only [mA, mB, mC]); first | done | rfl | (simp only [mD, mE]; rfl)) ?_; (with_reducible refine (spec_l06Reader_text.calls k gb102 t117 t118 t119 t120 t121 t122 t123 w _ ?side1 ?side2 A6.out).mono ?_); (case side1 => exact (iX62_6_spec_l06Read HI102.out)); (case side2 => exact (bI62_102_spec_l06Read HB.out)); rintro e w52 ⟨rfl, hi, hb, hk⟩; refine ⟨_, rfl, ?_⟩; have _ := AM (KeepBut.blk hk (g' := gb101) (o := .cells #[.int .i64 0, .int .i64 0, .int .i64 0, .string (⟨#[]⟩ : ByteArray), .string (⟨#[]⟩ : ByteArray), .string (⟨#[]⟩ : ByteArray), .int .i64 0] 24 (0, 0)) (by refine kF NB101_107.out ?_; (with_reducible repeat (first | apply kN | apply kD | apply kA)); exact BK101.out) NB101_102.out (by simp)); have _ := AM (KeepBut.blk hk (g' := gb107) (o := .cells #[.int .i64 t103, .int .i64 t108, .int .i64 t112, .string t116, .string (⟨#[]⟩ : ByteArray), .string (⟨#[]⟩ : ByteArray), .int .i64 0] 24 (0, 0)) (by refine kP (cs := #[.int .i64 t103, .int .i64 t108, .int .i64 t112, .string (⟨#[]⟩ : ByteArray), .string (⟨#[]⟩ : ByteArray), .string (⟨#[]⟩ : ByteArray), .int .i64 0]) 3 ?_; (with_reducible repeat (first | apply kN | apply kD | apply kA)); exact BK107.out) NB107_102.out (by simp)); have _ := AM (hb); have _ := AM (hi); clear BK101 BK107 HB HI102; rename_i BK101 BK107 HB HI102; (try clear hb); (try clear hb2); (try clear hk); (try clear hi); have hcz53 := q7 BK107.out; have hfz53 := fZ BK107.out) | ((with_reducible refine gate_callee (f := 43) rfl ?_); refine goesL_ (some 25) rfl rfl Tryd.func43 (by kernel_rfl) rfl #[.pointer (some ⟨gb102, 0, none⟩)] rfl (by (try simp only [mA, mB, mC]); first | done | rfl | (simp only [mD, mE]; rfl)) ?_; (with_reducible refine (spec_l06Reader_text.calls k gb102 t121 t122 t123 t124 t125 t126 t127 w _ ?side1 ?side2 A7.out).mono ?_); (case side1 => exact (iX62_6_spec_l06Read HI102.out)); (case side2 => exact (bI62_102_spec_l06Read HB.out)); rintro e w54 ⟨rfl, hi, hb, hk⟩; refine ⟨_, rfl, ?_⟩; have _ := AM (KeepBut.blk hk (g' := gb101) (o := .cells #[.int .i64 0, .int .i64 0, .int .i64 0, .string (⟨#[]⟩ : ByteArray), .string (⟨#[]⟩ : ByteArray), .string (⟨#[]⟩ : ByteArray), .int .i64 0] 24 (0, 0)) (by refine kF NB101_107.out ?_; (with_reducible repeat (first | apply kN | apply kD | apply kA)); exact BK101.out) NB101_102.out (by simp)); have _ := AM (KeepBut.blk hk (g' := gb107) (o := .cells #[.int .i64 t103, .int .i64 t108, .int .i64 t112, .string t116, .string t120, .string (⟨#[]⟩ : ByteArray), .int .i64 0] 24 (0, 0)) (by refine kP (cs := #[.int .i64 t103, .int .i64 t108, .int .i64 t112, .string t116, .string (⟨#[]⟩ : ByteArray), .string (⟨#[]⟩ : ByteArray), .int .i64 0]) 4 ?_; (with_reducible repeat (first | apply kN | apply kD | apply kA)); exact BK107.out) NB107_102.out (by simp)); have _ := AM (hb); have _ := AM (hi); clear BK101 BK107 HB HI102; rename_i BK101 BK107 HB HI102; (try clear hb); (try clear hb2); (try clear hk); (try clear hi); have hcz55 := q7 BK107.out; have hfz55 := fZ BK107.out) | ((with_reducible refine gate_callee (f := 42) rfl ?_); refine goesL_ (some 28) rfl rfl Tryd.func42 (by kernel_rfl) rfl #[.pointer (some ⟨gb102, 0, none⟩)] rfl (by (try simp only [mA, mB, mC]); first | done | rfl | (simp only [mD, mE]; rfl)) ?_; (with_reducible refine (spec_l06Reader_num.calls k gb102 t125 t126 t127 t128 t129 t130 false w _ ?side1 ?side2 A8.out).mono ?_); (case side1 => exact (iX62_6_spec_l06Read HI102.out)); (case side2 => exact (bI62_102_spec_l06Read HB.out)); rintro e w56 ⟨rfl, hi, hb, hk⟩; refine ⟨_, rfl, ?_⟩; have _ := AM (KeepBut.blk hk (g' := gb101) (o := .cells #[.int .i64 0, .int .i64 0, .int .i64 0, .string (⟨#[]⟩ : ByteArray), .string (⟨#[]⟩ : ByteArray), .string (⟨#[]⟩ : ByteArray), .int .i64 0] 24 (0, 0)) (by refine kF NB101_107.out ?_; (with_reducible repeat (first | apply kN | apply kD | apply kA)); exact BK101.out) NB101_102.out (by simp)); have _ := AM (KeepBut.blk hk (g' := gb107) (o := .cells #[.int .i64 t103, .int .i64 t108, .int .i64 t112, .string t116, .string t120, .string t124, .int .i64 0] 24 (0, 0)) (by refine kP (cs := #[.int .i64 t103, .int .i64 t108, .int .i64 t112, .string t116, .string t120, .string (⟨#[]⟩ : ByteArray), .int .i64 0]) 5 ?_; (with_reducible repeat (first | apply kN | apply kD | apply kA)); exact BK107.out) NB107_102.out (by simp)); have _ := AM (hb); have _ := AM (hi); clear BK101 BK107 HB HI102; rename_i BK101 BK107 HB HI102; (try clear hb); (try clear hb2); (try clear hk); (try clear hi); have hcz57 := q7 BK107.out; have hfz57 := fZ BK107.out))
  have n0_ : Aside0 ((w56.setCell ⟨gb107, 6, none⟩ (.int .i64 t128)).heap[gb101]? = some (.cells #[.int .i64 0, .int .i64 0, .int .i64 0, .string (⟨#[]⟩ : ByteArray), .string (⟨#[]⟩ : ByteArray), .string (⟨#[]⟩ : ByteArray), .int .i64 0] 24 (0, 0))) := ⟨by refine kF NB101_107.out ?_; (with_reducible repeat (first | apply kN | apply kD | apply kA)); exact BK101.out⟩
  have n1_ : Aside0 ((w56.setCell ⟨gb107, 6, none⟩ (.int .i64 t128)).heap[gb107]? = some (.cells #[.int .i64 t103, .int .i64 t108, .int .i64 t112, .string t116, .string t120, .string t124, .int .i64 t128] 24 (0, 0))) := ⟨by refine kP (cs := #[.int .i64 t103, .int .i64 t108, .int .i64 t112, .string t116, .string t120, .string t124, .int .i64 0]) 6 ?_; (with_reducible repeat (first | apply kN | apply kD | apply kA)); exact BK107.out⟩
  have n2_ : Aside0 (IsS62 w (w56.setCell ⟨gb107, 6, none⟩ (.int .i64 t128)) gb102 t129 t130 false) := ⟨iX62_6_spec_l06Read HI102.out⟩
  have n3_ : Aside0 (Below w.heap.size w (w56.setCell ⟨gb107, 6, none⟩ (.int .i64 t128))) := ⟨bI62_102_spec_l06Read HB.out⟩
  (try clear BK101)
  (try clear BK107)
  (try clear HI102)
  (try clear HB)
  generalize (w56.setCell ⟨gb107, 6, none⟩ (.int .i64 t128)) = w58 at n0_ n1_ n2_ n3_ ⊢
  have BK101 := n0_
  have BK107 := n1_
  have HI102 := n2_
  have HB := n3_
  clear n0_ n1_ n2_ n3_
  have _ := AM (kD BK101.out)
  have _ := AM (kD BK107.out)
  have _ := AM (IsS62.drew HI102.out)
  have _ := AM (bD HB.out)
  clear BK101 BK107 HI102 HB
  rename_i BK101 BK107 HI102 HB
  refine start_ (n := 18) (S := fun w' => w'.cell? ⟨gb107, 0, none⟩ = some (.int .i64 t103) ∧ w'.cell? ⟨gb107, 1, none⟩ = some (.int .i64 t108) ∧ w'.cell? ⟨gb107, 2, none⟩ = some (.int .i64 t112) ∧ w'.cell? ⟨gb107, 3, none⟩ = some (.string t116) ∧ w'.cell? ⟨gb107, 4, none⟩ = some (.string t120) ∧ w'.cell? ⟨gb107, 5, none⟩ = some (.string t124) ∧ w'.cell? ⟨gb107, 6, none⟩ = some (.int .i64 t128) ∧ w'.cell? ⟨gb102, 0, none⟩ = some (.string t129) ∧ w'.cell? ⟨gb102, 1, none⟩ = some (.int .i64 t130) ∧ w'.cell? ⟨gb102, 2, none⟩ = some (.bool false)) (ds := []) (upTo 0 18) (by kernel_rfl) rfl rfl ⟨(kC BK107.out 0).trans rfl, (kC BK107.out 1).trans rfl, (kC BK107.out 2).trans rfl, (kC BK107.out 3).trans rfl, (kC BK107.out 4).trans rfl, (kC BK107.out 5).trans rfl, (kC BK107.out 6).trans rfl, (kC (AM HI102.out.1).out 0).trans rfl, (kC (AM HI102.out.1).out 1).trans rfl, (kC (AM HI102.out.1).out 2).trans rfl⟩ (fun hHeld => ?_); refine with_tabW spec_l06Read.tab9 spec_l06Read.bits9 (fun HT_ HW_ => ?_)
  generalize w58.drew = w59 at BK101 BK107 HI102 HB hHeld ⊢
  refine pF2 1 31 spec_l06Read.b0 ?_
  refine pF2 2 32 spec_l06Read.b1 ?_
  refine pF2 3 33 spec_l06Read.b2 ?_
  refine pT2 0 30 (upTo 4 18) ?_ hHeld
  refine pT2 4 34 (upTo 5 18) ?_ hHeld
  refine pF 5 6 18 35 ?_
  refine pF 6 7 18 36 ?_
  refine pF 7 8 18 37 ?_
  refine pF 8 9 18 38 ?_
  refine pF 9 10 18 39 ?_
  refine pF 10 11 18 40 ?_
  refine pU 11 12 18 41 ?_
  refine pU 12 13 18 42 ?_
  refine pU 13 14 18 43 ?_
  refine pU 14 15 18 44 ?_
  refine pF 15 16 18 45 ?_
  refine one_ (i := 16) (N := none) (upTo 17 18) rfl rfl (one_of HT_.out (by kernel_rfl)) (by decide) (fun K hK => ?_)
  have hs60 : w59.cell? ⟨gb101, 0, none⟩ = some (.int .i64 0) := (kC BK101.out 0).trans rfl
  have hfs60 := fZ BK101.out 0
  have hns60_1 := NB107_101.out
  have hms60_1 := NB101_107.out
  have hs61 : w59.cell? ⟨gb101, 1, none⟩ = some (.int .i64 0) := (kC BK101.out 1).trans rfl
  have hfs61 := fZ BK101.out 1
  have hns61_1 := NB107_101.out
  have hms61_1 := NB101_107.out
  have hs62 : w59.cell? ⟨gb101, 2, none⟩ = some (.int .i64 0) := (kC BK101.out 2).trans rfl
  have hfs62 := fZ BK101.out 2
  have hns62_1 := NB107_101.out
  have hms62_1 := NB101_107.out
  have hs63 : w59.cell? ⟨gb101, 3, none⟩ = some (.string (⟨#[]⟩ : ByteArray)) := (kC BK101.out 3).trans rfl
  have hfs63 := fZ BK101.out 3
  have hns63_1 := NB107_101.out
  have hms63_1 := NB101_107.out
  have hs64 : w59.cell? ⟨gb101, 4, none⟩ = some (.string (⟨#[]⟩ : ByteArray)) := (kC BK101.out 4).trans rfl
  have hfs64 := fZ BK101.out 4
  have hns64_1 := NB107_101.out
  have hms64_1 := NB101_107.out
  have hs65 : w59.cell? ⟨gb101, 5, none⟩ = some (.string (⟨#[]⟩ : ByteArray)) := (kC BK101.out 5).trans rfl
  have hfs65 := fZ BK101.out 5
  have hns65_1 := NB107_101.out
  have hms65_1 := NB101_107.out
  have hs66 : w59.cell? ⟨gb101, 6, none⟩ = some (.int .i64 0) := (kC BK101.out 6).trans rfl
  have hfs66 := fZ BK101.out 6
  have hns66_1 := NB107_101.out
  have hms66_1 := NB101_107.out
  refine skip_ (w1 := ?_) (by rfl) rfl ?_ ?_
  rotate_left
  ·
   go_simp
   rfl
  refine hK.out _ _ ⟨(cT NB107_101.out ((cT NB107_101.out ((cT NB107_101.out ((cT NB107_101.out ((cT NB107_101.out ((cT NB107_101.out ((cT NB107_101.out (hHeld.1)))))))))))))), (cT NB107_101.out ((cT NB107_101.out ((cT NB107_101.out ((cT NB107_101.out ((cT NB107_101.out ((cT NB107_101.out ((cT NB107_101.out (hHeld.2.1)))))))))))))), (cT NB107_101.out ((cT NB107_101.out ((cT NB107_101.out ((cT NB107_101.out ((cT NB107_101.out ((cT NB107_101.out ((cT NB107_101.out (hHeld.2.2.1)))))))))))))), (cT NB107_101.out ((cT NB107_101.out ((cT NB107_101.out ((cT NB107_101.out ((cT NB107_101.out ((cT NB107_101.out ((cT NB107_101.out (hHeld.2.2.2.1)))))))))))))), (cT NB107_101.out ((cT NB107_101.out ((cT NB107_101.out ((cT NB107_101.out ((cT NB107_101.out ((cT NB107_101.out ((cT NB107_101.out (hHeld.2.2.2.2.1)))))))))))))), (cT NB107_101.out ((cT NB107_101.out ((cT NB107_101.out ((cT NB107_101.out ((cT NB107_101.out ((cT NB107_101.out ((cT NB107_101.out (hHeld.2.2.2.2.2.1)))))))))))))), (cT NB107_101.out ((cT NB107_101.out ((cT NB107_101.out ((cT NB107_101.out ((cT NB107_101.out ((cT NB107_101.out ((cT NB107_101.out (hHeld.2.2.2.2.2.2.1)))))))))))))), (cT NB102_101.out ((cT NB102_101.out ((cT NB102_101.out ((cT NB102_101.out ((cT NB102_101.out ((cT NB102_101.out ((cT NB102_101.out (hHeld.2.2.2.2.2.2.2.1)))))))))))))), (cT NB102_101.out ((cT NB102_101.out ((cT NB102_101.out ((cT NB102_101.out ((cT NB102_101.out ((cT NB102_101.out ((cT NB102_101.out (hHeld.2.2.2.2.2.2.2.2.1)))))))))))))), (cT NB102_101.out ((cT NB102_101.out ((cT NB102_101.out ((cT NB102_101.out ((cT NB102_101.out ((cT NB102_101.out ((cT NB102_101.out (hHeld.2.2.2.2.2.2.2.2.2))))))))))))))⟩ (fun hHeld => ?_)
  clear hK K
  refine pF 17 18 18 3 ?_
  refine done_ (done_of HT_.out (by kernel_rfl)) ?_
  try go_wp2
  refine bodyPost_ret (results_ct rfl _ _ gb101 24 #[.int .i64 t103, .int .i64 t108, .int .i64 t112, .string t116, .string t120, .string t124, .int .i64 t128] (0, 0) _ rfl (by refine kP (cs := #[.int .i64 t103, .int .i64 t108, .int .i64 t112, .string t116, .string t120, .string t124, .int .i64 0]) 6 ?_; refine kP (cs := #[.int .i64 t103, .int .i64 t108, .int .i64 t112, .string t116, .string t120, .string (⟨#[]⟩ : ByteArray), .int .i64 0]) 5 ?_; refine kP (cs := #[.int .i64 t103, .int .i64 t108, .int .i64 t112, .string t116, .string (⟨#[]⟩ : ByteArray), .string (⟨#[]⟩ : ByteArray), .int .i64 0]) 4 ?_; refine kP (cs := #[.int .i64 t103, .int .i64 t108, .int .i64 t112, .string (⟨#[]⟩ : ByteArray), .string (⟨#[]⟩ : ByteArray), .string (⟨#[]⟩ : ByteArray), .int .i64 0]) 3 ?_; refine kP (cs := #[.int .i64 t103, .int .i64 t108, .int .i64 0, .string (⟨#[]⟩ : ByteArray), .string (⟨#[]⟩ : ByteArray), .string (⟨#[]⟩ : ByteArray), .int .i64 0]) 2 ?_; refine kP (cs := #[.int .i64 t103, .int .i64 0, .int .i64 0, .string (⟨#[]⟩ : ByteArray), .string (⟨#[]⟩ : ByteArray), .string (⟨#[]⟩ : ByteArray), .int .i64 0]) 1 ?_; refine kP (cs := #[.int .i64 0, .int .i64 0, .int .i64 0, .string (⟨#[]⟩ : ByteArray), .string (⟨#[]⟩ : ByteArray), .string (⟨#[]⟩ : ByteArray), .int .i64 0]) 0 ?_; (with_reducible repeat (first | apply kN | apply kD | apply kA)); exact BK101.out) Tryd.underlying24 rfl (by kernel_rfl)) rfl ?_
  exact ⟨by first | rfl | (simp [*, errW_none, errW_some] <;> rfl), bI62_102_spec_l06Read HB.out⟩
 rw [if_neg c38] at H
 have c38b0 : (a0.toList == ([] : List UInt8)) = false := beq_eq_false_iff_ne.mpr c38
 have c38b1 : (a0.toList != ([] : List UInt8)) = true := bne_iff_ne.mpr c38
 replace H := Option.bind_eq_some_iff.mp H
 obtain ⟨t132, A670, H⟩ := H
 replace H : (some (t103, t108, t112, t116, t120, t124, t128, (t132.toList == a0.toList))) = some (r1, r2, r3, r4, r5, r6, r7, r8) := H
 have A67 := AM A670
 clear A670
 simp only [Option.some.injEq, Prod.mk.injEq] at H
 obtain ⟨rfl, rfl, rfl, rfl, rfl, rfl, rfl, rfl⟩ := H
 go_enter Tryd.func30, Tryd.ntmps30
 try go_wp2_with (first | ((with_reducible refine gate_dst (N := 2) rfl ?_); refine box_event (by rfl) (N := 2) (by rfl) (cs := #[.int .i64 0, .int .i64 0, .int .i64 0, .string (⟨#[]⟩ : ByteArray), .string (⟨#[]⟩ : ByteArray), .string (⟨#[]⟩ : ByteArray), .int .i64 0]) (t := 24) (by first | (go_simp; done) | (go_simp; rfl)) ?_; intro gb101 hg w68 hbox hb; have _ := AM (below_step (bX HB.out) hb); have _ := AM (hbox); have n2_ := AM ((by rw [hg]; exact (bZ (bX HB.out)) : w.heap.size ≤ gb101)); clear HB; rename_i HB BK101; have GW101 := n2_; have GE101 := n2_; clear n2_; clear hb hbox hg) | ((with_reducible refine gate_dst (N := 8) rfl ?_); refine box_event (by rfl) (N := 8) (by rfl) (cs := #[.string a0, .int .i64 0, .bool false]) (t := 62) (by first | (go_simp; done) | (go_simp; rfl)) ?_; intro gb102 hg w69 hbox hb; have _ := AM (nB BK101.out hb); have _ := AM (below_step (bX HB.out) hb); have _ := AM ((show IsS62 w w69 gb102 a0 0 false from ⟨hbox, (by rw [hg]; exact (bZ (bX HB.out)) : w.heap.size ≤ gb102)⟩)); have n3_ := AM ((by rw [hg]; exact (bZ (bX HB.out)) : w.heap.size ≤ gb102)); have _ := AM (lX hg BK101.out); have _ := AM (lX hg BK101.out).symm; clear BK101 HB; rename_i BK101 HB HI102 NB101_102 NB102_101; have GW102 := n3_; have GE102 := n3_; clear n3_; clear hb hbox hg) | ((with_reducible refine gate_callee (f := 42) rfl ?_); refine goesL_ (some 10) rfl rfl Tryd.func42 (by kernel_rfl) rfl #[.pointer (some ⟨gb102, 0, none⟩)] rfl (by (try simp only [mA, mB, mC]); first | done | rfl | (simp only [mD, mE]; rfl)) ?_; (with_reducible refine (spec_l06Reader_num.calls k gb102 a0 0 false t103 t104 t105 t106 w _ ?side1 ?side2 A2.out).mono ?_); (case side1 => exact (iX62_6_spec_l06Read HI102.out)); (case side2 => exact (bI62_102_spec_l06Read HB.out)); rintro e w70 ⟨rfl, hi, hb, hk⟩; refine ⟨_, rfl, ?_⟩; have _ := AM (kB hk BK101.out NB101_102.out (by simp)); have _ := AM (hb); have _ := AM (hi); clear BK101 HB HI102; rename_i BK101 HB HI102; (try clear hb); (try clear hb2); (try clear hk); (try clear hi)) | ((with_reducible refine gate_dst (N := 5) rfl ?_); refine box_event (by rfl) (N := 5) (by rfl) (cs := #[.int .i64 0, .int .i64 0, .int .i64 0, .string (⟨#[]⟩ : ByteArray), .string (⟨#[]⟩ : ByteArray), .string (⟨#[]⟩ : ByteArray), .int .i64 0]) (t := 24) (by first | (go_simp; done) | (go_simp; rfl)) ?_; intro gb107 hg w71 hbox hb; have _ := AM (nB BK101.out hb); have _ := AM (IsS62.below (iX62_6_spec_l06Read HI102.out) hb); have _ := AM (below_step (bI62_102_spec_l06Read HB.out) hb); have _ := AM (hbox); have n4_ := AM ((by rw [hg]; exact (bZ (bI62_102_spec_l06Read HB.out)) : w.heap.size ≤ gb107)); have _ := AM (lX hg BK101.out); have _ := AM (lX hg BK101.out).symm; have _ := AM ((by rw [hg]; exact Nat.ne_of_lt (IsS62.lt (show IsS62 w _ gb102 t104 t105 t106 from iX62_6_spec_l06Read HI102.out)) : gb102 ≠ gb107)); have _ := AM ((by rw [hg]; exact Nat.ne_of_gt (IsS62.lt (show IsS62 w _ gb102 t104 t105 t106 from iX62_6_spec_l06Read HI102.out)) : gb107 ≠ gb102)); clear BK101 HI102 HB; rename_i BK101 HI102 HB BK107 NB101_107 NB107_101 NB102_107 NB107_102; have GW107 := n4_; have GE107 := n4_; clear n4_; clear hb hbox hg; have hnb72 := NB107_101.out; have hnc72 := NB101_107.out; have hnb73 := NB107_102.out; have hnc73 := NB102_107.out; have hcz74 := q7 BK107.out; have hfz74 := fZ BK107.out) | ((with_reducible refine gate_callee (f := 42) rfl ?_); refine goesL_ (some 13) rfl rfl Tryd.func42 (by kernel_rfl) rfl #[.pointer (some ⟨gb102, 0, none⟩)] rfl (by (try simp only [mA, mB, mC]); first | done | rfl | (simp only [mD, mE]; rfl)) ?_; (with_reducible refine (spec_l06Reader_num.calls k gb102 t104 t105 t106 t108 t109 t110 t111 w _ ?side1 ?side2 A3.out).mono ?_); (case side1 => exact (iX62_6_spec_l06Read HI102.out)); (case side2 => exact (bI62_102_spec_l06Read HB.out)); rintro e w75 ⟨rfl, hi, hb, hk⟩; refine ⟨_, rfl, ?_⟩; have _ := AM (KeepBut.blk hk (g' := gb101) (o := .cells #[.int .i64 0, .int .i64 0, .int .i64 0, .string (⟨#[]⟩ : ByteArray), .string (⟨#[]⟩ : ByteArray), .string (⟨#[]⟩ : ByteArray), .int .i64 0] 24 (0, 0)) (by (iterate 7 refine kF NB101_107.out ?_); (with_reducible repeat (first | apply kN | apply kD | apply kA)); exact BK101.out) NB101_102.out (by simp)); have _ := AM (KeepBut.blk hk (g' := gb107) (o := .cells #[.int .i64 t103, .int .i64 0, .int .i64 0, .string (⟨#[]⟩ : ByteArray), .string (⟨#[]⟩ : ByteArray), .string (⟨#[]⟩ : ByteArray), .int .i64 0] 24 (0, 0)) (by refine kP (cs := #[.int .i64 t103, .int .i64 0, .int .i64 0, .string (⟨#[]⟩ : ByteArray), .string (⟨#[]⟩ : ByteArray), .string (⟨#[]⟩ : ByteArray), .int .i64 0]) 6 ?_; refine kP (cs := #[.int .i64 t103, .int .i64 0, .int .i64 0, .string (⟨#[]⟩ : ByteArray), .string (⟨#[]⟩ : ByteArray), .string (⟨#[]⟩ : ByteArray), .int .i64 0]) 5 ?_; refine kP (cs := #[.int .i64 t103, .int .i64 0, .int .i64 0, .string (⟨#[]⟩ : ByteArray), .string (⟨#[]⟩ : ByteArray), .string (⟨#[]⟩ : ByteArray), .int .i64 0]) 4 ?_; refine kP (cs := #[.int .i64 t103, .int .i64 0, .int .i64 0, .string (⟨#[]⟩ : ByteArray), .string (⟨#[]⟩ : ByteArray), .string (⟨#[]⟩ : ByteArray), .int .i64 0]) 3 ?_; refine kP (cs := #[.int .i64 t103, .int .i64 0, .int .i64 0, .string (⟨#[]⟩ : ByteArray), .string (⟨#[]⟩ : ByteArray), .string (⟨#[]⟩ : ByteArray), .int .i64 0]) 2 ?_; refine kP (cs := #[.int .i64 t103, .int .i64 0, .int .i64 0, .string (⟨#[]⟩ : ByteArray), .string (⟨#[]⟩ : ByteArray), .string (⟨#[]⟩ : ByteArray), .int .i64 0]) 1 ?_; refine kP (cs := #[.int .i64 0, .int .i64 0, .int .i64 0, .string (⟨#[]⟩ : ByteArray), .string (⟨#[]⟩ : ByteArray), .string (⟨#[]⟩ : ByteArray), .int .i64 0]) 0 ?_; (with_reducible repeat (first | apply kN | apply kD | apply kA)); exact BK107.out) NB107_102.out (by simp)); have _ := AM (hb); have _ := AM (hi); clear BK101 BK107 HB HI102; rename_i BK101 BK107 HB HI102; (try clear hb); (try clear hb2); (try clear hk); (try clear hi); have hcz76 := q7 BK107.out; have hfz76 := fZ BK107.out) | ((with_reducible refine gate_callee (f := 42) rfl ?_); refine goesL_ (some 16) rfl rfl Tryd.func42 (by kernel_rfl) rfl #[.pointer (some ⟨gb102, 0, none⟩)] rfl (by (try simp only [mA, mB, mC]); first | done | rfl | (simp only [mD, mE]; rfl)) ?_; (with_reducible refine (spec_l06Reader_num.calls k gb102 t109 t110 t111 t112 t113 t114 t115 w _ ?side1 ?side2 A4.out).mono ?_); (case side1 => exact (iX62_6_spec_l06Read HI102.out)); (case side2 => exact (bI62_102_spec_l06Read HB.out)); rintro e w77 ⟨rfl, hi, hb, hk⟩; refine ⟨_, rfl, ?_⟩; have _ := AM (KeepBut.blk hk (g' := gb101) (o := .cells #[.int .i64 0, .int .i64 0, .int .i64 0, .string (⟨#[]⟩ : ByteArray), .string (⟨#[]⟩ : ByteArray), .string (⟨#[]⟩ : ByteArray), .int .i64 0] 24 (0, 0)) (by refine kF NB101_107.out ?_; (with_reducible repeat (first | apply kN | apply kD | apply kA)); exact BK101.out) NB101_102.out (by simp)); have _ := AM (KeepBut.blk hk (g' := gb107) (o := .cells #[.int .i64 t103, .int .i64 t108, .int .i64 0, .string (⟨#[]⟩ : ByteArray), .string (⟨#[]⟩ : ByteArray), .string (⟨#[]⟩ : ByteArray), .int .i64 0] 24 (0, 0)) (by refine kP (cs := #[.int .i64 t103, .int .i64 0, .int .i64 0, .string (⟨#[]⟩ : ByteArray), .string (⟨#[]⟩ : ByteArray), .string (⟨#[]⟩ : ByteArray), .int .i64 0]) 1 ?_; (with_reducible repeat (first | apply kN | apply kD | apply kA)); exact BK107.out) NB107_102.out (by simp)); have _ := AM (hb); have _ := AM (hi); clear BK101 BK107 HB HI102; rename_i BK101 BK107 HB HI102; (try clear hb); (try clear hb2); (try clear hk); (try clear hi); have hcz78 := q7 BK107.out; have hfz78 := fZ BK107.out) | ((with_reducible refine gate_callee (f := 43) rfl ?_); refine goesL_ (some 19) rfl rfl Tryd.func43 (by kernel_rfl) rfl #[.pointer (some ⟨gb102, 0, none⟩)] rfl (by (try simp only [mA, mB, mC]); first | done | rfl | (simp only [mD, mE]; rfl)) ?_; (with_reducible refine (spec_l06Reader_text.calls k gb102 t113 t114 t115 t116 t117 t118 t119 w _ ?side1 ?side2 A5.out).mono ?_); (case side1 => exact (iX62_6_spec_l06Read HI102.out)); (case side2 => exact (bI62_102_spec_l06Read HB.out)); rintro e w79 ⟨rfl, hi, hb, hk⟩; refine ⟨_, rfl, ?_⟩; have _ := AM (KeepBut.blk hk (g' := gb101) (o := .cells #[.int .i64 0, .int .i64 0, .int .i64 0, .string (⟨#[]⟩ : ByteArray), .string (⟨#[]⟩ : ByteArray), .string (⟨#[]⟩ : ByteArray), .int .i64 0] 24 (0, 0)) (by refine kF NB101_107.out ?_; (with_reducible repeat (first | apply kN | apply kD | apply kA)); exact BK101.out) NB101_102.out (by simp)); have _ := AM (KeepBut.blk hk (g' := gb107) (o := .cells #[.int .i64 t103, .int .i64 t108, .int .i64 t112, .string (⟨#[]⟩ : ByteArray), .string (⟨#[]⟩ : ByteArray), .string (⟨#[]⟩ : ByteArray), .int .i64 0] 24 (0, 0)) (by refine kP (cs := #[.int .i64 t103, .int .i64 t108, .int .i64 0, .string (⟨#[]⟩ : ByteArray), .string (⟨#[]⟩ : ByteArray), .string (⟨#[]⟩ : ByteArray), .int .i64 0]) 2 ?_; (with_reducible repeat (first | apply kN | apply kD | apply kA)); exact BK107.out) NB107_102.out (by simp)); have _ := AM (hb); have _ := AM (hi); clear BK101 BK107 HB HI102; rename_i BK101 BK107 HB HI102; (try clear hb); (try clear hb2); (try clear hk); (try clear hi); have hcz80 := q7 BK107.out; have hfz80 := fZ BK107.out) | ((with_reducible refine gate_callee (f := 43) rfl ?_); refine goesL_ (some 22) rfl rfl Tryd.func43 (by kernel_rfl) rfl #[.pointer (some ⟨gb102, 0, none⟩)] rfl (by (try simp only [mA, mB, mC]); first | done | rfl | (simp only [mD, mE]; rfl)) ?_; (with_reducible refine (spec_l06Reader_text.calls k gb102 t117 t118 t119 t120 t121 t122 t123 w _ ?side1 ?side2 A6.out).mono ?_); (case side1 => exact (iX62_6_spec_l06Read HI102.out)); (case side2 => exact (bI62_102_spec_l06Read HB.out)); rintro e w81 ⟨rfl, hi, hb, hk⟩; refine ⟨_, rfl, ?_⟩; have _ := AM (KeepBut.blk hk (g' := gb101) (o := .cells #[.int .i64 0, .int .i64 0, .int .i64 0, .string (⟨#[]⟩ : ByteArray), .string (⟨#[]⟩ : ByteArray), .string (⟨#[]⟩ : ByteArray), .int .i64 0] 24 (0, 0)) (by refine kF NB101_107.out ?_; (with_reducible repeat (first | apply kN | apply kD | apply kA)); exact BK101.out) NB101_102.out (by simp)); have _ := AM (KeepBut.blk hk (g' := gb107) (o := .cells #[.int .i64 t103, .int .i64 t108, .int .i64 t112, .string t116, .string (⟨#[]⟩ : ByteArray), .string (⟨#[]⟩ : ByteArray), .int .i64 0] 24 (0, 0)) (by refine kP (cs := #[.int .i64 t103, .int .i64 t108, .int .i64 t112, .string (⟨#[]⟩ : ByteArray), .string (⟨#[]⟩ : ByteArray), .string (⟨#[]⟩ : ByteArray), .int .i64 0]) 3 ?_; (with_reducible repeat (first | apply kN | apply kD | apply kA)); exact BK107.out) NB107_102.out (by simp)); have _ := AM (hb); have _ := AM (hi); clear BK101 BK107 HB HI102; rename_i BK101 BK107 HB HI102; (try clear hb); (try clear hb2); (try clear hk); (try clear hi); have hcz82 := q7 BK107.out; have hfz82 := fZ BK107.out) | ((with_reducible refine gate_callee (f := 43) rfl ?_); refine goesL_ (some 25) rfl rfl Tryd.func43 (by kernel_rfl) rfl #[.pointer (some ⟨gb102, 0, none⟩)] rfl (by (try simp only [mA, mB, mC]); first | done | rfl | (simp only [mD, mE]; rfl)) ?_; (with_reducible refine (spec_l06Reader_text.calls k gb102 t121 t122 t123 t124 t125 t126 t127 w _ ?side1 ?side2 A7.out).mono ?_); (case side1 => exact (iX62_6_spec_l06Read HI102.out)); (case side2 => exact (bI62_102_spec_l06Read HB.out)); rintro e w83 ⟨rfl, hi, hb, hk⟩; refine ⟨_, rfl, ?_⟩; have _ := AM (KeepBut.blk hk (g' := gb101) (o := .cells #[.int .i64 0, .int .i64 0, .int .i64 0, .string (⟨#[]⟩ : ByteArray), .string (⟨#[]⟩ : ByteArray), .string (⟨#[]⟩ : ByteArray), .int .i64 0] 24 (0, 0)) (by refine kF NB101_107.out ?_; (with_reducible repeat (first | apply kN | apply kD | apply kA)); exact BK101.out) NB101_102.out (by simp)); have _ := AM (KeepBut.blk hk (g' := gb107) (o := .cells #[.int .i64 t103, .int .i64 t108, .int .i64 t112, .string t116, .string t120, .string (⟨#[]⟩ : ByteArray), .int .i64 0] 24 (0, 0)) (by refine kP (cs := #[.int .i64 t103, .int .i64 t108, .int .i64 t112, .string t116, .string (⟨#[]⟩ : ByteArray), .string (⟨#[]⟩ : ByteArray), .int .i64 0]) 4 ?_; (with_reducible repeat (first | apply kN | apply kD | apply kA)); exact BK107.out) NB107_102.out (by simp)); have _ := AM (hb); have _ := AM (hi); clear BK101 BK107 HB HI102; rename_i BK101 BK107 HB HI102; (try clear hb); (try clear hb2); (try clear hk); (try clear hi); have hcz84 := q7 BK107.out; have hfz84 := fZ BK107.out) | ((with_reducible refine gate_callee (f := 42) rfl ?_); refine goesL_ (some 28) rfl rfl Tryd.func42 (by kernel_rfl) rfl #[.pointer (some ⟨gb102, 0, none⟩)] rfl (by (try simp only [mA, mB, mC]); first | done | rfl | (simp only [mD, mE]; rfl)) ?_; (with_reducible refine (spec_l06Reader_num.calls k gb102 t125 t126 t127 t128 t129 t130 false w _ ?side1 ?side2 A8.out).mono ?_); (case side1 => exact (iX62_6_spec_l06Read HI102.out)); (case side2 => exact (bI62_102_spec_l06Read HB.out)); rintro e w85 ⟨rfl, hi, hb, hk⟩; refine ⟨_, rfl, ?_⟩; have _ := AM (KeepBut.blk hk (g' := gb101) (o := .cells #[.int .i64 0, .int .i64 0, .int .i64 0, .string (⟨#[]⟩ : ByteArray), .string (⟨#[]⟩ : ByteArray), .string (⟨#[]⟩ : ByteArray), .int .i64 0] 24 (0, 0)) (by refine kF NB101_107.out ?_; (with_reducible repeat (first | apply kN | apply kD | apply kA)); exact BK101.out) NB101_102.out (by simp)); have _ := AM (KeepBut.blk hk (g' := gb107) (o := .cells #[.int .i64 t103, .int .i64 t108, .int .i64 t112, .string t116, .string t120, .string t124, .int .i64 0] 24 (0, 0)) (by refine kP (cs := #[.int .i64 t103, .int .i64 t108, .int .i64 t112, .string t116, .string t120, .string (⟨#[]⟩ : ByteArray), .int .i64 0]) 5 ?_; (with_reducible repeat (first | apply kN | apply kD | apply kA)); exact BK107.out) NB107_102.out (by simp)); have _ := AM (hb); have _ := AM (hi); clear BK101 BK107 HB HI102; rename_i BK101 BK107 HB HI102; (try clear hb); (try clear hb2); (try clear hk); (try clear hi); have hcz86 := q7 BK107.out; have hfz86 := fZ BK107.out))
 have n0_ : Aside0 ((w85.setCell ⟨gb107, 6, none⟩ (.int .i64 t128)).heap[gb101]? = some (.cells #[.int .i64 0, .int .i64 0, .int .i64 0, .string (⟨#[]⟩ : ByteArray), .string (⟨#[]⟩ : ByteArray), .string (⟨#[]⟩ : ByteArray), .int .i64 0] 24 (0, 0))) := ⟨by refine kF NB101_107.out ?_; (with_reducible repeat (first | apply kN | apply kD | apply kA)); exact BK101.out⟩
 have n1_ : Aside0 ((w85.setCell ⟨gb107, 6, none⟩ (.int .i64 t128)).heap[gb107]? = some (.cells #[.int .i64 t103, .int .i64 t108, .int .i64 t112, .string t116, .string t120, .string t124, .int .i64 t128] 24 (0, 0))) := ⟨by refine kP (cs := #[.int .i64 t103, .int .i64 t108, .int .i64 t112, .string t116, .string t120, .string t124, .int .i64 0]) 6 ?_; (with_reducible repeat (first | apply kN | apply kD | apply kA)); exact BK107.out⟩
 have n2_ : Aside0 (IsS62 w (w85.setCell ⟨gb107, 6, none⟩ (.int .i64 t128)) gb102 t129 t130 false) := ⟨iX62_6_spec_l06Read HI102.out⟩
 have n3_ : Aside0 (Below w.heap.size w (w85.setCell ⟨gb107, 6, none⟩ (.int .i64 t128))) := ⟨bI62_102_spec_l06Read HB.out⟩
 (try clear BK101)
 (try clear BK107)
 (try clear HI102)
 (try clear HB)
 generalize (w85.setCell ⟨gb107, 6, none⟩ (.int .i64 t128)) = w87 at n0_ n1_ n2_ n3_ ⊢
 have BK101 := n0_
 have BK107 := n1_
 have HI102 := n2_
 have HB := n3_
 clear n0_ n1_ n2_ n3_
 have _ := AM (kD BK101.out)
 have _ := AM (kD BK107.out)
 have _ := AM (IsS62.drew HI102.out)
 have _ := AM (bD HB.out)
 clear BK101 BK107 HI102 HB
 rename_i BK101 BK107 HI102 HB
 refine start_ (n := 18) (S := fun w' => w'.cell? ⟨gb107, 0, none⟩ = some (.int .i64 t103) ∧ w'.cell? ⟨gb107, 1, none⟩ = some (.int .i64 t108) ∧ w'.cell? ⟨gb107, 2, none⟩ = some (.int .i64 t112) ∧ w'.cell? ⟨gb107, 3, none⟩ = some (.string t116) ∧ w'.cell? ⟨gb107, 4, none⟩ = some (.string t120) ∧ w'.cell? ⟨gb107, 5, none⟩ = some (.string t124) ∧ w'.cell? ⟨gb107, 6, none⟩ = some (.int .i64 t128) ∧ w'.cell? ⟨gb102, 0, none⟩ = some (.string t129) ∧ w'.cell? ⟨gb102, 1, none⟩ = some (.int .i64 t130) ∧ w'.cell? ⟨gb102, 2, none⟩ = some (.bool false)) (ds := []) (upTo 0 18) (by kernel_rfl) rfl rfl ⟨(kC BK107.out 0).trans rfl, (kC BK107.out 1).trans rfl, (kC BK107.out 2).trans rfl, (kC BK107.out 3).trans rfl, (kC BK107.out 4).trans rfl, (kC BK107.out 5).trans rfl, (kC BK107.out 6).trans rfl, (kC (AM HI102.out.1).out 0).trans rfl, (kC (AM HI102.out.1).out 1).trans rfl, (kC (AM HI102.out.1).out 2).trans rfl⟩ (fun hHeld => ?_); refine with_tabW spec_l06Read.tab9 spec_l06Read.bits9 (fun HT_ HW_ => ?_)
 generalize w87.drew = w88 at BK101 BK107 HI102 HB hHeld ⊢
 refine pF2 1 31 spec_l06Read.b0 ?_
 refine pF2 2 32 spec_l06Read.b1 ?_
 refine pF2 3 33 spec_l06Read.b2 ?_
 refine pT2 0 30 (upTo 4 18) ?_ hHeld
 refine pT2 4 34 (upTo 5 18) ?_ hHeld
 refine pF 5 6 18 35 ?_
 refine pF 6 7 18 36 ?_
 refine pF 7 8 18 37 ?_
 refine pF 8 9 18 38 ?_
 refine pF 9 10 18 39 ?_
 refine pF 10 11 18 40 ?_
 refine pF2 13 43 spec_l06Read.b3 ?_
 refine pT2 11 41 spec_l06Read.b4 ?_ hHeld
 refine one_ (i := 12) (N := some 42) (upTo 14 18) rfl rfl (one_of HT_.out (by kernel_rfl)) (by decide) (fun K hK => ?_)
 refine goes_ Tryd.func7 (by kernel_rfl) rfl #[.agg #[.int .i64 t103, .int .i64 t108, .int .i64 t112, .string t116, .string t120, .string t124, .int .i64 t128]] (by rfl) rfl rfl (by (try simp only [mA, mB, mC]); first | done | rfl | (simp only [mD, mE]; rfl)) ?_
 with_reducible refine (spec_CommandBytes.calls k t103 t108 t112 t116 t120 t124 t128 t132 _ A67.out).mono ?_
 rintro e w89 ⟨rfl, hb⟩
 refine ⟨_, rfl, ?_⟩
 have _ := AM (nB BK101.out hb)
 have _ := AM (IsS62.below (iX62_6_spec_l06Read HI102.out) hb)
 have _ := AM (nB BK107.out hb)
 have _ := AM (below_step (bI62_102_spec_l06Read HB.out) hb)
 clear BK101 HI102 BK107 HB
 rename_i BK101 HI102 BK107 HB
 (try clear hb)
 (try clear hb2)
 (try clear hk)
 (try clear hi)
 refine hK.out _ _ ⟨(kC BK107.out 0).trans rfl, (kC BK107.out 1).trans rfl, (kC BK107.out 2).trans rfl, (kC BK107.out 3).trans rfl, (kC BK107.out 4).trans rfl, (kC BK107.out 5).trans rfl, (kC BK107.out 6).trans rfl, (kC (AM HI102.out.1).out 0).trans rfl, (kC (AM HI102.out.1).out 1).trans rfl, (kC (AM HI102.out.1).out 2).trans rfl⟩ (fun hHeld => ?_)
 clear hK K
 refine norm_ (a' := ?_) ?_ ?_
 rotate_left
 ·
  show Act.put _ (some 42) _ = _
  simp only [Act.put, sA, sB, sC, i64_w, i32_w]
  rfl
 refine pF 14 15 18 44 ?_
 refine pF 15 16 18 45 ?_
 refine one_ (i := 16) (N := none) (upTo 17 18) rfl rfl (one_of HT_.out (by kernel_rfl)) (by decide) (fun K hK => ?_)
 have hs90 : w89.cell? ⟨gb101, 0, none⟩ = some (.int .i64 0) := (kC BK101.out 0).trans rfl
 have hfs90 := fZ BK101.out 0
 have hns90_1 := NB107_101.out
 have hms90_1 := NB101_107.out
 have hs91 : w89.cell? ⟨gb101, 1, none⟩ = some (.int .i64 0) := (kC BK101.out 1).trans rfl
 have hfs91 := fZ BK101.out 1
 have hns91_1 := NB107_101.out
 have hms91_1 := NB101_107.out
 have hs92 : w89.cell? ⟨gb101, 2, none⟩ = some (.int .i64 0) := (kC BK101.out 2).trans rfl
 have hfs92 := fZ BK101.out 2
 have hns92_1 := NB107_101.out
 have hms92_1 := NB101_107.out
 have hs93 : w89.cell? ⟨gb101, 3, none⟩ = some (.string (⟨#[]⟩ : ByteArray)) := (kC BK101.out 3).trans rfl
 have hfs93 := fZ BK101.out 3
 have hns93_1 := NB107_101.out
 have hms93_1 := NB101_107.out
 have hs94 : w89.cell? ⟨gb101, 4, none⟩ = some (.string (⟨#[]⟩ : ByteArray)) := (kC BK101.out 4).trans rfl
 have hfs94 := fZ BK101.out 4
 have hns94_1 := NB107_101.out
 have hms94_1 := NB101_107.out
 have hs95 : w89.cell? ⟨gb101, 5, none⟩ = some (.string (⟨#[]⟩ : ByteArray)) := (kC BK101.out 5).trans rfl
 have hfs95 := fZ BK101.out 5
 have hns95_1 := NB107_101.out
 have hms95_1 := NB101_107.out
 have hs96 : w89.cell? ⟨gb101, 6, none⟩ = some (.int .i64 0) := (kC BK101.out 6).trans rfl
 have hfs96 := fZ BK101.out 6
 have hns96_1 := NB107_101.out
 have hms96_1 := NB101_107.out
 refine skip_ (w1 := ?_) (by rfl) rfl ?_ ?_
 rotate_left
 ·
  go_simp
  rfl
 refine hK.out _ _ ⟨(cT NB107_101.out ((cT NB107_101.out ((cT NB107_101.out ((cT NB107_101.out ((cT NB107_101.out ((cT NB107_101.out ((cT NB107_101.out (hHeld.1)))))))))))))), (cT NB107_101.out ((cT NB107_101.out ((cT NB107_101.out ((cT NB107_101.out ((cT NB107_101.out ((cT NB107_101.out ((cT NB107_101.out (hHeld.2.1)))))))))))))), (cT NB107_101.out ((cT NB107_101.out ((cT NB107_101.out ((cT NB107_101.out ((cT NB107_101.out ((cT NB107_101.out ((cT NB107_101.out (hHeld.2.2.1)))))))))))))), (cT NB107_101.out ((cT NB107_101.out ((cT NB107_101.out ((cT NB107_101.out ((cT NB107_101.out ((cT NB107_101.out ((cT NB107_101.out (hHeld.2.2.2.1)))))))))))))), (cT NB107_101.out ((cT NB107_101.out ((cT NB107_101.out ((cT NB107_101.out ((cT NB107_101.out ((cT NB107_101.out ((cT NB107_101.out (hHeld.2.2.2.2.1)))))))))))))), (cT NB107_101.out ((cT NB107_101.out ((cT NB107_101.out ((cT NB107_101.out ((cT NB107_101.out ((cT NB107_101.out ((cT NB107_101.out (hHeld.2.2.2.2.2.1)))))))))))))), (cT NB107_101.out ((cT NB107_101.out ((cT NB107_101.out ((cT NB107_101.out ((cT NB107_101.out ((cT NB107_101.out ((cT NB107_101.out (hHeld.2.2.2.2.2.2.1)))))))))))))), (cT NB102_101.out ((cT NB102_101.out ((cT NB102_101.out ((cT NB102_101.out ((cT NB102_101.out ((cT NB102_101.out ((cT NB102_101.out (hHeld.2.2.2.2.2.2.2.1)))))))))))))), (cT NB102_101.out ((cT NB102_101.out ((cT NB102_101.out ((cT NB102_101.out ((cT NB102_101.out ((cT NB102_101.out ((cT NB102_101.out (hHeld.2.2.2.2.2.2.2.2.1)))))))))))))), (cT NB102_101.out ((cT NB102_101.out ((cT NB102_101.out ((cT NB102_101.out ((cT NB102_101.out ((cT NB102_101.out ((cT NB102_101.out (hHeld.2.2.2.2.2.2.2.2.2))))))))))))))⟩ (fun hHeld => ?_)
 clear hK K
 refine pF 17 18 18 3 ?_
 refine done_ (done_of HT_.out (by kernel_rfl)) ?_
 try go_wp2
 refine bodyPost_ret (results_ct rfl _ _ gb101 24 #[.int .i64 t103, .int .i64 t108, .int .i64 t112, .string t116, .string t120, .string t124, .int .i64 t128] (0, 0) _ rfl (by refine kP (cs := #[.int .i64 t103, .int .i64 t108, .int .i64 t112, .string t116, .string t120, .string t124, .int .i64 0]) 6 ?_; refine kP (cs := #[.int .i64 t103, .int .i64 t108, .int .i64 t112, .string t116, .string t120, .string (⟨#[]⟩ : ByteArray), .int .i64 0]) 5 ?_; refine kP (cs := #[.int .i64 t103, .int .i64 t108, .int .i64 t112, .string t116, .string (⟨#[]⟩ : ByteArray), .string (⟨#[]⟩ : ByteArray), .int .i64 0]) 4 ?_; refine kP (cs := #[.int .i64 t103, .int .i64 t108, .int .i64 t112, .string (⟨#[]⟩ : ByteArray), .string (⟨#[]⟩ : ByteArray), .string (⟨#[]⟩ : ByteArray), .int .i64 0]) 3 ?_; refine kP (cs := #[.int .i64 t103, .int .i64 t108, .int .i64 0, .string (⟨#[]⟩ : ByteArray), .string (⟨#[]⟩ : ByteArray), .string (⟨#[]⟩ : ByteArray), .int .i64 0]) 2 ?_; refine kP (cs := #[.int .i64 t103, .int .i64 0, .int .i64 0, .string (⟨#[]⟩ : ByteArray), .string (⟨#[]⟩ : ByteArray), .string (⟨#[]⟩ : ByteArray), .int .i64 0]) 1 ?_; refine kP (cs := #[.int .i64 0, .int .i64 0, .int .i64 0, .string (⟨#[]⟩ : ByteArray), .string (⟨#[]⟩ : ByteArray), .string (⟨#[]⟩ : ByteArray), .int .i64 0]) 0 ?_; (with_reducible repeat (first | apply kN | apply kD | apply kA)); exact BK101.out) Tryd.underlying24 rfl (by kernel_rfl)) rfl ?_
 exact ⟨by first | rfl | (simp [*, errW_none, errW_some] <;> rfl), bI62_102_spec_l06Read HB.out⟩

/-! ### spec_CommandRead: function 14 -/

def spec_CommandRead.f (k : Nat) (a0 : ByteArray) : Option (Int × Int × Int × ByteArray × ByteArray × ByteArray × Int × Int) := if (a0.size : Int) > 20000 then (some (0, 0, 0, (⟨#[]⟩ : ByteArray), (⟨#[]⟩ : ByteArray), (⟨#[]⟩ : ByteArray), 0, 2)) else ((spec_l06Read.f k a0).bind fun bt102 => (if bt102.2.2.2.2.2.2.2 = true then (some (bt102.1, bt102.2.1, bt102.2.2.1, bt102.2.2.2.1, bt102.2.2.2.2.1, bt102.2.2.2.2.2.1, bt102.2.2.2.2.2.2.1, 0)) else (some (0, 0, 0, (⟨#[]⟩ : ByteArray), (⟨#[]⟩ : ByteArray), (⟨#[]⟩ : ByteArray), 0, 3))))
theorem spec_CommandRead.mono : ∀ a0 k, LeO (spec_CommandRead.f k a0) (spec_CommandRead.f (k + 1) a0) := by
  intro a0 k
  unfold spec_CommandRead.f
  repeat' first
      | (with_reducible exact spec_l06Read.mono _ _)
      | (with_reducible exact LeO.refl _)
      | (with_reducible exact LeO.none _)
      | (with_reducible refine LeO.ite ?_ ?_)
      | (with_reducible refine LeO.bind ?_ (fun _ => ?_))
      | exact spec_l06Read.mono _ _
      | exact LeO.none _
      | refine LeO.ite ?_ ?_
      | refine LeO.bind ?_ (fun _ => ?_)
set_option maxHeartbeats 60000000 in
set_option maxRecDepth 100000 in
theorem spec_CommandRead.calls (k : Nat) (a0 : ByteArray) (r1 : Int) (r2 : Int) (r3 : Int) (r4 : ByteArray) (r5 : ByteArray) (r6 : ByteArray) (r7 : Int) (r8 : Int) (w : World) (h : spec_CommandRead.f k a0 = some (r1, r2, r3, r4, r5, r6, r7, r8)) :
    Calls Tryd.prog 14 #[.string a0] w fun e w' => e = .returned (.agg #[.int .i64 r1, .int .i64 r2, .int .i64 r3, .string r4, .string r5, .string r6, .int .i64 r7, .int .i64 r8]) ∧ Below w.heap.size w w' := by
 have hu31 := Tryd.underlying31
 have hu24 := Tryd.underlying24
 have HB := AM (Below.refl w.heap.size w)
 have H : (if (a0.size : Int) > 20000 then (some (0, 0, 0, (⟨#[]⟩ : ByteArray), (⟨#[]⟩ : ByteArray), (⟨#[]⟩ : ByteArray), 0, 2)) else ((spec_l06Read.f k a0).bind fun bt102 => (if bt102.2.2.2.2.2.2.2 = true then (some (bt102.1, bt102.2.1, bt102.2.2.1, bt102.2.2.2.1, bt102.2.2.2.2.1, bt102.2.2.2.2.2.1, bt102.2.2.2.2.2.2.1, 0)) else (some (0, 0, 0, (⟨#[]⟩ : ByteArray), (⟨#[]⟩ : ByteArray), (⟨#[]⟩ : ByteArray), 0, 3))))) = some (r1, r2, r3, r4, r5, r6, r7, r8) := h
 clear h
 by_cases c2 : (a0.size : Int) > 20000
 ·
  rw [if_pos c2] at H
  have c2b0 : decide (20000 < (a0.size : Int)) = true := decide_eq_true c2
  have c2b1 : decide (20000 < a0.size) = true := decide_eq_true (by omega)
  clear c2
  simp only [Option.some.injEq, Prod.mk.injEq] at H
  obtain ⟨rfl, rfl, rfl, rfl, rfl, rfl, rfl, rfl⟩ := H
  go_enter Tryd.func14, Tryd.ntmps14
  go_wp2_with (first | ((with_reducible refine gate_dst (N := 2) rfl ?_); refine box_event (by rfl) (N := 2) (by rfl) (cs := #[.int .i64 0, .int .i64 0, .int .i64 0, .string (⟨#[]⟩ : ByteArray), .string (⟨#[]⟩ : ByteArray), .string (⟨#[]⟩ : ByteArray), .int .i64 0, .int .i64 0]) (t := 31) (by first | (go_simp; done) | (go_simp; rfl)) ?_; intro gb101 hg w3 hbox hb; have _ := AM (below_step (bX HB.out) hb); have _ := AM (hbox); have n2_ := AM ((by rw [hg]; exact (bZ (bX HB.out)) : w.heap.size ≤ gb101)); clear HB; rename_i HB BK101; have GW101 := n2_; have GE101 := n2_; clear n2_; clear hb hbox hg; have hcz4 := q8 BK101.out; have hfz4 := fZ BK101.out))
  refine bodyPost_ret (results_cell_row rfl _ _ gb101 31 #[.int .i64 0, .int .i64 0, .int .i64 0, .string (⟨#[]⟩ : ByteArray), .string (⟨#[]⟩ : ByteArray), .string (⟨#[]⟩ : ByteArray), .int .i64 0, .int .i64 2] (0, 0) _ rfl (by refine kP (cs := #[.int .i64 0, .int .i64 0, .int .i64 0, .string (⟨#[]⟩ : ByteArray), .string (⟨#[]⟩ : ByteArray), .string (⟨#[]⟩ : ByteArray), .int .i64 0, .int .i64 0]) 7 ?_; refine kP (cs := #[.int .i64 0, .int .i64 0, .int .i64 0, .string (⟨#[]⟩ : ByteArray), .string (⟨#[]⟩ : ByteArray), .string (⟨#[]⟩ : ByteArray), .int .i64 0, .int .i64 0]) 6 ?_; refine kP (cs := #[.int .i64 0, .int .i64 0, .int .i64 0, .string (⟨#[]⟩ : ByteArray), .string (⟨#[]⟩ : ByteArray), .string (⟨#[]⟩ : ByteArray), .int .i64 0, .int .i64 0]) 5 ?_; refine kP (cs := #[.int .i64 0, .int .i64 0, .int .i64 0, .string (⟨#[]⟩ : ByteArray), .string (⟨#[]⟩ : ByteArray), .string (⟨#[]⟩ : ByteArray), .int .i64 0, .int .i64 0]) 4 ?_; refine kP (cs := #[.int .i64 0, .int .i64 0, .int .i64 0, .string (⟨#[]⟩ : ByteArray), .string (⟨#[]⟩ : ByteArray), .string (⟨#[]⟩ : ByteArray), .int .i64 0, .int .i64 0]) 3 ?_; refine kP (cs := #[.int .i64 0, .int .i64 0, .int .i64 0, .string (⟨#[]⟩ : ByteArray), .string (⟨#[]⟩ : ByteArray), .string (⟨#[]⟩ : ByteArray), .int .i64 0, .int .i64 0]) 2 ?_; refine kP (cs := #[.int .i64 0, .int .i64 0, .int .i64 0, .string (⟨#[]⟩ : ByteArray), .string (⟨#[]⟩ : ByteArray), .string (⟨#[]⟩ : ByteArray), .int .i64 0, .int .i64 0]) 1 ?_; refine kP (cs := #[.int .i64 0, .int .i64 0, .int .i64 0, .string (⟨#[]⟩ : ByteArray), .string (⟨#[]⟩ : ByteArray), .string (⟨#[]⟩ : ByteArray), .int .i64 0, .int .i64 0]) 0 ?_; (with_reducible repeat (first | apply kN | apply kD | apply kA)); exact BK101.out) Tryd.underlying31 rfl (by kernel_rfl)) rfl ?_
  exact ⟨by first | rfl | (simp [*, errW_none, errW_some] <;> rfl), bX HB.out⟩
 rw [if_neg c2] at H
 have c2b0 : decide (20000 < (a0.size : Int)) = false := decide_eq_false c2
 have c2b1 : decide (20000 < a0.size) = false := decide_eq_false (by omega)
 clear c2
 replace H := Option.bind_eq_some_iff.mp H
 obtain ⟨⟨t102, t103, t104, t105, t106, t107, t108, t109⟩, A50, H⟩ := H
 try dsimp only at H
 have A5 := AM A50
 clear A50
 by_cases c6 : t109 = true
 ·
  subst c6
  have H1 : (some (t102, t103, t104, t105, t106, t107, t108, 0)) = some (r1, r2, r3, r4, r5, r6, r7, r8) := by rw [if_pos rfl] at H; exact H
  clear H
  have H := H1
  clear H1
  simp only [Option.some.injEq, Prod.mk.injEq] at H
  obtain ⟨rfl, rfl, rfl, rfl, rfl, rfl, rfl, rfl⟩ := H
  go_enter Tryd.func14, Tryd.ntmps14
  go_wp2_with (first | ((with_reducible refine gate_dst (N := 2) rfl ?_); refine box_event (by rfl) (N := 2) (by rfl) (cs := #[.int .i64 0, .int .i64 0, .int .i64 0, .string (⟨#[]⟩ : ByteArray), .string (⟨#[]⟩ : ByteArray), .string (⟨#[]⟩ : ByteArray), .int .i64 0, .int .i64 0]) (t := 31) (by first | (go_simp; done) | (go_simp; rfl)) ?_; intro gb101 hg w7 hbox hb; have _ := AM (below_step (bX HB.out) hb); have _ := AM (hbox); have n2_ := AM ((by rw [hg]; exact (bZ (bX HB.out)) : w.heap.size ≤ gb101)); clear HB; rename_i HB BK101; have GW101 := n2_; have GE101 := n2_; clear n2_; clear hb hbox hg) | ((with_reducible refine gate_callee (f := 30) rfl ?_); refine goesL_ (some 11) rfl rfl Tryd.func30 (by kernel_rfl) rfl #[.string a0] rfl (by (try simp only [mA, mB, mC]); first | done | rfl | (simp only [mD, mE]; rfl)) ?_; (with_reducible refine (spec_l06Read.calls k a0 t102 t103 t104 t105 t106 t107 t108 true _ A5.out).mono ?_); rintro e w8 ⟨rfl, hb⟩; refine ⟨_, rfl, ?_⟩; have _ := AM (nB BK101.out hb); have _ := AM (below_step (bX HB.out) hb); clear BK101 HB; rename_i BK101 HB; (try clear hb); (try clear hk)) | ((with_reducible refine gate_dst (N := 3) rfl ?_); refine box_event (by rfl) (N := 3) (by rfl) (cs := #[.int .i64 0, .int .i64 0, .int .i64 0, .string (⟨#[]⟩ : ByteArray), .string (⟨#[]⟩ : ByteArray), .string (⟨#[]⟩ : ByteArray), .int .i64 0]) (t := 24) (by first | (go_simp; done) | (go_simp; rfl)) ?_; intro gb110 hg w9 hbox hb; have _ := AM (nB BK101.out hb); have _ := AM (below_step (bX HB.out) hb); have _ := AM (hbox); have n3_ := AM ((by rw [hg]; exact (bZ (bX HB.out)) : w.heap.size ≤ gb110)); have _ := AM (lX hg BK101.out); have _ := AM (lX hg BK101.out).symm; clear BK101 HB; rename_i BK101 HB BK110 NB101_110 NB110_101; have GW110 := n3_; have GE110 := n3_; clear n3_; clear hb hbox hg; have hnb10 := NB110_101.out; have hnc10 := NB101_110.out; have hcz11 := q7 BK110.out; have hfz11 := fZ BK110.out; have hcz12 := q8 BK101.out; have hfz12 := fZ BK101.out))
  refine bodyPost_ret (results_cell_row rfl _ _ gb101 31 #[.int .i64 t102, .int .i64 t103, .int .i64 t104, .string t105, .string t106, .string t107, .int .i64 t108, .int .i64 0] (0, 0) _ rfl (by refine kP (cs := #[.int .i64 t102, .int .i64 t103, .int .i64 t104, .string t105, .string t106, .string t107, .int .i64 t108, .int .i64 0]) 7 ?_; refine kP (cs := #[.int .i64 t102, .int .i64 t103, .int .i64 t104, .string t105, .string t106, .string t107, .int .i64 0, .int .i64 0]) 6 ?_; refine kP (cs := #[.int .i64 t102, .int .i64 t103, .int .i64 t104, .string t105, .string t106, .string (⟨#[]⟩ : ByteArray), .int .i64 0, .int .i64 0]) 5 ?_; refine kP (cs := #[.int .i64 t102, .int .i64 t103, .int .i64 t104, .string t105, .string (⟨#[]⟩ : ByteArray), .string (⟨#[]⟩ : ByteArray), .int .i64 0, .int .i64 0]) 4 ?_; refine kP (cs := #[.int .i64 t102, .int .i64 t103, .int .i64 t104, .string (⟨#[]⟩ : ByteArray), .string (⟨#[]⟩ : ByteArray), .string (⟨#[]⟩ : ByteArray), .int .i64 0, .int .i64 0]) 3 ?_; refine kP (cs := #[.int .i64 t102, .int .i64 t103, .int .i64 0, .string (⟨#[]⟩ : ByteArray), .string (⟨#[]⟩ : ByteArray), .string (⟨#[]⟩ : ByteArray), .int .i64 0, .int .i64 0]) 2 ?_; refine kP (cs := #[.int .i64 t102, .int .i64 0, .int .i64 0, .string (⟨#[]⟩ : ByteArray), .string (⟨#[]⟩ : ByteArray), .string (⟨#[]⟩ : ByteArray), .int .i64 0, .int .i64 0]) 1 ?_; refine kP (cs := #[.int .i64 0, .int .i64 0, .int .i64 0, .string (⟨#[]⟩ : ByteArray), .string (⟨#[]⟩ : ByteArray), .string (⟨#[]⟩ : ByteArray), .int .i64 0, .int .i64 0]) 0 ?_; (iterate 7 refine kF NB101_110.out ?_); (with_reducible repeat (first | apply kN | apply kD | apply kA)); exact BK101.out) Tryd.underlying31 rfl (by kernel_rfl)) rfl ?_
  exact ⟨by first | rfl | (simp [*, errW_none, errW_some] <;> rfl), bX HB.out⟩
 replace c6 := Bool.eq_false_iff.mpr c6
 subst c6
 have H1 : (some (0, 0, 0, (⟨#[]⟩ : ByteArray), (⟨#[]⟩ : ByteArray), (⟨#[]⟩ : ByteArray), 0, 3)) = some (r1, r2, r3, r4, r5, r6, r7, r8) := by rw [if_neg (show ¬ (false = true) by decide)] at H; exact H
 clear H
 have H := H1
 clear H1
 simp only [Option.some.injEq, Prod.mk.injEq] at H
 obtain ⟨rfl, rfl, rfl, rfl, rfl, rfl, rfl, rfl⟩ := H
 go_enter Tryd.func14, Tryd.ntmps14
 go_wp2_with (first | ((with_reducible refine gate_dst (N := 2) rfl ?_); refine box_event (by rfl) (N := 2) (by rfl) (cs := #[.int .i64 0, .int .i64 0, .int .i64 0, .string (⟨#[]⟩ : ByteArray), .string (⟨#[]⟩ : ByteArray), .string (⟨#[]⟩ : ByteArray), .int .i64 0, .int .i64 0]) (t := 31) (by first | (go_simp; done) | (go_simp; rfl)) ?_; intro gb101 hg w13 hbox hb; have _ := AM (below_step (bX HB.out) hb); have _ := AM (hbox); have n2_ := AM ((by rw [hg]; exact (bZ (bX HB.out)) : w.heap.size ≤ gb101)); clear HB; rename_i HB BK101; have GW101 := n2_; have GE101 := n2_; clear n2_; clear hb hbox hg) | ((with_reducible refine gate_callee (f := 30) rfl ?_); refine goesL_ (some 11) rfl rfl Tryd.func30 (by kernel_rfl) rfl #[.string a0] rfl (by (try simp only [mA, mB, mC]); first | done | rfl | (simp only [mD, mE]; rfl)) ?_; (with_reducible refine (spec_l06Read.calls k a0 t102 t103 t104 t105 t106 t107 t108 false _ A5.out).mono ?_); rintro e w14 ⟨rfl, hb⟩; refine ⟨_, rfl, ?_⟩; have _ := AM (nB BK101.out hb); have _ := AM (below_step (bX HB.out) hb); clear BK101 HB; rename_i BK101 HB; (try clear hb); (try clear hk)) | ((with_reducible refine gate_dst (N := 3) rfl ?_); refine box_event (by rfl) (N := 3) (by rfl) (cs := #[.int .i64 0, .int .i64 0, .int .i64 0, .string (⟨#[]⟩ : ByteArray), .string (⟨#[]⟩ : ByteArray), .string (⟨#[]⟩ : ByteArray), .int .i64 0]) (t := 24) (by first | (go_simp; done) | (go_simp; rfl)) ?_; intro gb110 hg w15 hbox hb; have _ := AM (nB BK101.out hb); have _ := AM (below_step (bX HB.out) hb); have _ := AM (hbox); have n3_ := AM ((by rw [hg]; exact (bZ (bX HB.out)) : w.heap.size ≤ gb110)); have _ := AM (lX hg BK101.out); have _ := AM (lX hg BK101.out).symm; clear BK101 HB; rename_i BK101 HB BK110 NB101_110 NB110_101; have GW110 := n3_; have GE110 := n3_; clear n3_; clear hb hbox hg; have hnb16 := NB110_101.out; have hnc16 := NB101_110.out; have hcz17 := q7 BK110.out; have hfz17 := fZ BK110.out; have hcz18 := q8 BK101.out; have hfz18 := fZ BK101.out))
 refine bodyPost_ret (results_cell_row rfl _ _ gb101 31 #[.int .i64 0, .int .i64 0, .int .i64 0, .string (⟨#[]⟩ : ByteArray), .string (⟨#[]⟩ : ByteArray), .string (⟨#[]⟩ : ByteArray), .int .i64 0, .int .i64 3] (0, 0) _ rfl (by refine kP (cs := #[.int .i64 0, .int .i64 0, .int .i64 0, .string (⟨#[]⟩ : ByteArray), .string (⟨#[]⟩ : ByteArray), .string (⟨#[]⟩ : ByteArray), .int .i64 0, .int .i64 0]) 7 ?_; refine kP (cs := #[.int .i64 0, .int .i64 0, .int .i64 0, .string (⟨#[]⟩ : ByteArray), .string (⟨#[]⟩ : ByteArray), .string (⟨#[]⟩ : ByteArray), .int .i64 0, .int .i64 0]) 6 ?_; refine kP (cs := #[.int .i64 0, .int .i64 0, .int .i64 0, .string (⟨#[]⟩ : ByteArray), .string (⟨#[]⟩ : ByteArray), .string (⟨#[]⟩ : ByteArray), .int .i64 0, .int .i64 0]) 5 ?_; refine kP (cs := #[.int .i64 0, .int .i64 0, .int .i64 0, .string (⟨#[]⟩ : ByteArray), .string (⟨#[]⟩ : ByteArray), .string (⟨#[]⟩ : ByteArray), .int .i64 0, .int .i64 0]) 4 ?_; refine kP (cs := #[.int .i64 0, .int .i64 0, .int .i64 0, .string (⟨#[]⟩ : ByteArray), .string (⟨#[]⟩ : ByteArray), .string (⟨#[]⟩ : ByteArray), .int .i64 0, .int .i64 0]) 3 ?_; refine kP (cs := #[.int .i64 0, .int .i64 0, .int .i64 0, .string (⟨#[]⟩ : ByteArray), .string (⟨#[]⟩ : ByteArray), .string (⟨#[]⟩ : ByteArray), .int .i64 0, .int .i64 0]) 2 ?_; refine kP (cs := #[.int .i64 0, .int .i64 0, .int .i64 0, .string (⟨#[]⟩ : ByteArray), .string (⟨#[]⟩ : ByteArray), .string (⟨#[]⟩ : ByteArray), .int .i64 0, .int .i64 0]) 1 ?_; refine kP (cs := #[.int .i64 0, .int .i64 0, .int .i64 0, .string (⟨#[]⟩ : ByteArray), .string (⟨#[]⟩ : ByteArray), .string (⟨#[]⟩ : ByteArray), .int .i64 0, .int .i64 0]) 0 ?_; (iterate 7 refine kF NB101_110.out ?_); (with_reducible repeat (first | apply kN | apply kD | apply kA)); exact BK101.out) Tryd.underlying31 rfl (by kernel_rfl)) rfl ?_
 exact ⟨by first | rfl | (simp [*, errW_none, errW_some] <;> rfl), bX HB.out⟩

end Go.Proofs.YtbediildfabhnaaDoor.Q
