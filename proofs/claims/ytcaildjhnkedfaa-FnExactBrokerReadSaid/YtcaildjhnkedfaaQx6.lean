/- Printed by wip/mp.py: functions as plain Lean functions, and their calls. -/
import Derived.Test.YtcaildjhnkedfaaQx0
import Derived.Test.YtcaildjhnkedfaaQx3
import Derived.Test.YtcaildjhnkedfaaQx4
import Derived.Test.YtcaildjhnkedfaaQx5
namespace Go.Proofs.Ytcaildjhnkedfaa.Q
open Go.RowKit Go.Proofs.Ytcaildjhnkedfaa.HB Go.Proofs.YtcaildjhnkedfaaW.PrintWords Go.Proofs.YtcaildjhnkedfaaW.PrintLast Go.Proofs.YtcaildjhnkedfaaW.PrintMore
attribute [local go_sem] max2_int min2_int max_two min_two max_three min_three max_four min_four   -- for this text's walks alone
set_option linter.unusedVariables false
set_option linter.unusedSimpArgs false

/-! ### spec_BrokerRead: function 5 -/
abbrev spec_BrokerRead.b0 : Array Bool := #[true, false, true, false, false, false, false, false]
mutual
def spec_BrokerRead.j1 : Nat → ByteArray → ByteArray → Int → Bool → List (S44) → Option ((List (S44)) × (List (S48)) × ByteArray × Int)
  | 0, _, _, _, _, _ => none
  | k + 1, x0, x103000, x103001, x103002, x104000 => (spec_l06Reader_many.f k x103000 x103001 x103002 9).bind fun bt122 => (spec_BrokerRead.l1 k x0 bt122.1 bt122.2.1 bt122.2.2.1 bt122.2.2.2 x104000 ([] : List (S48)))
def spec_BrokerRead.l1 : Nat → ByteArray → Int → ByteArray → Int → Bool → List (S44) → List (S48) → Option ((List (S44)) × (List (S48)) × ByteArray × Int)
  | 0, _, _, _, _, _, _, _ => none
  | k + 1, x0, x6, x103000, x103001, x103002, x104000, x104001 => if x6 > 0 then (spec_BrokerRead.j3 k x0 x6 (!x103002) x103000 x103001 x103002 x104000 x104001) else (spec_BrokerRead.j3 k x0 x6 false x103000 x103001 x103002 x104000 x104001)
def spec_BrokerRead.j3 : Nat → ByteArray → Int → Bool → ByteArray → Int → Bool → List (S44) → List (S48) → Option ((List (S44)) × (List (S48)) × ByteArray × Int)
  | 0, _, _, _, _, _, _, _, _ => none
  | k + 1, x0, x6, x46, x103000, x103001, x103002, x104000, x104001 => if x46 = true then ((spec_l06Reader_num.f k x103000 x103001 x103002).bind fun bt126 => ((spec_l06Reader_num.f k bt126.2.1 bt126.2.2.1 bt126.2.2.2).bind fun bt131 => ((spec_l06Reader_text.f k bt131.2.1 bt131.2.2.1 bt131.2.2.2).bind fun bt135 => (if x104001.length < 4398046511104 then (spec_BrokerRead.l1 k x0 (wrap64 (x6 - 1)) bt135.2.1 bt135.2.2.1 bt135.2.2.2 x104000 (x104001 ++ [(⟨bt126.1, bt131.1, bt135.1⟩ : S48)])) else (none))))) else (if x103002 = true then (some (([] : List (S44)), ([] : List (S48)), (⟨#[]⟩ : ByteArray), 3)) else (if x0.toList = ([] : List UInt8) then (some (([] : List (S44)), ([] : List (S48)), (⟨#[]⟩ : ByteArray), 3)) else ((spec_BrokerBytes.f k x104000 x104001).bind fun t142 => (if t142.toList = x0.toList then (some (x104000, x104001, (⟨#[]⟩ : ByteArray), 0)) else (some (([] : List (S44)), ([] : List (S48)), (⟨#[]⟩ : ByteArray), 3))))))
def spec_BrokerRead.l0 : Nat → ByteArray → Int → ByteArray → Int → Bool → List (S44) → Option ((List (S44)) × (List (S48)) × ByteArray × Int)
  | 0, _, _, _, _, _, _ => none
  | k + 1, x0, x5, x103000, x103001, x103002, x104000 => if x5 > 0 then (if x103002 = true then (spec_BrokerRead.j1 k x0 x103000 x103001 x103002 x104000) else ((spec_l06Reader_topic.f k x103000 x103001 x103002).bind fun bt108 => (if x104000.length < 1954687338268 then (spec_BrokerRead.l0 k x0 (wrap64 (x5 - 1)) bt108.2.2.2.2.1 bt108.2.2.2.2.2.1 bt108.2.2.2.2.2.2 (x104000 ++ [(⟨bt108.1, bt108.2.1, bt108.2.2.1, bt108.2.2.2.1⟩ : S44)])) else (none)))) else (spec_BrokerRead.j1 k x0 x103000 x103001 x103002 x104000)
end
def spec_BrokerRead.f (k : Nat) (a0 : ByteArray) : Option ((List (S44)) × (List (S48)) × ByteArray × Int) := if (a0.size : Int) > 20000 then (some (([] : List (S44)), ([] : List (S48)), (⟨#[]⟩ : ByteArray), 2)) else ((spec_l06Reader_many.f k a0 0 false 4).bind fun bt104 => (spec_BrokerRead.l0 k a0 bt104.1 bt104.2.1 bt104.2.2.1 bt104.2.2.2 ([] : List (S44))))
theorem spec_BrokerRead.mono_l : ∀ k, (∀ y0 y1 y2 y3 y4, LeO (spec_BrokerRead.j1 k y0 y1 y2 y3 y4) (spec_BrokerRead.j1 (k + 1) y0 y1 y2 y3 y4)) ∧ (∀ y0 y1 y2 y3 y4 y5 y6, LeO (spec_BrokerRead.l1 k y0 y1 y2 y3 y4 y5 y6) (spec_BrokerRead.l1 (k + 1) y0 y1 y2 y3 y4 y5 y6)) ∧ (∀ y0 y1 y2 y3 y4 y5 y6 y7, LeO (spec_BrokerRead.j3 k y0 y1 y2 y3 y4 y5 y6 y7) (spec_BrokerRead.j3 (k + 1) y0 y1 y2 y3 y4 y5 y6 y7)) ∧ (∀ y0 y1 y2 y3 y4 y5, LeO (spec_BrokerRead.l0 k y0 y1 y2 y3 y4 y5) (spec_BrokerRead.l0 (k + 1) y0 y1 y2 y3 y4 y5))
  | 0 => ⟨fun _ _ _ _ _ r h => by simp [spec_BrokerRead.j1] at h, fun _ _ _ _ _ _ _ r h => by simp [spec_BrokerRead.l1] at h, fun _ _ _ _ _ _ _ _ r h => by simp [spec_BrokerRead.j3] at h, fun _ _ _ _ _ _ r h => by simp [spec_BrokerRead.l0] at h⟩
  | k + 1 => by
    obtain ⟨ih0, ih1, ih2, ih3⟩ := spec_BrokerRead.mono_l k; refine ⟨?_, ?_, ?_, ?_⟩
    · intro y0 y1 y2 y3 y4
      unfold spec_BrokerRead.j1
      repeat' first | (with_reducible first | exact ih0 _ _ _ _ _ | exact ih1 _ _ _ _ _ _ _ | exact ih2 _ _ _ _ _ _ _ _ | exact ih3 _ _ _ _ _ _ | exact spec_BrokerBytes.mono _ _ _ | exact spec_l06Reader_many.mono _ _ _ _ _ | exact spec_l06Reader_num.mono _ _ _ _ | exact spec_l06Reader_text.mono _ _ _ _ | exact spec_l06Reader_topic.mono _ _ _ _ | exact oR _ | exact oN _ | refine oI ?_ ?_ | refine oB ?_ fun _ => ?_) | exact ih0 _ _ _ _ _ | exact ih1 _ _ _ _ _ _ _ | exact ih2 _ _ _ _ _ _ _ _ | exact ih3 _ _ _ _ _ _ | exact spec_BrokerBytes.mono _ _ _ | exact spec_l06Reader_many.mono _ _ _ _ _ | exact spec_l06Reader_num.mono _ _ _ _ | exact spec_l06Reader_text.mono _ _ _ _ | exact spec_l06Reader_topic.mono _ _ _ _ | exact oN _ | refine oI ?_ ?_ | refine oB ?_ fun _ => ?_
    · intro y0 y1 y2 y3 y4 y5 y6
      unfold spec_BrokerRead.l1
      repeat' first | (with_reducible first | exact ih0 _ _ _ _ _ | exact ih1 _ _ _ _ _ _ _ | exact ih2 _ _ _ _ _ _ _ _ | exact ih3 _ _ _ _ _ _ | exact spec_BrokerBytes.mono _ _ _ | exact spec_l06Reader_many.mono _ _ _ _ _ | exact spec_l06Reader_num.mono _ _ _ _ | exact spec_l06Reader_text.mono _ _ _ _ | exact spec_l06Reader_topic.mono _ _ _ _ | exact oR _ | exact oN _ | refine oI ?_ ?_ | refine oB ?_ fun _ => ?_) | exact ih0 _ _ _ _ _ | exact ih1 _ _ _ _ _ _ _ | exact ih2 _ _ _ _ _ _ _ _ | exact ih3 _ _ _ _ _ _ | exact spec_BrokerBytes.mono _ _ _ | exact spec_l06Reader_many.mono _ _ _ _ _ | exact spec_l06Reader_num.mono _ _ _ _ | exact spec_l06Reader_text.mono _ _ _ _ | exact spec_l06Reader_topic.mono _ _ _ _ | exact oN _ | refine oI ?_ ?_ | refine oB ?_ fun _ => ?_
    · intro y0 y1 y2 y3 y4 y5 y6 y7
      unfold spec_BrokerRead.j3
      repeat' first | (with_reducible first | exact ih0 _ _ _ _ _ | exact ih1 _ _ _ _ _ _ _ | exact ih2 _ _ _ _ _ _ _ _ | exact ih3 _ _ _ _ _ _ | exact spec_BrokerBytes.mono _ _ _ | exact spec_l06Reader_many.mono _ _ _ _ _ | exact spec_l06Reader_num.mono _ _ _ _ | exact spec_l06Reader_text.mono _ _ _ _ | exact spec_l06Reader_topic.mono _ _ _ _ | exact oR _ | exact oN _ | refine oI ?_ ?_ | refine oB ?_ fun _ => ?_) | exact ih0 _ _ _ _ _ | exact ih1 _ _ _ _ _ _ _ | exact ih2 _ _ _ _ _ _ _ _ | exact ih3 _ _ _ _ _ _ | exact spec_BrokerBytes.mono _ _ _ | exact spec_l06Reader_many.mono _ _ _ _ _ | exact spec_l06Reader_num.mono _ _ _ _ | exact spec_l06Reader_text.mono _ _ _ _ | exact spec_l06Reader_topic.mono _ _ _ _ | exact oN _ | refine oI ?_ ?_ | refine oB ?_ fun _ => ?_
    · intro y0 y1 y2 y3 y4 y5
      unfold spec_BrokerRead.l0
      repeat' first | (with_reducible first | exact ih0 _ _ _ _ _ | exact ih1 _ _ _ _ _ _ _ | exact ih2 _ _ _ _ _ _ _ _ | exact ih3 _ _ _ _ _ _ | exact spec_BrokerBytes.mono _ _ _ | exact spec_l06Reader_many.mono _ _ _ _ _ | exact spec_l06Reader_num.mono _ _ _ _ | exact spec_l06Reader_text.mono _ _ _ _ | exact spec_l06Reader_topic.mono _ _ _ _ | exact oR _ | exact oN _ | refine oI ?_ ?_ | refine oB ?_ fun _ => ?_) | exact ih0 _ _ _ _ _ | exact ih1 _ _ _ _ _ _ _ | exact ih2 _ _ _ _ _ _ _ _ | exact ih3 _ _ _ _ _ _ | exact spec_BrokerBytes.mono _ _ _ | exact spec_l06Reader_many.mono _ _ _ _ _ | exact spec_l06Reader_num.mono _ _ _ _ | exact spec_l06Reader_text.mono _ _ _ _ | exact spec_l06Reader_topic.mono _ _ _ _ | exact oN _ | refine oI ?_ ?_ | refine oB ?_ fun _ => ?_
theorem spec_BrokerRead.mono : ∀ a0 k, LeO (spec_BrokerRead.f k a0) (spec_BrokerRead.f (k + 1) a0) := by
  intro a0 k; obtain ⟨ih0, ih1, ih2, ih3⟩ := spec_BrokerRead.mono_l k; unfold spec_BrokerRead.f
  repeat' first | (with_reducible first | exact ih0 _ _ _ _ _ | exact ih1 _ _ _ _ _ _ _ | exact ih2 _ _ _ _ _ _ _ _ | exact ih3 _ _ _ _ _ _ | exact spec_BrokerBytes.mono _ _ _ | exact spec_l06Reader_many.mono _ _ _ _ _ | exact spec_l06Reader_num.mono _ _ _ _ | exact spec_l06Reader_text.mono _ _ _ _ | exact spec_l06Reader_topic.mono _ _ _ _ | exact oR _ | exact oN _ | refine oI ?_ ?_ | refine oB ?_ fun _ => ?_) | exact ih0 _ _ _ _ _ | exact ih1 _ _ _ _ _ _ _ | exact ih2 _ _ _ _ _ _ _ _ | exact ih3 _ _ _ _ _ _ | exact spec_BrokerBytes.mono _ _ _ | exact spec_l06Reader_many.mono _ _ _ _ _ | exact spec_l06Reader_num.mono _ _ _ _ | exact spec_l06Reader_text.mono _ _ _ _ | exact spec_l06Reader_topic.mono _ _ _ _ | exact oN _ | refine oI ?_ ?_ | refine oB ?_ fun _ => ?_
def spec_BrokerRead.T8 : Bool × List (List Nat × List Nat) := (true, [([], []), ([0], [0]), ([], []), ([2], [2]), ([3], [3]), ([1, 4, 3], [1, 4]), ([0, 1, 2, 3, 4, 5], []), ([6, 5, 5, 0, 1, 2, 3, 4, 5], [5, 6])])
def spec_BrokerRead.B8 : List Nat := [0, 1, 0, 4, 12, 31, 63, 127]
theorem spec_BrokerRead.tab8 : rtab .any (opsOf Try.f5 8) = spec_BrokerRead.T8 := by kernel_rfl
theorem spec_BrokerRead.bits8 : waitsOk spec_BrokerRead.T8.2 spec_BrokerRead.B8 = true := by kernel_rfl
theorem bI39_102_spec_BrokerRead {n : Nat} {w W W' : World} (h : Below n w W) (f : Below n w W → Below n w W' := by intro h_; repeat (first | (with_reducible first | exact h_ | apply bA | apply bN | apply bD | refine bS ?_ (IsS39.ge HI102.out) | refine bS ?_ (Aside0.out (by assumption))) | exact h_)) : Below n w W' := f h
theorem iX39_6_spec_BrokerRead {p q : Prop} (h : p) (f : p → q := by intro h_; repeat (first | (with_reducible first | exact h_ | apply IsS39.alloc | apply IsS39.drewN | apply IsS39.drew | apply IsS39.set_0 | apply IsS39.set_1 | apply IsS39.set_2 | refine IsS39.far ?_ (Aside0.out (by assumption)) _ | apply IsS39.far | exact Aside0.out (by assumption)) | exact h_)) : q := f h
set_option maxHeartbeats 60000000 in
set_option maxRecDepth 100000 in
theorem spec_BrokerRead.calls (k : Nat) (a0 : ByteArray) (r1 : List (S44)) (r2 : List (S48)) (r3 : ByteArray) (r4 : Int) (w : World) (h : spec_BrokerRead.f k a0 = some (r1, r2, r3, r4)) :
    Calls Try.prog 5 #[.string a0] w fun e w' => ∃ v0_ v1_ : Value, e = .returned (.agg #[v0_, v1_, .string r3, .int .i64 r4]) ∧ Kd.S k44 44 w' w.heap.size (fun _ => True) v0_ r1 ∧ Kd.R k48 48 w' w.heap.size (fun _ => True) v1_ r2 ∧ Below w.heap.size w w' := by
 have hu27 := Try.underlying27; have hu39 := Try.underlying39; have hu25 := Try.underlying25; have hu48 := Try.underlying48; have HB := AM (Below.refl w.heap.size w); have H : (if (a0.size : Int) > 20000 then (some (([] : List (S44)), ([] : List (S48)), (⟨#[]⟩ : ByteArray), 2)) else ((spec_l06Reader_many.f k a0 0 false 4).bind fun bt104 => (spec_BrokerRead.l0 k a0 bt104.1 bt104.2.1 bt104.2.2.1 bt104.2.2.2 ([] : List (S44))))) = some (r1, r2, r3, r4) := h; clear h; by_cases c2 : (a0.size : Int) > 20000
 ·
  rw [if_pos c2] at H; have c2b0 : decide (20000 < (a0.size : Int)) = true := dY c2; have c2b1 : decide (20000 < a0.size) = true := dY (by omega); clear c2; simp only [Option.some.injEq, Prod.mk.injEq] at H
  obtain ⟨rfl, rfl, rfl, rfl⟩ := H; go_enter Try.func5, Try.ntmps5
  go_wp2_with (first | ((with_reducible refine gate_dst (N := 2) rfl ?_); refine bE (cs := #[.slice none 0 0, .slice none 0 0, .string (⟨#[]⟩ : ByteArray), .int .i64 0]) (t := 27) ?_; intro gb101 hg w3 hbox hb; have _ := AM (below_step (bX HB.out) hb); have _ := AM (hbox); have n2_ := AM (gZ hg (bZ (bX HB.out))); clear HB; rename_i HB BK101; have GW101 := n2_; have GE101 := n2_; clear n2_; clear hb hbox hg; have hcz4 := q4 BK101.out; have hfz4 := fZ BK101.out))
  refine bodyPost_ret (results_cell_row rfl _ _ gb101 27 #[.slice none 0 0, .slice none 0 0, .string (⟨#[]⟩ : ByteArray), .int .i64 2] (0, 0) _ rfl (by refine kP (cs := #[.slice none 0 0, .slice none 0 0, .string (⟨#[]⟩ : ByteArray), .int .i64 0]) 3 ?_; refine kP (cs := #[.slice none 0 0, .slice none 0 0, .string (⟨#[]⟩ : ByteArray), .int .i64 0]) 2 ?_; refine kP (cs := #[.slice none 0 0, .slice none 0 0, .string (⟨#[]⟩ : ByteArray), .int .i64 0]) 1 ?_; refine kP (cs := #[.slice none 0 0, .slice none 0 0, .string (⟨#[]⟩ : ByteArray), .int .i64 0]) 0 ?_; exact kX BK101.out) Try.underlying27 rfl (by kernel_rfl)) rfl ?_; exact ⟨_, _, by first | rfl | (simp [*, errW_none, errW_some] <;> rfl), by first | exact Kd.S_nil _ _ _ _ _ | exact Kd.N_nil _ _ _ _ _ | exact Kd.V_nil _ _ _ _ _ | exact Kd.Q_nil _ _ _ _ _ | exact Kd.R_nil _ _ _ _ _, by first | exact Kd.R_nil _ _ _ _ _ | exact Kd.N_nil _ _ _ _ _ | exact Kd.V_nil _ _ _ _ _ | exact Kd.Q_nil _ _ _ _ _ | exact Kd.S_nil _ _ _ _ _, bX HB.out⟩
 rw [if_neg c2] at H; have c2b0 : decide (20000 < (a0.size : Int)) = false := dN c2; have c2b1 : decide (20000 < a0.size) = false := dN (by omega); clear c2; replace H := oM H; obtain ⟨⟨t104, t105, t106, t107⟩, A50, H⟩ := H; try dsimp only at H
 have A5 := AM A50; clear A50; have HC6 := AM H; clear H; go_enter Try.func5, Try.ntmps5
 go_upto_block 0 with (first | ((with_reducible refine gate_dst (N := 2) rfl ?_); refine bE (cs := #[.slice none 0 0, .slice none 0 0, .string (⟨#[]⟩ : ByteArray), .int .i64 0]) (t := 27) ?_; intro gb101 hg w7 hbox hb; have _ := AM (below_step (bX HB.out) hb); have _ := AM (hbox); have n2_ := AM (gZ hg (bZ (bX HB.out))); clear HB; rename_i HB BK101; have GW101 := n2_; have GE101 := n2_; clear n2_; clear hb hbox hg) | ((with_reducible refine gate_dst (N := 14) rfl ?_); refine bE (cs := #[.string a0, .int .i64 0, .bool false]) (t := 39) ?_; intro gb102 hg w8 hbox hb; have _ := AM (nB BK101.out hb); have _ := AM (below_step (bX HB.out) hb); have _ := AM ((show IsS39 w w8 gb102 a0 0 false from ⟨hbox, (by rw [hg]; exact (bZ (bX HB.out)) : w.heap.size ≤ gb102)⟩)); have n3_ := AM (gZ hg (bZ (bX HB.out))); have _ := AM (lX hg BK101.out); have _ := AM (lX hg BK101.out).symm; clear BK101 HB; rename_i BK101 HB HI102 NB101_102 NB102_101; have GW102 := n3_; have GE102 := n3_; clear n3_; clear hb hbox hg) | ((with_reducible refine gate_dst (N := 4) rfl ?_); refine bE (cs := #[.slice none 0 0, .slice none 0 0]) (t := 25) ?_; intro gb103 hg w9 hbox hb; have _ := AM (nB BK101.out hb); have _ := AM (IsS39.below (iX39_6_spec_BrokerRead HI102.out) hb); have _ := AM (below_step (bI39_102_spec_BrokerRead HB.out) hb); have _ := AM (hbox); have n4_ := AM ((by rw [hg]; exact (bZ (bI39_102_spec_BrokerRead HB.out)) : w.heap.size ≤ gb103)); have _ := AM (lX hg BK101.out); have _ := AM (lX hg BK101.out).symm; have _ := AM ((by rw [hg]; exact Nat.ne_of_lt (IsS39.lt (show IsS39 w _ gb102 a0 0 false from iX39_6_spec_BrokerRead HI102.out)) : gb102 ≠ gb103)); have _ := AM ((by rw [hg]; exact Nat.ne_of_gt (IsS39.lt (show IsS39 w _ gb102 a0 0 false from iX39_6_spec_BrokerRead HI102.out)) : gb103 ≠ gb102)); clear BK101 HI102 HB; rename_i BK101 HI102 HB BK103 NB101_103 NB103_101 NB102_103 NB103_102; have GW103 := n4_; have GE103 := n4_; clear n4_; clear hb hbox hg; have hnb10 := NB103_101.out; have hnc10 := NB101_103.out; have hnb11 := NB103_102.out; have hnc11 := NB102_103.out; have hcz12 := q2 BK103.out; have hfz12 := fZ BK103.out) | ((with_reducible refine gate_callee (f := 15) rfl ?_); refine gL (some 17) Try.func15 #[.pointer (some ⟨gb102, 0, none⟩), .int .i64 4] ?_; (with_reducible refine (spec_l06Reader_many.calls k gb102 a0 0 false 4 t104 t105 t106 t107 w _ ?side1 ?side2 A5.out).mono ?_); (case side1 => exact (iX39_6_spec_BrokerRead HI102.out)); (case side2 => exact (bI39_102_spec_BrokerRead HB.out)); rintro e w13 ⟨rfl, hi, hb, hk⟩; refine ⟨_, rfl, ?_⟩; have _ := AM (KeepBut.blk hk (g' := gb101) (o := .cells #[.slice none 0 0, .slice none 0 0, .string (⟨#[]⟩ : ByteArray), .int .i64 0] 27 (0, 0)) (by refine kF NB101_103.out ?_; refine kF NB101_103.out ?_; exact kX BK101.out) NB101_102.out (by simp)); have _ := AM (KeepBut.blk hk (g' := gb103) (o := .cells #[.slice none 0 0, .slice none 0 0] 25 (0, 0)) (by refine kP (cs := #[.slice none 0 0, .slice none 0 0]) 1 ?_; refine kP (cs := #[.slice none 0 0, .slice none 0 0]) 0 ?_; exact kX BK103.out) NB103_102.out (by simp)); have _ := AM (hb); have _ := AM (hi); clear BK101 BK103 HB HI102; rename_i BK101 BK103 HB HI102; (try clear hb); (try clear hb2); (try clear hk); (try clear hi)))
 (try simp only [Act.put, List.setIfInBounds_toArray, List.set_cons_zero, List.set_cons_succ]); go_cut [] (fun wc => ∃ (kq : Nat) (x103000_5 : ByteArray) (x103001_5 : Int) (x103002_5 : Bool) (x104000_5 : List (S44)) (u104000 : Value), Aside0 (spec_BrokerRead.j1 kq a0 x103000_5 x103001_5 x103002_5 x104000_5 = some (r1, r2, r3, r4)) ∧ Aside0 (kq ≤ k) ∧ Aside0 (Kd.S k44 44 wc w.heap.size (fun _ => True) u104000 x104000_5) ∧ Aside0 (wc.heap[gb101]? = some (.cells #[(.slice none 0 0), (.slice none 0 0), .string (⟨#[]⟩ : ByteArray), .int .i64 0] 27 (0, 0))) ∧ Aside0 (wc.heap[gb103]? = some (.cells #[u104000, (.slice none 0 0)] 25 (0, 0))) ∧ Aside0 (IsS39 w wc gb102 x103000_5 x103001_5 x103002_5) ∧ Aside0 (Below w.heap.size w wc))
 case first =>
  have H := HC6.out; clear HC6; have H' := AM H; clear H; go_wp2
  go_loopg [5] k (fun kq v5 w' => ∃ (x5_1 : Int) (x103000_1 : ByteArray) (x103001_1 : Int) (x103002_1 : Bool) (x104000_1 : List (S44)) (u104000 : Value), v5 = .int .i64 x5_1 ∧ Aside0 (spec_BrokerRead.l0 kq a0 x5_1 x103000_1 x103001_1 x103002_1 x104000_1 = some (r1, r2, r3, r4)) ∧ Aside0 (kq ≤ k) ∧ Aside0 (Kd.S k44 44 w' w.heap.size (fun _ => True) u104000 x104000_1) ∧ Aside0 (w'.heap[gb101]? = some (.cells #[(.slice none 0 0), (.slice none 0 0), .string (⟨#[]⟩ : ByteArray), .int .i64 0] 27 (0, 0))) ∧ Aside0 (w'.heap[gb103]? = some (.cells #[u104000, (.slice none 0 0)] 25 (0, 0))) ∧ Aside0 (IsS39 w w' gb102 x103000_1 x103001_1 x103002_1) ∧ Aside0 (Below w.heap.size w w'))
  case atStart => exact ⟨(t104), (t105), (t106), (t107), (([] : List (S44))), (.slice none 0 0), (by first | rfl | (simp; done) | (simp [*]; done)), H', ⟨Nat.le_refl _⟩, ⟨by first | exact Kd.S_nil _ _ _ _ _ | exact Kd.N_nil _ _ _ _ _ | exact Kd.V_nil _ _ _ _ _ | exact Kd.Q_nil _ _ _ _ _ | exact Kd.R_nil _ _ _ _ _⟩, ⟨kX BK101.out⟩, ⟨kX BK103.out⟩, ⟨iX39_6_spec_BrokerRead HI102.out⟩, ⟨bI39_102_spec_BrokerRead HB.out⟩⟩
  case round =>
   clear H'; (try clear c1); (try clear c2); (try clear c2b0); (try clear c2b1); (try clear p2); (try clear c5); (try clear c10); (try clear c11); (try clear hcz12); (try clear hcz4); (try clear hfz12); (try clear hfz4); obtain ⟨x5_1, x103000_1, x103001_1, x103002_1, x104000_1, u104000, rfl, HA, HK1, HO_104000, BK101, BK103, HI102, HB⟩ := hrel
   cases gk with
   | zero => exact absurd HA.out (by simp [spec_BrokerRead.l0])
   | succ k1 =>
    have H := HA.out; clear HA; simp only [spec_BrokerRead.l0] at H
    by_cases c14 : x5_1 > 0
    ·
     rw [if_pos c14] at H; have c14b0 : decide (0 < x5_1) = true := dY c14; clear c14
     (first | rw [c14b0] | (simp only [i64_w, i32_w]; rw [c14b0]) | skip)
     by_cases c15 : x103002_1 = true
     ·
      subst c15; rw [if_pos rfl] at H; have H' := AM H; clear H; obtain ⟨HGz16, hgz16⟩ := HI102.out; have hcz16_0 := cellS39_0 HGz16; have hcz16_1 := cellS39_1 HGz16; have hcz16_2 := cellS39_2 HGz16; have hfz16_0 := fZ HGz16 0; have hfz16_1 := fZ HGz16 1; have hfz16_2 := fZ HGz16 2; clear HGz16 hgz16; go_wp2
      go_meet
      case rel => exact ⟨_, (x103000_1), (x103001_1), (true), (x104000_1), (u104000), H', ⟨by have := HK1.out; first | omega | exact Nat.le_refl _⟩, ⟨by exact sX HO_104000.out⟩, ⟨kX BK101.out⟩, ⟨kX BK103.out⟩, ⟨iX39_6_spec_BrokerRead HI102.out⟩, ⟨bI39_102_spec_BrokerRead HB.out⟩⟩
     replace c15 := oE c15; subst c15; rw [if_neg nft] at H; replace H := oM H; obtain ⟨⟨t108, t109, t110, t113, t116, t117, t118⟩, A170, H⟩ := H; try dsimp only at H
     have A17 := AM A170; clear A170; by_cases c18 : x104000_1.length < 1954687338268
     ·
      rw [if_pos c18] at H; have LMc18 := AM c18; clear c18; obtain ⟨y119, hy119⟩ : ∃ y_ : List (S44), y_ = (x104000_1 ++ [(⟨t108, t109, t110, t113⟩ : S44)]) := ⟨_, rfl⟩; replace H : (spec_BrokerRead.l0 k1 a0 (wrap64 (x5_1 - 1)) t116 t117 t118 y119) = some (r1, r2, r3, r4) := by first | (rw [hy119]; with_reducible exact H) | (have H2_ := (Option.bind_some _ _).symm.trans H; rw [hy119]; with_reducible exact H2_) | (have H2_ := (Option.bind_some _ _).symm.trans H; with_reducible exact H2_) | with_reducible exact H | (rw [hy119]; exact H) | exact H
      have Ny119 := AM hy119; clear hy119; have H' := AM H; clear H; obtain ⟨HGz19, hgz19⟩ := HI102.out; have hcz19_0 := cellS39_0 HGz19; have hcz19_1 := cellS39_1 HGz19; have hcz19_2 := cellS39_2 HGz19; have hfz19_0 := fZ HGz19 0; have hfz19_1 := fZ HGz19 1; have hfz19_2 := fZ HGz19 2; clear HGz19 hgz19; try go_wp2
      have _ := AM (Kd.S_drew HO_104000.out); have _ := AM (kD BK101.out); have _ := AM (kD BK103.out); have _ := AM (IsS39.drew HI102.out); have _ := AM (bD HB.out); clear HO_104000 BK101 BK103 HI102 HB; rename_i HO_104000 BK101 BK103 HI102 HB; refine start_ (n := 8) (S := fun w' => w'.cell? ⟨gb103, 0, none⟩ = some (u104000) ∧ w'.cell? ⟨gb103, 1, none⟩ = some (.slice none 0 0)) (ds := [7]) (upTo 0 8) (by kernel_rfl) rfl rfl ⟨hC BK103.out 0, hC BK103.out 1⟩ (fun hHeld => ?_); refine with_tabW spec_BrokerRead.tab8 spec_BrokerRead.bits8 (fun HT_ HW_ => ?_); generalize wr.drew = w20 at HO_104000 BK101 BK103 HI102 HB hHeld ⊢; refine pF 0 1 8 29 ?_; refine pF2 2 31 spec_BrokerRead.b0 ?_; refine pT2 1 30 (upTo 3 8) ?_ hHeld; refine oU 3 32 (upTo 4 8) HT_.out (fun K hK => ?_); refine gs Try.func16 #[.pointer (some ⟨gb102, 0, none⟩)] ?_; with_reducible refine (spec_l06Reader_topic.calls k1 gb102 x103000_1 x103001_1 false t108 t109 t110 t113 t116 t117 t118 w _ ?side1 ?side2 A17.out).mono ?_
      (case side1 => exact (iX39_6_spec_BrokerRead HI102.out))
      (case side2 => exact (bI39_102_spec_BrokerRead HB.out))
      rintro e w21 ⟨v111, v114, rfl, ho0, ho1, hi, hb, hk⟩; refine ⟨_, rfl, ?_⟩; have _ := AM (Kd.S_mono (Kd.S_told (Kd.S_told (Kd.S_oldK (IsS39.apartS (show IsS39 w _ gb102 x103000_1 x103001_1 false from iX39_6_spec_BrokerRead HI102.out) (sX HO_104000.out) (by decide)) hk) (Kd.R_base ho0)) (Kd.R_base ho1)) (fun _ h_ => h_.1)); have _ := AM (kB hk BK101.out NB101_102.out (by simp)); have _ := AM (kB hk BK103.out NB103_102.out (by simp)); have _ := AM (Kd.R_lower ho0 (bZ (bI39_102_spec_BrokerRead HB.out))); have _ := AM (Kd.R_lower ho1 (bZ (bI39_102_spec_BrokerRead HB.out))); have _ := AM (hb); have _ := AM (hi); clear HO_104000 BK101 BK103 HB HI102; rename_i HO_104000 BK101 BK103 HO112 HO115 HB HI102; (try clear hb); (try clear hb2); (try clear hk); (try clear hi); (try clear ho0); (try clear ho1); obtain ⟨Ao23, co23, eo23⟩ := Kd.R_slice HO112.out
      (first | subst eo23 | (injection eo23 with f1_ f2_ f3_; have f4_ := f1_.symm; have f5_ := f3_.symm; clear f1_ f2_ f3_; subst f4_; subst f5_))
      obtain ⟨Ao24, co24, eo24⟩ := Kd.R_slice HO115.out
      (first | subst eo24 | (injection eo24 with f1_ f2_ f3_; have f4_ := f1_.symm; have f5_ := f3_.symm; clear f1_ f2_ f3_; subst f4_; subst f5_))
      refine hK.out _ _ (q2 BK103.out) (fun hHeld => ?_); clear hK K; refine norm_ (a' := ?_) ?_ ?_; rotate_left
      ·
       show Act.put _ (some 32) _ = _
       simp only [Act.put, sA, sB, sC, i64_w, i32_w]
       rfl
      refine oU 4 33 (upTo 5 8) HT_.out (fun K hK => ?_); refine value_ (w1 := ?_) (v := ?_) (by rfl) rfl ?_ ?_
      rotate_left 2
      ·
       go_simp
       constructor
       ·
        rfl
       rfl
      refine hK.out _ _ ⟨(kC (kA BK103.out _) 0).trans rfl, (kC (kA BK103.out _) 1).trans rfl⟩ (fun hHeld => ?_); clear hK K; refine norm_ (a' := ?_) ?_ ?_; rotate_left
      ·
       show Act.put _ (some 33) _ = _
       simp only [Act.put, sA, sB, sC, i64_w, i32_w]
       rfl
      refine oU 5 34 (upTo 6 8) HT_.out (fun K hK => ?_); refine Kd.S_append_step k44 (w0 := w) w.heap.size (by rfl) (.tmp 30) (.tmp 33) 22 44 (.agg #[(.string ⟨#[]⟩), (.int .i64 0), (.slice none 0 0), (.slice none 0 0)]) 72 rfl Try.underlying22 info44 rfl (by decide) (by omega) u104000 x104000_1 (⟨t108, t109, t110, t113⟩ : S44) [.string t108, .int .i64 t109, .slice Ao23 t110.length co23, .slice Ao24 t113.length co24] (fun _ => True) (fun k_ => some k_ = (.slice Ao23 t110.length co23 : Value).ownBlock ∨ some k_ = (.slice Ao24 t113.length co24 : Value).ownBlock) rfl rfl ?aP (fun k_ hk_ => hk_.elim (fun h_ => ((Kd.R_mono (ok' := fun k_ => ((fun _ => True)) k_ ∧ some k_ ≠ (u104000 : Value).ownBlock) (Kd.R_apart' (HO112.out) (Kd.S_typed HO_104000.out) (by decide)) (fun k_ hk => ⟨trivial, hk.2⟩))).1 k_ h_.symm) (fun h_ => ((Kd.R_mono (ok' := fun k_ => ((fun _ => True)) k_ ∧ some k_ ≠ (u104000 : Value).ownBlock) (Kd.R_apart' (HO115.out) (Kd.S_typed HO_104000.out) (by decide)) (fun k_ hk => ⟨trivial, hk.2⟩))).1 k_ h_.symm)) ?aF ?aO ?aB ?aS ?aL ?_
      (case aP => exact k44_mkM _ _ _ (⟨t108, t109, t110, t113⟩ : S44) (Kd.R_mono (Kd.R_tight rfl (Kd.R_mono (ok' := fun k_ => ((fun _ => True)) k_ ∧ some k_ ≠ (u104000 : Value).ownBlock) (Kd.R_apart' (HO112.out) (Kd.S_typed HO_104000.out) (by decide)) (fun k_ hk => ⟨trivial, hk.2⟩))) (fun _ h_ => Or.inl h_)) (Kd.R_mono (Kd.R_tight rfl (Kd.R_mono (ok' := fun k_ => ((fun _ => True)) k_ ∧ some k_ ≠ (u104000 : Value).ownBlock) (Kd.R_apart' (HO115.out) (Kd.S_typed HO_104000.out) (by decide)) (fun k_ hk => ⟨trivial, hk.2⟩))) (fun _ h_ => Or.inr (h_))))
      (case aB => exact (bI39_102_spec_BrokerRead HB.out))
      (case aF => exact (fun _ _ => trivial))
      (case aO => exact (by (with_reducible repeat (first | apply Kd.S_alloc | apply Kd.S_drewN | apply Kd.S_drew)); exact Kd.S_mono HO_104000.out (fun k_ hk => ⟨trivial, fun e_ => e_.elim (fun h_ => hk.1.2 h_) (fun h_ => hk.2 h_)⟩)))
      (case aS => exact (bZ (bI39_102_spec_BrokerRead HB.out)))
      (case aL => have := LMc18.out; omega)
      intro v120 w22 ho hb hg hat; rw [← Ny119.out] at ho; have _ := AM (blk_grown (g := gb101) (o := .cells #[.slice none 0 0, .slice none 0 0, .string (⟨#[]⟩ : ByteArray), .int .i64 0] 27 (0, 0)) (kX BK101.out) hg (Kd.S_ne HO_104000.out BK101.out (by decide))); have _ := AM (blk_grown (g := gb103) (o := .cells #[u104000, .slice none 0 0] 25 (0, 0)) (kX BK103.out) hg (Kd.S_ne HO_104000.out BK103.out (by decide))); have _ := AM (IsS39.grown (iX39_6_spec_BrokerRead HI102.out) hg (IsS39.own_neS HI102.out HO_104000.out (by decide))); have _ := AM (hb); have _ := AM (ho); clear BK101 BK103 HI102 HB HO_104000 HO112 HO115; rename_i BK101 BK103 HI102 HB HO121; clear ho hb hg hat; obtain ⟨Ao25, co25, eo25⟩ := Kd.S_slice HO121.out
      (first | subst eo25 | (injection eo25 with f1_ f2_ f3_; have f4_ := f1_.symm; have f5_ := f3_.symm; clear f1_ f2_ f3_; subst f4_; subst f5_))
      refine hK.out _ _ (q2 BK103.out) (fun hHeld => ?_); clear hK K; refine norm_ (a' := ?_) ?_ ?_; rotate_left
      ·
       show Act.put _ (some 34) _ = _
       simp only [Act.put, sA, sB, sC, i64_w, i32_w]
       rfl
      refine pF 6 7 8 35 ?_; refine last_ (i := 7) (N := none) (upTo 8 8) rfl rfl (one_of HT_.out (by kernel_rfl)) (by decide) (fun K hK => ?_); have hs26 : w22.cell? ⟨gb103, 0, none⟩ = some (u104000) := hC BK103.out 0; have hfs26 := fZ BK103.out 0; have hns26_0 := NB101_103.out; have hms26_0 := NB103_101.out; refine skip_ (w1 := ?_) (by rfl) rfl ?_ ?_; rotate_left
      ·
       go_simp
       rfl
      refine hK.out _ _ ?_; clear hK K; refine done_ (done_of HT_.out (by kernel_rfl)) ?_; try go_wp2
      go_roundg k1
      case measure => have := HK1.out; omega
      case rel => exact ⟨(wrap64 (x5_1 - 1)), (t116), (t117), (t118), (y119), (.slice Ao25 y119.length co25), (by first | rfl | (simp; done) | (simp [*]; done)), H', ⟨by have := HK1.out; omega⟩, ⟨by (with_reducible repeat (first | apply Kd.S_alloc | apply Kd.S_drewN | apply Kd.S_drew)); exact Kd.S_mono (Kd.S_far (p := ⟨gb103, 0, none⟩) (Kd.S_types HO121.out BK103.out (by decide)) (fun _ hk => hk.2) (.slice Ao25 y119.length co25)) (fun _ hk => trivial)⟩, ⟨by refine kF NB101_103.out ?_; exact kX BK101.out⟩, ⟨by refine kP (cs := #[u104000, .slice none 0 0]) 0 ?_; exact kX BK103.out⟩, ⟨iX39_6_spec_BrokerRead HI102.out⟩, ⟨bI39_102_spec_BrokerRead HB.out⟩⟩
     rw [if_neg c18] at H; exact absurd H (by simp)
    rw [if_neg c14] at H; have c14b0 : decide (0 < x5_1) = false := dN c14; clear c14
    (first | rw [c14b0] | (simp only [i64_w, i32_w]; rw [c14b0]) | skip)
    have H' := AM H; clear H; go_wp2
    go_meet
    case rel => exact ⟨_, (x103000_1), (x103001_1), (x103002_1), (x104000_1), (u104000), H', ⟨by have := HK1.out; first | omega | exact Nat.le_refl _⟩, ⟨by exact sX HO_104000.out⟩, ⟨kX BK101.out⟩, ⟨kX BK103.out⟩, ⟨iX39_6_spec_BrokerRead HI102.out⟩, ⟨bI39_102_spec_BrokerRead HB.out⟩⟩
 case rest =>
  clear HC6; (try clear c1); (try clear c2); (try clear c2b0); (try clear c2b1); (try clear p2); (try clear c5); (try clear p6); (try clear c10); (try clear c11); (try clear c14); (try clear c14b0); (try clear c15); (try clear c16); (try clear c18); (try clear hcz12); (try clear hcz16); (try clear hcz19); (try clear hcz4); (try clear hfz12); (try clear hfz16); (try clear hfz19); (try clear hfz4); obtain ⟨kq, x103000_5, x103001_5, x103002_5, x104000_5, u104000, HA, HJ5, HO_104000, BK101, BK103, HI102, HB⟩ := hcut
  cases kq with
  | zero => exact absurd HA.out (by simp [spec_BrokerRead.j1])
  | succ kj5 =>
   have H := HA.out; clear HA; simp only [spec_BrokerRead.j1] at H
   replace H := oM H; obtain ⟨⟨t122, t123, t124, t125⟩, A270, H⟩ := H; try dsimp only at H
   have A27 := AM A270; clear A270; have H' := AM H; clear H; go_wp2_with (first | ((with_reducible refine gate_callee (f := 15) rfl ?_); refine gL (some 37) Try.func15 #[.pointer (some ⟨gb102, 0, none⟩), .int .i64 9] ?_; (with_reducible refine (spec_l06Reader_many.calls kj5 gb102 x103000_5 x103001_5 x103002_5 9 t122 t123 t124 t125 w _ ?side1 ?side2 A27.out).mono ?_); (case side1 => exact (iX39_6_spec_BrokerRead HI102.out)); (case side2 => exact (bI39_102_spec_BrokerRead HB.out)); rintro e w28 ⟨rfl, hi, hb, hk⟩; refine ⟨_, rfl, ?_⟩; have _ := AM (Kd.S_mono (Kd.S_keep (IsS39.apartS (show IsS39 w _ gb102 x103000_5 x103001_5 x103002_5 from iX39_6_spec_BrokerRead HI102.out) (sX HO_104000.out) (by decide)) hk (fun _ h => h.2)) (fun _ h => h.1)); have _ := AM (kB hk BK101.out NB101_102.out (by simp)); have _ := AM (kB hk BK103.out NB103_102.out (by simp)); have _ := AM (hb); have _ := AM (hi); clear HO_104000 BK101 BK103 HB HI102; rename_i HO_104000 BK101 BK103 HB HI102; (try clear hb); (try clear hb2); (try clear hk); (try clear hi)))
   go_loopg [6] kj5 (fun kq v6 w' => ∃ (x6_2 : Int) (x103000_2 : ByteArray) (x103001_2 : Int) (x103002_2 : Bool) (x104001_2 : List (S48)) (u104001 : Value), v6 = .int .i64 x6_2 ∧ Aside0 (spec_BrokerRead.l1 kq a0 x6_2 x103000_2 x103001_2 x103002_2 x104000_5 x104001_2 = some (r1, r2, r3, r4)) ∧ Aside0 (kq ≤ kj5) ∧ Aside0 (Kd.S k44 44 w' w.heap.size (fun _ => True) u104000 x104000_5) ∧ Aside0 (Kd.R k48 48 w' w.heap.size (fun _ => True) u104001 x104001_2) ∧ Aside0 (w'.heap[gb101]? = some (.cells #[(.slice none 0 0), (.slice none 0 0), .string (⟨#[]⟩ : ByteArray), .int .i64 0] 27 (0, 0))) ∧ Aside0 (w'.heap[gb103]? = some (.cells #[u104000, u104001] 25 (0, 0))) ∧ Aside0 (IsS39 w w' gb102 x103000_2 x103001_2 x103002_2) ∧ Aside0 (Below w.heap.size w w'))
   case atStart => exact ⟨(t122), (t123), (t124), (t125), (([] : List (S48))), (.slice none 0 0), (by first | rfl | (simp; done) | (simp [*]; done)), H', ⟨Nat.le_refl _⟩, ⟨by exact sX HO_104000.out⟩, ⟨by first | exact Kd.R_nil _ _ _ _ _ | exact Kd.N_nil _ _ _ _ _ | exact Kd.V_nil _ _ _ _ _ | exact Kd.Q_nil _ _ _ _ _ | exact Kd.S_nil _ _ _ _ _⟩, ⟨kX BK101.out⟩, ⟨kX BK103.out⟩, ⟨iX39_6_spec_BrokerRead HI102.out⟩, ⟨bI39_102_spec_BrokerRead HB.out⟩⟩
   case round =>
    clear H'; (try clear c1); (try clear c2); (try clear c2b0); (try clear c2b1); (try clear p2); (try clear c5); (try clear p6); (try clear c10); (try clear c11); (try clear c14); (try clear c14b0); (try clear c15); (try clear c16); (try clear c18); (try clear hcz12); (try clear hcz16); (try clear hcz19); (try clear hcz4); (try clear hfz12); (try clear hfz16); (try clear hfz19); (try clear hfz4); obtain ⟨x6_2, x103000_2, x103001_2, x103002_2, x104001_2, u104001, rfl, HA, HK2, HO_104000, HO_104001, BK101, BK103, HI102, HB⟩ := hrel
    cases gk with
    | zero => exact absurd HA.out (by simp [spec_BrokerRead.l1])
    | succ k2 =>
     have H := HA.out; clear HA; simp only [spec_BrokerRead.l1] at H
     have HC29 := AM H; clear H; go_upto_region 10 with (fail)
     go_cut [46] (fun v46 wc => ∃ (kq : Nat) (x46_28 : Bool), v46 = .bool x46_28 ∧ Aside0 (spec_BrokerRead.j3 kq a0 x6_2 x46_28 x103000_2 x103001_2 x103002_2 x104000_5 x104001_2 = some (r1, r2, r3, r4)) ∧ Aside0 (kq ≤ k2) ∧ Aside0 (Kd.S k44 44 wc w.heap.size (fun _ => True) u104000 x104000_5) ∧ Aside0 (Kd.R k48 48 wc w.heap.size (fun _ => True) u104001 x104001_2) ∧ Aside0 (wc.heap[gb101]? = some (.cells #[(.slice none 0 0), (.slice none 0 0), .string (⟨#[]⟩ : ByteArray), .int .i64 0] 27 (0, 0))) ∧ Aside0 (wc.heap[gb103]? = some (.cells #[u104000, u104001] 25 (0, 0))) ∧ Aside0 (IsS39 w wc gb102 x103000_2 x103001_2 x103002_2) ∧ Aside0 (Below w.heap.size w wc))
     case first =>
      have H := HC29.out; clear HC29; by_cases c30 : x6_2 > 0
      ·
       rw [if_pos c30] at H; have c30b0 : decide (0 < x6_2) = true := dY c30; clear c30
       (first | rw [c30b0] | (simp only [i64_w, i32_w]; rw [c30b0]) | skip)
       have H' := AM H; clear H; obtain ⟨HGz31, hgz31⟩ := HI102.out; have hcz31_0 := cellS39_0 HGz31; have hcz31_1 := cellS39_1 HGz31; have hcz31_2 := cellS39_2 HGz31; have hfz31_0 := fZ HGz31 0; have hfz31_1 := fZ HGz31 1; have hfz31_2 := fZ HGz31 2; clear HGz31 hgz31; go_wp2
       go_meet
       case rel => exact ⟨_, (!x103002_2), (by first | rfl | (simp; done) | (simp [*]; done)), H', ⟨by have := HJ5.out; have := HK2.out; first | omega | exact Nat.le_refl _⟩, ⟨by exact sX HO_104000.out⟩, ⟨rX HO_104001.out⟩, ⟨kX BK101.out⟩, ⟨kX BK103.out⟩, ⟨iX39_6_spec_BrokerRead HI102.out⟩, ⟨bI39_102_spec_BrokerRead HB.out⟩⟩
      rw [if_neg c30] at H; have c30b0 : decide (0 < x6_2) = false := dN c30; clear c30
      (first | rw [c30b0] | (simp only [i64_w, i32_w]; rw [c30b0]) | skip)
      have H' := AM H; clear H; go_wp2
      go_meet
      case rel => exact ⟨_, (false), (by first | rfl | (simp; done) | (simp [*]; done)), H', ⟨by have := HJ5.out; have := HK2.out; first | omega | exact Nat.le_refl _⟩, ⟨by exact sX HO_104000.out⟩, ⟨rX HO_104001.out⟩, ⟨kX BK101.out⟩, ⟨kX BK103.out⟩, ⟨iX39_6_spec_BrokerRead HI102.out⟩, ⟨bI39_102_spec_BrokerRead HB.out⟩⟩
     case rest =>
      clear HC29; (try clear c1); (try clear c2); (try clear c2b0); (try clear c2b1); (try clear p2); (try clear c3); (try clear c5); (try clear p6); (try clear c10); (try clear c11); (try clear c14); (try clear c14b0); (try clear c15); (try clear c16); (try clear c18); (try clear c30); (try clear c30b0); (try clear hcz12); (try clear hcz16); (try clear hcz19); (try clear hcz31); (try clear hcz4); (try clear hfz12); (try clear hfz16); (try clear hfz19); (try clear hfz31); (try clear hfz4); obtain ⟨kq, x46_28, rfl, HA, HJ28, HO_104000, HO_104001, BK101, BK103, HI102, HB⟩ := hcut
      cases kq with
      | zero => exact absurd HA.out (by simp [spec_BrokerRead.j3])
      | succ kj28 =>
       have H := HA.out; clear HA; simp only [spec_BrokerRead.j3] at H
       by_cases c32 : x46_28 = true
       ·
        subst c32; rw [if_pos rfl] at H; replace H := oM H; obtain ⟨⟨t126, t127, t128, t129⟩, A330, H⟩ := H; try dsimp only at H
        have A33 := AM A330; clear A330; replace H := oM H; obtain ⟨⟨t131, t132, t133, t134⟩, A340, H⟩ := H; try dsimp only at H
        have A34 := AM A340; clear A340; replace H := oM H; obtain ⟨⟨t135, t136, t137, t138⟩, A350, H⟩ := H; try dsimp only at H
        have A35 := AM A350; clear A350; by_cases c36 : x104001_2.length < 4398046511104
        ·
         rw [if_pos c36] at H; have LMc36 := AM c36; clear c36; obtain ⟨y139, hy139⟩ : ∃ y_ : List (S48), y_ = (x104001_2 ++ [(⟨t126, t131, t135⟩ : S48)]) := ⟨_, rfl⟩; replace H : (spec_BrokerRead.l1 kj28 a0 (wrap64 (x6_2 - 1)) t136 t137 t138 x104000_5 y139) = some (r1, r2, r3, r4) := by first | (rw [hy139]; with_reducible exact H) | (have H2_ := (Option.bind_some _ _).symm.trans H; rw [hy139]; with_reducible exact H2_) | (have H2_ := (Option.bind_some _ _).symm.trans H; with_reducible exact H2_) | with_reducible exact H | (rw [hy139]; exact H) | exact H
         have Ny139 := AM hy139; clear hy139; have H' := AM H; clear H
         go_wp2_with (first | ((with_reducible refine gate_callee (f := 17) rfl ?_); refine gL (some 50) Try.func17 #[.pointer (some ⟨gb102, 0, none⟩)] ?_; (with_reducible refine (spec_l06Reader_num.calls kj28 gb102 x103000_2 x103001_2 x103002_2 t126 t127 t128 t129 w _ ?side1 ?side2 A33.out).mono ?_); (case side1 => exact (iX39_6_spec_BrokerRead HI102.out)); (case side2 => exact (bI39_102_spec_BrokerRead HB.out)); rintro e w37 ⟨rfl, hi, hb, hk⟩; refine ⟨_, rfl, ?_⟩; have _ := AM (Kd.S_mono (Kd.S_keep (IsS39.apartS (show IsS39 w _ gb102 x103000_2 x103001_2 x103002_2 from iX39_6_spec_BrokerRead HI102.out) (sX HO_104000.out) (by decide)) hk (fun _ h => h.2)) (fun _ h => h.1)); have _ := AM (Kd.R_mono (Kd.R_keep (IsS39.apart (show IsS39 w _ gb102 x103000_2 x103001_2 x103002_2 from iX39_6_spec_BrokerRead HI102.out) (rX HO_104001.out) (by decide)) hk (fun _ h => h.2)) (fun _ h => h.1)); have _ := AM (kB hk BK101.out NB101_102.out (by simp)); have _ := AM (kB hk BK103.out NB103_102.out (by simp)); have _ := AM (hb); have _ := AM (hi); clear HO_104000 HO_104001 BK101 BK103 HB HI102; rename_i HO_104000 HO_104001 BK101 BK103 HB HI102; (try clear hb); (try clear hb2); (try clear hk); (try clear hi)) | ((with_reducible refine gate_dst (N := 7) rfl ?_); refine bE (cs := #[.int .i64 0, .int .i64 0, .string (⟨#[]⟩ : ByteArray)]) (t := 48) ?_; intro gb130 hg w38 hbox hb; have _ := AM (Kd.S_below (sX HO_104000.out) hb); have _ := AM (Kd.R_below (Kd.R_elderB (rX HO_104001.out) gb130 (Nat.le_of_eq hg.symm)) hb); have _ := AM (nB BK101.out hb); have _ := AM (nB BK103.out hb); have _ := AM (IsS39.below (iX39_6_spec_BrokerRead HI102.out) hb); have _ := AM (below_step (bI39_102_spec_BrokerRead HB.out) hb); have _ := AM (hbox); have n7_ := AM ((by rw [hg]; exact (bZ (bI39_102_spec_BrokerRead HB.out)) : w.heap.size ≤ gb130)); have _ := AM (lX hg BK101.out); have _ := AM (lX hg BK101.out).symm; have _ := AM (lX hg BK103.out); have _ := AM (lX hg BK103.out).symm; have _ := AM ((by rw [hg]; exact Nat.ne_of_lt (IsS39.lt (show IsS39 w _ gb102 t127 t128 t129 from iX39_6_spec_BrokerRead HI102.out)) : gb102 ≠ gb130)); have _ := AM ((by rw [hg]; exact Nat.ne_of_gt (IsS39.lt (show IsS39 w _ gb102 t127 t128 t129 from iX39_6_spec_BrokerRead HI102.out)) : gb130 ≠ gb102)); clear HO_104000 HO_104001 BK101 BK103 HI102 HB; rename_i HO_104000 HO_104001 BK101 BK103 HI102 HB BK130 NB101_130 NB130_101 NB103_130 NB130_103 NB102_130 NB130_102; have GW130 := n7_; have GE130 := n7_; clear n7_; clear hb hbox hg; have hnb39 := NB130_101.out; have hnc39 := NB101_130.out; have hnb40 := NB130_103.out; have hnc40 := NB103_130.out; have hnb41 := NB130_102.out; have hnc41 := NB102_130.out; have hcz42 := q3 BK130.out; have hfz42 := fZ BK130.out) | ((with_reducible refine gate_callee (f := 17) rfl ?_); refine gL (some 53) Try.func17 #[.pointer (some ⟨gb102, 0, none⟩)] ?_; (with_reducible refine (spec_l06Reader_num.calls kj28 gb102 t127 t128 t129 t131 t132 t133 t134 w _ ?side1 ?side2 A34.out).mono ?_); (case side1 => exact (iX39_6_spec_BrokerRead HI102.out)); (case side2 => exact (bI39_102_spec_BrokerRead HB.out)); rintro e w43 ⟨rfl, hi, hb, hk⟩; refine ⟨_, rfl, ?_⟩; have _ := AM (Kd.S_mono (Kd.S_keep (IsS39.apartS (show IsS39 w _ gb102 t127 t128 t129 from iX39_6_spec_BrokerRead HI102.out) (by (with_reducible repeat (first | apply Kd.S_alloc | apply Kd.S_drewN | apply Kd.S_drew)); exact (Kd.S_mono (Kd.S_far (p := ⟨gb130, 2, none⟩) (Kd.S_far (p := ⟨gb130, 1, none⟩) (Kd.S_far (p := ⟨gb130, 0, none⟩) (Kd.S_types HO_104000.out BK130.out (by decide)) (fun _ hk => hk.2) (.int .i64 t126)) (fun _ hk => hk.2) (.int .i64 0)) (fun _ hk => hk.2) (.string (⟨#[]⟩ : ByteArray))) (fun _ h_ => h_.1))) (by decide)) hk (fun _ h => h.2)) (fun _ h => h.1)); have _ := AM (Kd.R_mono (Kd.R_keep (IsS39.apart (show IsS39 w _ gb102 t127 t128 t129 from iX39_6_spec_BrokerRead HI102.out) (by (with_reducible repeat (first | apply rA | apply rN | apply rD)); exact (Kd.R_mono (Kd.R_far (p := ⟨gb130, 2, none⟩) (Kd.R_far (p := ⟨gb130, 1, none⟩) (Kd.R_far (p := ⟨gb130, 0, none⟩) (Kd.R_mono HO_104001.out (fun k_ hk => (⟨hk, hk.2⟩ : _ ∧ k_ ≠ gb130))) (fun _ hk => hk.2) (.int .i64 t126)) (fun _ hk => hk.2) (.int .i64 0)) (fun _ hk => hk.2) (.string (⟨#[]⟩ : ByteArray))) (fun _ h_ => h_.1))) (by decide)) hk (fun _ h => h.2)) (fun _ h => h.1)); have _ := AM (KeepBut.blk hk (g' := gb101) (o := .cells #[.slice none 0 0, .slice none 0 0, .string (⟨#[]⟩ : ByteArray), .int .i64 0] 27 (0, 0)) (by (iterate 3 refine kF NB101_130.out ?_); exact kX BK101.out) NB101_102.out (by simp)); have _ := AM (KeepBut.blk hk (g' := gb103) (o := .cells #[u104000, u104001] 25 (0, 0)) (by (iterate 3 refine kF NB103_130.out ?_); exact kX BK103.out) NB103_102.out (by simp)); have _ := AM (KeepBut.blk hk (g' := gb130) (o := .cells #[.int .i64 t126, .int .i64 0, .string (⟨#[]⟩ : ByteArray)] 48 (0, 0)) (by refine kP (cs := #[.int .i64 t126, .int .i64 0, .string (⟨#[]⟩ : ByteArray)]) 2 ?_; refine kP (cs := #[.int .i64 t126, .int .i64 0, .string (⟨#[]⟩ : ByteArray)]) 1 ?_; refine kP (cs := #[.int .i64 0, .int .i64 0, .string (⟨#[]⟩ : ByteArray)]) 0 ?_; exact kX BK130.out) NB130_102.out (by simp)); have _ := AM (hb); have _ := AM (hi); clear HO_104000 HO_104001 BK101 BK103 BK130 HB HI102; rename_i HO_104000 HO_104001 BK101 BK103 BK130 HB HI102; (try clear hb); (try clear hb2); (try clear hk); (try clear hi); have hcz44 := q3 BK130.out; have hfz44 := fZ BK130.out) | ((with_reducible refine gate_callee (f := 18) rfl ?_); refine gL (some 56) Try.func18 #[.pointer (some ⟨gb102, 0, none⟩)] ?_; (with_reducible refine (spec_l06Reader_text.calls kj28 gb102 t132 t133 t134 t135 t136 t137 t138 w _ ?side1 ?side2 A35.out).mono ?_); (case side1 => exact (iX39_6_spec_BrokerRead HI102.out)); (case side2 => exact (bI39_102_spec_BrokerRead HB.out)); rintro e w45 ⟨rfl, hi, hb, hk⟩; refine ⟨_, rfl, ?_⟩; have _ := AM (Kd.S_mono (Kd.S_keep (IsS39.apartS (show IsS39 w _ gb102 t132 t133 t134 from iX39_6_spec_BrokerRead HI102.out) (by (with_reducible repeat (first | apply Kd.S_alloc | apply Kd.S_drewN | apply Kd.S_drew)); exact (Kd.S_mono (Kd.S_far (p := ⟨gb130, 1, none⟩) (Kd.S_types HO_104000.out BK130.out (by decide)) (fun _ hk => hk.2) (.int .i64 t131)) (fun _ h_ => h_.1))) (by decide)) hk (fun _ h => h.2)) (fun _ h => h.1)); have _ := AM (Kd.R_mono (Kd.R_keep (IsS39.apart (show IsS39 w _ gb102 t132 t133 t134 from iX39_6_spec_BrokerRead HI102.out) (by (with_reducible repeat (first | apply rA | apply rN | apply rD)); exact (Kd.R_mono (Kd.R_far (p := ⟨gb130, 1, none⟩) (Kd.R_mono HO_104001.out (fun k_ hk => (⟨hk, hk.2⟩ : _ ∧ k_ ≠ gb130))) (fun _ hk => hk.2) (.int .i64 t131)) (fun _ h_ => h_.1))) (by decide)) hk (fun _ h => h.2)) (fun _ h => h.1)); have _ := AM (KeepBut.blk hk (g' := gb101) (o := .cells #[.slice none 0 0, .slice none 0 0, .string (⟨#[]⟩ : ByteArray), .int .i64 0] 27 (0, 0)) (by refine kF NB101_130.out ?_; exact kX BK101.out) NB101_102.out (by simp)); have _ := AM (KeepBut.blk hk (g' := gb103) (o := .cells #[u104000, u104001] 25 (0, 0)) (by refine kF NB103_130.out ?_; exact kX BK103.out) NB103_102.out (by simp)); have _ := AM (KeepBut.blk hk (g' := gb130) (o := .cells #[.int .i64 t126, .int .i64 t131, .string (⟨#[]⟩ : ByteArray)] 48 (0, 0)) (by refine kP (cs := #[.int .i64 t126, .int .i64 0, .string (⟨#[]⟩ : ByteArray)]) 1 ?_; exact kX BK130.out) NB130_102.out (by simp)); have _ := AM (hb); have _ := AM (hi); clear HO_104000 HO_104001 BK101 BK103 BK130 HB HI102; rename_i HO_104000 HO_104001 BK101 BK103 BK130 HB HI102; (try clear hb); (try clear hb2); (try clear hk); (try clear hi); have hcz46 := q3 BK130.out; have hfz46 := fZ BK130.out; have hnb47 := NB103_101.out; have hnc47 := NB101_103.out; have hnb48 := NB103_102.out; have hnc48 := NB102_103.out; have hcz49 := q2 BK103.out; have hfz49 := fZ BK103.out) | ((with_reducible refine gate_builtin (b := .append) (xs := #[.tmp 59, .tmp 61]) rfl ?_); at_builtin; refine Kd.R_append k48 (w0 := w) w.heap.size rfl (.tmp 59) (.tmp 61) 23 48 (.agg #[(.int .i64 0), (.int .i64 0), (.string ⟨#[]⟩)]) 32 rfl Try.underlying23 info48 rfl (by decide) (by omega) u104001 x104001_2 (⟨t126, t131, t135⟩ : S48) [.int .i64 t126, .int .i64 t131, .string t135] (fun k_ => k_ ≠ gb130) (fun _ => False) rfl (by first | (go_simp; done) | (go_simp; rfl)) ?aP (fun _ hk => hk.elim) ?aF ?aO ?aB ?aS ?aL ?_; (case aP => exact k48_mkM _ _ _ (⟨t126, t131, t135⟩ : S48)); (case aB => exact (bI39_102_spec_BrokerRead HB.out)); (case aF => exact (fun k_ hk => Kd.freshB (g := gb130) (o := .cells #[.int .i64 t126, .int .i64 t131, .string t135] 48 (0, 0)) (by refine kP (cs := #[.int .i64 t126, .int .i64 t131, .string (⟨#[]⟩ : ByteArray)]) 2 ?_; exact kX BK130.out) k_ hk)); (case aO => exact (by (with_reducible repeat (first | apply rA | apply rN | apply rD)); exact Kd.R_mono (Kd.R_far (p := ⟨gb130, 2, none⟩) (Kd.R_mono HO_104001.out (fun k_ hk => (⟨hk, hk.2⟩ : _ ∧ k_ ≠ gb130))) (fun _ hk => hk.2) (.string t135)) (fun _ hk => hk.1.2))); (case aS => exact (bZ (bI39_102_spec_BrokerRead HB.out))); (case aL => have := LMc36.out; omega); intro v140 w50 ho hb hg hat; rw [← Ny139.out] at ho; have _ := AM (Kd.S_over' (by (with_reducible repeat (first | apply Kd.S_alloc | apply Kd.S_drewN | apply Kd.S_drew)); exact (Kd.S_mono (Kd.S_far (p := ⟨gb130, 2, none⟩) (Kd.S_types HO_104000.out BK130.out (by decide)) (fun _ hk => hk.2) (.string t135)) (fun _ h_ => h_.1))) (Kd.R_typed (by (with_reducible repeat (first | apply rA | apply rN | apply rD)); exact (Kd.R_mono (Kd.R_far (p := ⟨gb130, 2, none⟩) (Kd.R_mono HO_104001.out (fun k_ hk => (⟨hk, hk.2⟩ : _ ∧ k_ ≠ gb130))) (fun _ hk => hk.2) (.string t135)) (fun _ h_ => h_.1)))) (by decide) hg); have _ := AM (blk_grown (g := gb101) (o := .cells #[.slice none 0 0, .slice none 0 0, .string (⟨#[]⟩ : ByteArray), .int .i64 0] 27 (0, 0)) (by refine kF NB101_130.out ?_; exact kX BK101.out) hg (Kd.R_ne HO_104001.out BK101.out (by decide))); have _ := AM (blk_grown (g := gb103) (o := .cells #[u104000, u104001] 25 (0, 0)) (by refine kF NB103_130.out ?_; exact kX BK103.out) hg (Kd.R_ne HO_104001.out BK103.out (by decide))); have _ := AM (IsS39.grown (iX39_6_spec_BrokerRead HI102.out) hg (IsS39.own_ne HI102.out HO_104001.out (by decide))); have _ := AM (blk_grown (g := gb130) (o := .cells #[.int .i64 t126, .int .i64 t131, .string t135] 48 (0, 0)) (by refine kP (cs := #[.int .i64 t126, .int .i64 t131, .string (⟨#[]⟩ : ByteArray)]) 2 ?_; exact kX BK130.out) hg (Kd.R_away HO_104001.out (fun _ hk => hk.2))); have _ := AM (hb); have _ := AM (ho); clear HO_104000 BK101 BK103 HI102 BK130 HB HO_104001; rename_i HO_104000 BK101 BK103 HI102 BK130 HB HO141; clear ho hb hg hat; obtain ⟨Ao51, co51, eo51⟩ := Kd.R_slice HO141.out; subst eo51; have hcz52 := q2 BK103.out; have hfz52 := fZ BK103.out))
         go_roundg kj28
         case measure => have := HJ5.out; have := HK2.out; have := HJ28.out; omega
         case rel => exact ⟨(wrap64 (x6_2 - 1)), (t136), (t137), (t138), (y139), (.slice Ao51 y139.length co51), (by first | rfl | (simp; done) | (simp [*]; done)), H', ⟨by have := HJ5.out; have := HK2.out; have := HJ28.out; omega⟩, ⟨by (with_reducible repeat (first | apply Kd.S_alloc | apply Kd.S_drewN | apply Kd.S_drew)); exact Kd.S_mono (Kd.S_far (p := ⟨gb103, 1, none⟩) (Kd.S_types HO_104000.out BK103.out (by decide)) (fun _ hk => hk.2) (.slice Ao51 y139.length co51)) (fun _ hk => trivial)⟩, ⟨by (with_reducible repeat (first | apply rA | apply rN | apply rD)); exact Kd.R_mono (Kd.R_far (p := ⟨gb103, 1, none⟩) (Kd.R_types HO141.out BK103.out (by decide)) (fun _ hk => hk.2) (.slice Ao51 y139.length co51)) (fun _ hk => trivial)⟩, ⟨by refine kF NB101_103.out ?_; exact kX BK101.out⟩, ⟨by refine kP (cs := #[u104000, u104001]) 1 ?_; exact kX BK103.out⟩, ⟨iX39_6_spec_BrokerRead HI102.out⟩, ⟨bI39_102_spec_BrokerRead HB.out⟩⟩
        rw [if_neg c36] at H; exact absurd H (by simp)
       replace c32 := oE c32; subst c32; rw [if_neg nft] at H; by_cases c53 : x103002_2 = true
       ·
        subst c53; rw [if_pos rfl] at H; simp only [Option.some.injEq, Prod.mk.injEq] at H
        obtain ⟨rfl, rfl, rfl, rfl⟩ := H; obtain ⟨HGz54, hgz54⟩ := HI102.out; have hcz54_0 := cellS39_0 HGz54; have hcz54_1 := cellS39_1 HGz54; have hcz54_2 := cellS39_2 HGz54; have hfz54_0 := fZ HGz54 0; have hfz54_1 := fZ HGz54 1; have hfz54_2 := fZ HGz54 2; clear HGz54 hgz54; have hnb55 := NB101_103.out; have hnc55 := NB103_101.out; have hnb56 := NB101_102.out; have hnc56 := NB102_101.out; have hcz57 := q4 BK101.out; have hfz57 := fZ BK101.out; go_wp2
        refine bodyPost_ret (results_cell_row rfl _ _ gb101 27 #[.slice none 0 0, .slice none 0 0, .string (⟨#[]⟩ : ByteArray), .int .i64 3] (0, 0) _ rfl (by refine kP (cs := #[.slice none 0 0, .slice none 0 0, .string (⟨#[]⟩ : ByteArray), .int .i64 0]) 3 ?_; refine kP (cs := #[.slice none 0 0, .slice none 0 0, .string (⟨#[]⟩ : ByteArray), .int .i64 0]) 2 ?_; refine kP (cs := #[.slice none 0 0, .slice none 0 0, .string (⟨#[]⟩ : ByteArray), .int .i64 0]) 1 ?_; refine kP (cs := #[.slice none 0 0, .slice none 0 0, .string (⟨#[]⟩ : ByteArray), .int .i64 0]) 0 ?_; exact kX BK101.out) Try.underlying27 rfl (by kernel_rfl)) rfl ?_; exact ⟨_, _, by first | rfl | (simp [*, errW_none, errW_some] <;> rfl), by first | exact Kd.S_nil _ _ _ _ _ | exact Kd.N_nil _ _ _ _ _ | exact Kd.V_nil _ _ _ _ _ | exact Kd.Q_nil _ _ _ _ _ | exact Kd.R_nil _ _ _ _ _, by first | exact Kd.R_nil _ _ _ _ _ | exact Kd.N_nil _ _ _ _ _ | exact Kd.V_nil _ _ _ _ _ | exact Kd.Q_nil _ _ _ _ _ | exact Kd.S_nil _ _ _ _ _, bI39_102_spec_BrokerRead HB.out⟩
       replace c53 := oE c53; subst c53; rw [if_neg nft] at H; by_cases c58 : a0.toList = ([] : List UInt8)
       ·
        rw [if_pos c58] at H; have c58b0 : (a0.toList == ([] : List UInt8)) = true := beq_iff_eq.mpr c58; have c58b1 : (a0.toList != ([] : List UInt8)) = false := bne_eq_false_iff_eq.mpr c58; clear c58; simp only [Option.some.injEq, Prod.mk.injEq] at H
        obtain ⟨rfl, rfl, rfl, rfl⟩ := H; obtain ⟨HGz59, hgz59⟩ := HI102.out; have hcz59_0 := cellS39_0 HGz59; have hcz59_1 := cellS39_1 HGz59; have hcz59_2 := cellS39_2 HGz59; have hfz59_0 := fZ HGz59 0; have hfz59_1 := fZ HGz59 1; have hfz59_2 := fZ HGz59 2; clear HGz59 hgz59; have hnb60 := NB101_103.out; have hnc60 := NB103_101.out; have hnb61 := NB101_102.out; have hnc61 := NB102_101.out; have hcz62 := q4 BK101.out; have hfz62 := fZ BK101.out; go_wp2
        refine bodyPost_ret (results_cell_row rfl _ _ gb101 27 #[.slice none 0 0, .slice none 0 0, .string (⟨#[]⟩ : ByteArray), .int .i64 3] (0, 0) _ rfl (by refine kP (cs := #[.slice none 0 0, .slice none 0 0, .string (⟨#[]⟩ : ByteArray), .int .i64 0]) 3 ?_; refine kP (cs := #[.slice none 0 0, .slice none 0 0, .string (⟨#[]⟩ : ByteArray), .int .i64 0]) 2 ?_; refine kP (cs := #[.slice none 0 0, .slice none 0 0, .string (⟨#[]⟩ : ByteArray), .int .i64 0]) 1 ?_; refine kP (cs := #[.slice none 0 0, .slice none 0 0, .string (⟨#[]⟩ : ByteArray), .int .i64 0]) 0 ?_; exact kX BK101.out) Try.underlying27 rfl (by kernel_rfl)) rfl ?_; exact ⟨_, _, by first | rfl | (simp [*, errW_none, errW_some] <;> rfl), by first | exact Kd.S_nil _ _ _ _ _ | exact Kd.N_nil _ _ _ _ _ | exact Kd.V_nil _ _ _ _ _ | exact Kd.Q_nil _ _ _ _ _ | exact Kd.R_nil _ _ _ _ _, by first | exact Kd.R_nil _ _ _ _ _ | exact Kd.N_nil _ _ _ _ _ | exact Kd.V_nil _ _ _ _ _ | exact Kd.Q_nil _ _ _ _ _ | exact Kd.S_nil _ _ _ _ _, bI39_102_spec_BrokerRead HB.out⟩
       rw [if_neg c58] at H; have c58b0 : (a0.toList == ([] : List UInt8)) = false := beq_eq_false_iff_ne.mpr c58; have c58b1 : (a0.toList != ([] : List UInt8)) = true := bne_iff_ne.mpr c58; replace H := oM H; obtain ⟨t142, A630, H⟩ := H; have A63 := AM A630; clear A630; by_cases c64 : t142.toList = a0.toList
       ·
        rw [if_pos c64] at H; have c64b0 : (t142.toList == a0.toList) = true := beq_iff_eq.mpr c64; have c64b1 : (t142.toList != a0.toList) = false := bne_eq_false_iff_eq.mpr c64; clear c64; simp only [Option.some.injEq, Prod.mk.injEq] at H
        obtain ⟨rfl, rfl, rfl, rfl⟩ := H; obtain ⟨HGz65, hgz65⟩ := HI102.out; have hcz65_0 := cellS39_0 HGz65; have hcz65_1 := cellS39_1 HGz65; have hcz65_2 := cellS39_2 HGz65; have hfz65_0 := fZ HGz65 0; have hfz65_1 := fZ HGz65 1; have hfz65_2 := fZ HGz65 2; clear HGz65 hgz65; have hnb66 := NB103_101.out; have hnc66 := NB101_103.out; have hnb67 := NB103_102.out; have hnc67 := NB102_103.out; have hcz68 := q2 BK103.out; have hfz68 := fZ BK103.out; obtain ⟨Ao69, co69, eo69⟩ := Kd.S_slice HO_104000.out; subst eo69; obtain ⟨Ao70, co70, eo70⟩ := Kd.R_slice HO_104001.out; subst eo70; go_wp2_with (first | (go_at_call 13; (with_reducible refine (spec_BrokerBytes.calls kj28 _ _ x104000_5 _ _ x104001_2 t142 _ ?side1 ?side2 ?side3 ?side4 A63.out).mono ?_); (case side1 => exact cX (Kd.S_reads' HO_104000.out).2.2); (case side2 => exact (Kd.S_reads' HO_104000.out).2.1); (case side3 => exact cX (Kd.R_reads' HO_104001.out).2.2); (case side4 => exact (Kd.R_reads' HO_104001.out).2.1); rintro e w71 ⟨rfl, hb⟩; have _ := AM (Kd.S_below (sX HO_104000.out) hb); have _ := AM (Kd.R_below (rX HO_104001.out) hb); have _ := AM (nB BK101.out hb); have _ := AM (nB BK103.out hb); have _ := AM (IsS39.below (iX39_6_spec_BrokerRead HI102.out) hb); have _ := AM (below_step (bI39_102_spec_BrokerRead HB.out) hb); clear HO_104000 HO_104001 BK101 BK103 HI102 HB; rename_i HO_104000 HO_104001 BK101 BK103 HI102 HB; (try clear hb); (try clear hb2); (try clear hk); (try clear hi); have hcz72 := q2 BK103.out; have hfz72 := fZ BK103.out; have hnb73 := NB101_102.out; have hnc73 := NB102_101.out; have hcz74 := q4 BK101.out; have hfz74 := fZ BK101.out))
        refine bodyPost_ret (results_cell_row rfl _ _ gb101 27 #[.slice Ao69 x104000_5.length co69, .slice Ao70 x104001_2.length co70, .string (⟨#[]⟩ : ByteArray), .int .i64 0] (0, 0) _ rfl (by refine kP (cs := #[.slice Ao69 x104000_5.length co69, .slice Ao70 x104001_2.length co70, .string (⟨#[]⟩ : ByteArray), .int .i64 0]) 3 ?_; refine kP (cs := #[.slice Ao69 x104000_5.length co69, .slice Ao70 x104001_2.length co70, .string (⟨#[]⟩ : ByteArray), .int .i64 0]) 2 ?_; refine kP (cs := #[.slice Ao69 x104000_5.length co69, .slice none 0 0, .string (⟨#[]⟩ : ByteArray), .int .i64 0]) 1 ?_; refine kP (cs := #[.slice none 0 0, .slice none 0 0, .string (⟨#[]⟩ : ByteArray), .int .i64 0]) 0 ?_; exact kX BK101.out) Try.underlying27 rfl (by kernel_rfl)) rfl ?_; exact ⟨_, _, by first | rfl | (simp [*, errW_none, errW_some] <;> rfl), by (with_reducible repeat (first | apply Kd.S_alloc | apply Kd.S_drewN | apply Kd.S_drew)); exact Kd.S_mono (Kd.S_far (p := ⟨gb101, 3, none⟩) (Kd.S_far (p := ⟨gb101, 2, none⟩) (Kd.S_far (p := ⟨gb101, 1, none⟩) (Kd.S_far (p := ⟨gb101, 0, none⟩) (Kd.S_types HO_104000.out BK101.out (by decide)) (fun _ hk => hk.2) (.slice Ao69 x104000_5.length co69)) (fun _ hk => hk.2) (.slice Ao70 x104001_2.length co70)) (fun _ hk => hk.2) (.string (⟨#[]⟩ : ByteArray))) (fun _ hk => hk.2) (.int .i64 0)) (fun _ hk => trivial), by (with_reducible repeat (first | apply rA | apply rN | apply rD)); exact Rf4 HO_104001.out BK101.out (by decide) (fun _ hk => trivial), bI39_102_spec_BrokerRead HB.out⟩
       rw [if_neg c64] at H; have c64b0 : (t142.toList == a0.toList) = false := beq_eq_false_iff_ne.mpr c64; have c64b1 : (t142.toList != a0.toList) = true := bne_iff_ne.mpr c64; simp only [Option.some.injEq, Prod.mk.injEq] at H
       obtain ⟨rfl, rfl, rfl, rfl⟩ := H; obtain ⟨HGz75, hgz75⟩ := HI102.out; have hcz75_0 := cellS39_0 HGz75; have hcz75_1 := cellS39_1 HGz75; have hcz75_2 := cellS39_2 HGz75; have hfz75_0 := fZ HGz75 0; have hfz75_1 := fZ HGz75 1; have hfz75_2 := fZ HGz75 2; clear HGz75 hgz75; have hnb76 := NB103_101.out; have hnc76 := NB101_103.out; have hnb77 := NB103_102.out; have hnc77 := NB102_103.out; have hcz78 := q2 BK103.out; have hfz78 := fZ BK103.out; obtain ⟨Ao79, co79, eo79⟩ := Kd.S_slice HO_104000.out; subst eo79; obtain ⟨Ao80, co80, eo80⟩ := Kd.R_slice HO_104001.out; subst eo80; go_wp2_with (first | (go_at_call 13; (with_reducible refine (spec_BrokerBytes.calls kj28 _ _ x104000_5 _ _ x104001_2 t142 _ ?side1 ?side2 ?side3 ?side4 A63.out).mono ?_); (case side1 => exact cX (Kd.S_reads' HO_104000.out).2.2); (case side2 => exact (Kd.S_reads' HO_104000.out).2.1); (case side3 => exact cX (Kd.R_reads' HO_104001.out).2.2); (case side4 => exact (Kd.R_reads' HO_104001.out).2.1); rintro e w81 ⟨rfl, hb⟩; have _ := AM (Kd.S_below (sX HO_104000.out) hb); have _ := AM (Kd.R_below (rX HO_104001.out) hb); have _ := AM (nB BK101.out hb); have _ := AM (nB BK103.out hb); have _ := AM (IsS39.below (iX39_6_spec_BrokerRead HI102.out) hb); have _ := AM (below_step (bI39_102_spec_BrokerRead HB.out) hb); clear HO_104000 HO_104001 BK101 BK103 HI102 HB; rename_i HO_104000 HO_104001 BK101 BK103 HI102 HB; (try clear hb); (try clear hb2); (try clear hk); (try clear hi); have hnb82 := NB101_102.out; have hnc82 := NB102_101.out; have hcz83 := q4 BK101.out; have hfz83 := fZ BK101.out))
       refine bodyPost_ret (results_cell_row rfl _ _ gb101 27 #[.slice none 0 0, .slice none 0 0, .string (⟨#[]⟩ : ByteArray), .int .i64 3] (0, 0) _ rfl (by refine kP (cs := #[.slice none 0 0, .slice none 0 0, .string (⟨#[]⟩ : ByteArray), .int .i64 0]) 3 ?_; refine kP (cs := #[.slice none 0 0, .slice none 0 0, .string (⟨#[]⟩ : ByteArray), .int .i64 0]) 2 ?_; refine kP (cs := #[.slice none 0 0, .slice none 0 0, .string (⟨#[]⟩ : ByteArray), .int .i64 0]) 1 ?_; refine kP (cs := #[.slice none 0 0, .slice none 0 0, .string (⟨#[]⟩ : ByteArray), .int .i64 0]) 0 ?_; exact kX BK101.out) Try.underlying27 rfl (by kernel_rfl)) rfl ?_; exact ⟨_, _, by first | rfl | (simp [*, errW_none, errW_some] <;> rfl), by first | exact Kd.S_nil _ _ _ _ _ | exact Kd.N_nil _ _ _ _ _ | exact Kd.V_nil _ _ _ _ _ | exact Kd.Q_nil _ _ _ _ _ | exact Kd.R_nil _ _ _ _ _, by first | exact Kd.R_nil _ _ _ _ _ | exact Kd.N_nil _ _ _ _ _ | exact Kd.V_nil _ _ _ _ _ | exact Kd.Q_nil _ _ _ _ _ | exact Kd.S_nil _ _ _ _ _, bI39_102_spec_BrokerRead HB.out⟩

/-! ### impl_within: function 47 -/

def impl_within.f (a0 : Int) (a1 : Int) (a2 : Int) : Option (Bool) := if a0 ≥ a1 then (some (decide (a0 ≤ a2))) else (some false)
set_option maxHeartbeats 60000000 in
set_option maxRecDepth 100000 in
theorem impl_within.calls (a0 : Int) (a1 : Int) (a2 : Int) (r : Bool) (w : World) (h : impl_within.f a0 a1 a2 = some r) :
    Calls Try.prog 47 #[.int .i64 a0, .int .i64 a1, .int .i64 a2] w fun e w' => e = .returned (.bool r) ∧ Drawn0 w w' := by
 have H : (if a0 ≥ a1 then (some (decide (a0 ≤ a2))) else (some false)) = some r := h; clear h; by_cases c4 : a0 ≥ a1
 ·
  rw [if_pos c4] at H; have c4b0 : decide (a1 ≤ a0) = true := dY c4; clear c4; obtain rfl := Option.some.inj H; go_enter Try.func47, Try.ntmps47
  go_wp2
  go_ret
  exact ⟨by first | rfl | (simp; done) | (simp [*]; done), by repeat (first | exact Drawn0.refl _ | apply Drawn0.step)⟩
 rw [if_neg c4] at H; have c4b0 : decide (a1 ≤ a0) = false := dN c4; clear c4; obtain rfl := Option.some.inj H; go_enter Try.func47, Try.ntmps47
 go_wp2
 go_ret
 exact ⟨by first | rfl | (simp; done) | (simp [*]; done), by repeat (first | exact Drawn0.refl _ | apply Drawn0.step)⟩

/-! ### impl_isName: function 71 -/

def impl_isName.l0 : Nat → ByteArray → Int → Int → Option (Bool)
  | 0, _, _, _ => none
  | k + 1, x0, x7, x8 => if x8 < x7 then (if 0 ≤ x8 then (if x8 < (x0.size : Int) then (if (bt x0 x8) ≥ 97 then (if ((bt x0 x8) ≤ 122) then (impl_isName.l0 k x0 x7 (wrap64 (x8 + 1))) else (if x8 = 0 then (some false) else (if (bt x0 x8) = 95 then (impl_isName.l0 k x0 x7 (wrap64 (x8 + 1))) else (if (bt x0 x8) < 48 then (some false) else (if (bt x0 x8) > 57 then (some false) else (impl_isName.l0 k x0 x7 (wrap64 (x8 + 1)))))))) else (if x8 = 0 then (some false) else (if (bt x0 x8) = 95 then (impl_isName.l0 k x0 x7 (wrap64 (x8 + 1))) else (if (bt x0 x8) < 48 then (some false) else (if (bt x0 x8) > 57 then (some false) else (impl_isName.l0 k x0 x7 (wrap64 (x8 + 1)))))))) else (none)) else (none)) else (if (x0.size : Int) ≥ 1 then (some (decide ((x0.size : Int) ≤ 20))) else (some false))
def impl_isName.f (k : Nat) (a0 : ByteArray) : Option (Bool) := impl_isName.l0 k a0 (a0.size : Int) 0
theorem impl_isName.mono_l : ∀ k, (∀ y0 y1 y2, LeO (impl_isName.l0 k y0 y1 y2) (impl_isName.l0 (k + 1) y0 y1 y2))
  | 0 => fun _ _ _ r h => by simp [impl_isName.l0] at h
  | k + 1 => by
    have ih0 := impl_isName.mono_l k
    · intro y0 y1 y2
      unfold impl_isName.l0
      repeat' first | (with_reducible first | exact ih0 _ _ _ | exact oR _ | exact oN _ | refine oI ?_ ?_ | refine oB ?_ fun _ => ?_) | exact ih0 _ _ _ | exact oN _ | refine oI ?_ ?_ | refine oB ?_ fun _ => ?_
theorem impl_isName.mono : ∀ a0 k, LeO (impl_isName.f k a0) (impl_isName.f (k + 1) a0) := by
  intro a0 k; have ih0 := impl_isName.mono_l k; unfold impl_isName.f
  repeat' first | (with_reducible first | exact ih0 _ _ _ | exact oR _ | exact oN _ | refine oI ?_ ?_ | refine oB ?_ fun _ => ?_) | exact ih0 _ _ _ | exact oN _ | refine oI ?_ ?_ | refine oB ?_ fun _ => ?_
set_option maxHeartbeats 60000000 in
set_option maxRecDepth 100000 in
theorem impl_isName.calls (k : Nat) (a0 : ByteArray) (r : Bool) (w : World) (h : impl_isName.f k a0 = some r) :
    Calls Try.prog 71 #[.string a0] w fun e w' => e = .returned (.bool r) ∧ Drawn0 w w' := by
 have H : (impl_isName.l0 k a0 (a0.size : Int) 0) = some r := h; clear h; have H' := AM H; clear H; go_enter Try.func71, Try.ntmps71
 go_wp2
 go_loopg [8] k (fun kq v8 w' => ∃ (x8_1 : Int), v8 = .int .i64 x8_1 ∧ Aside0 (impl_isName.l0 kq a0 (a0.size : Int) x8_1 = some r) ∧ Aside0 (kq ≤ k) ∧ Drawn0 w w')
 case atStart => exact ⟨(0), (by first | rfl | (simp; done) | (simp [*]; done)), H', ⟨Nat.le_refl _⟩, by repeat (first | exact Drawn0.refl _ | apply Drawn0.step)⟩
 case round =>
  clear H'; obtain ⟨x8_1, rfl, HA, HK1, ⟨m1, rfl⟩⟩ := hrel
  cases gk with
  | zero => exact absurd HA.out (by simp [impl_isName.l0])
  | succ k1 =>
   have H := HA.out; clear HA; simp only [impl_isName.l0] at H
   by_cases c2 : x8_1 < (a0.size : Int)
   ·
    rw [if_pos c2] at H; have c2b0 := dY c2; clear c2; by_cases c3 : 0 ≤ x8_1
    ·
     rw [if_pos c3] at H; have c3b0 := dY c3; clear c3; by_cases c4 : x8_1 < (a0.size : Int)
     ·
      rw [if_pos c4] at H; have c4b0 := dY c4; clear c4; by_cases c6 : (bt a0 x8_1) ≥ 97
      ·
       rw [if_pos c6] at H; have c6b0 : decide (97 ≤ (bt a0 x8_1)) = true := dY c6; clear c6; by_cases c7 : ((bt a0 x8_1) ≤ 122)
       ·
        rw [if_pos c7] at H; have c7b0 : decide ((bt a0 x8_1) ≤ 122) = true := dY c7; clear c7; have H' := AM H; clear H; have p5 : 0 ≤ (x8_1 : Int) := oD ‹_›; have q5 : x8_1 < (a0.size : Int) := oD ‹_›; have hx5 := bt_at a0 x8_1; replace p5 := eq_true p5; replace q5 := eq_true q5; go_wp2
        go_roundg k1
        case measure => have := HK1.out; omega
        case rel => exact ⟨(wrap64 (x8_1 + 1)), (by first | rfl | (simp; done) | (simp [*]; done)), H', ⟨by have := HK1.out; omega⟩, by repeat (first | exact Drawn0.refl _ | apply Drawn0.step)⟩
       rw [if_neg c7] at H; have c7b0 : decide ((bt a0 x8_1) ≤ 122) = false := dN c7; clear c7; by_cases c8 : x8_1 = 0
       ·
        rw [if_pos c8] at H; have c8b0 : (x8_1 == 0) = true := beq_iff_eq.mpr c8; have c8b1 : (x8_1 != 0) = false := bne_eq_false_iff_eq.mpr c8; clear c8; obtain rfl := Option.some.inj H; have p5 : 0 ≤ (x8_1 : Int) := oD ‹_›; have q5 : x8_1 < (a0.size : Int) := oD ‹_›; have hx5 := bt_at a0 x8_1; replace p5 := eq_true p5; replace q5 := eq_true q5; go_wp2
        go_ret
        exact ⟨by first | rfl | (simp; done) | (simp [*]; done), by repeat (first | exact Drawn0.refl _ | apply Drawn0.step)⟩
       rw [if_neg c8] at H; have c8b0 : (x8_1 == 0) = false := beq_eq_false_iff_ne.mpr c8; have c8b1 : (x8_1 != 0) = true := bne_iff_ne.mpr c8; by_cases c9 : (bt a0 x8_1) = 95
       ·
        rw [if_pos c9] at H; have c9b0 : ((bt a0 x8_1) == 95) = true := beq_iff_eq.mpr c9; have c9b1 : ((bt a0 x8_1) != 95) = false := bne_eq_false_iff_eq.mpr c9; clear c9; have H' := AM H; clear H; have p5 : 0 ≤ (x8_1 : Int) := oD ‹_›; have q5 : x8_1 < (a0.size : Int) := oD ‹_›; have hx5 := bt_at a0 x8_1; replace p5 := eq_true p5; replace q5 := eq_true q5; go_wp2
        go_roundg k1
        case measure => have := HK1.out; omega
        case rel => exact ⟨(wrap64 (x8_1 + 1)), (by first | rfl | (simp; done) | (simp [*]; done)), H', ⟨by have := HK1.out; omega⟩, by repeat (first | exact Drawn0.refl _ | apply Drawn0.step)⟩
       rw [if_neg c9] at H; have c9b0 : ((bt a0 x8_1) == 95) = false := beq_eq_false_iff_ne.mpr c9; have c9b1 : ((bt a0 x8_1) != 95) = true := bne_iff_ne.mpr c9; by_cases c10 : (bt a0 x8_1) < 48
       ·
        rw [if_pos c10] at H; have c10b0 := dY c10; clear c10; obtain rfl := Option.some.inj H; have p5 : 0 ≤ (x8_1 : Int) := oD ‹_›; have q5 : x8_1 < (a0.size : Int) := oD ‹_›; have hx5 := bt_at a0 x8_1; replace p5 := eq_true p5; replace q5 := eq_true q5; go_wp2
        go_ret
        exact ⟨by first | rfl | (simp; done) | (simp [*]; done), by repeat (first | exact Drawn0.refl _ | apply Drawn0.step)⟩
       rw [if_neg c10] at H; have c10b0 := dN c10; clear c10; by_cases c11 : (bt a0 x8_1) > 57
       ·
        rw [if_pos c11] at H; have c11b0 : decide (57 < (bt a0 x8_1)) = true := dY c11; clear c11; obtain rfl := Option.some.inj H; have p5 : 0 ≤ (x8_1 : Int) := oD ‹_›; have q5 : x8_1 < (a0.size : Int) := oD ‹_›; have hx5 := bt_at a0 x8_1; replace p5 := eq_true p5; replace q5 := eq_true q5; go_wp2
        go_ret
        exact ⟨by first | rfl | (simp; done) | (simp [*]; done), by repeat (first | exact Drawn0.refl _ | apply Drawn0.step)⟩
       rw [if_neg c11] at H; have c11b0 : decide (57 < (bt a0 x8_1)) = false := dN c11; clear c11; have H' := AM H; clear H; have p5 : 0 ≤ (x8_1 : Int) := oD ‹_›; have q5 : x8_1 < (a0.size : Int) := oD ‹_›; have hx5 := bt_at a0 x8_1; replace p5 := eq_true p5; replace q5 := eq_true q5; go_wp2
       go_roundg k1
       case measure => have := HK1.out; omega
       case rel => exact ⟨(wrap64 (x8_1 + 1)), (by first | rfl | (simp; done) | (simp [*]; done)), H', ⟨by have := HK1.out; omega⟩, by repeat (first | exact Drawn0.refl _ | apply Drawn0.step)⟩
      rw [if_neg c6] at H; have c6b0 : decide (97 ≤ (bt a0 x8_1)) = false := dN c6; clear c6; by_cases c12 : x8_1 = 0
      ·
       rw [if_pos c12] at H; have c12b0 : (x8_1 == 0) = true := beq_iff_eq.mpr c12; have c12b1 : (x8_1 != 0) = false := bne_eq_false_iff_eq.mpr c12; clear c12; obtain rfl := Option.some.inj H; have p5 : 0 ≤ (x8_1 : Int) := oD ‹_›; have q5 : x8_1 < (a0.size : Int) := oD ‹_›; have hx5 := bt_at a0 x8_1; replace p5 := eq_true p5; replace q5 := eq_true q5; go_wp2
       go_ret
       exact ⟨by first | rfl | (simp; done) | (simp [*]; done), by repeat (first | exact Drawn0.refl _ | apply Drawn0.step)⟩
      rw [if_neg c12] at H; have c12b0 : (x8_1 == 0) = false := beq_eq_false_iff_ne.mpr c12; have c12b1 : (x8_1 != 0) = true := bne_iff_ne.mpr c12; by_cases c13 : (bt a0 x8_1) = 95
      ·
       rw [if_pos c13] at H; have c13b0 : ((bt a0 x8_1) == 95) = true := beq_iff_eq.mpr c13; have c13b1 : ((bt a0 x8_1) != 95) = false := bne_eq_false_iff_eq.mpr c13; clear c13; have H' := AM H; clear H; have p5 : 0 ≤ (x8_1 : Int) := oD ‹_›; have q5 : x8_1 < (a0.size : Int) := oD ‹_›; have hx5 := bt_at a0 x8_1; replace p5 := eq_true p5; replace q5 := eq_true q5; go_wp2
       go_roundg k1
       case measure => have := HK1.out; omega
       case rel => exact ⟨(wrap64 (x8_1 + 1)), (by first | rfl | (simp; done) | (simp [*]; done)), H', ⟨by have := HK1.out; omega⟩, by repeat (first | exact Drawn0.refl _ | apply Drawn0.step)⟩
      rw [if_neg c13] at H; have c13b0 : ((bt a0 x8_1) == 95) = false := beq_eq_false_iff_ne.mpr c13; have c13b1 : ((bt a0 x8_1) != 95) = true := bne_iff_ne.mpr c13; by_cases c14 : (bt a0 x8_1) < 48
      ·
       rw [if_pos c14] at H; have c14b0 := dY c14; clear c14; obtain rfl := Option.some.inj H; have p5 : 0 ≤ (x8_1 : Int) := oD ‹_›; have q5 : x8_1 < (a0.size : Int) := oD ‹_›; have hx5 := bt_at a0 x8_1; replace p5 := eq_true p5; replace q5 := eq_true q5; go_wp2
       go_ret
       exact ⟨by first | rfl | (simp; done) | (simp [*]; done), by repeat (first | exact Drawn0.refl _ | apply Drawn0.step)⟩
      rw [if_neg c14] at H; have c14b0 := dN c14; clear c14; by_cases c15 : (bt a0 x8_1) > 57
      ·
       rw [if_pos c15] at H; have c15b0 : decide (57 < (bt a0 x8_1)) = true := dY c15; clear c15; obtain rfl := Option.some.inj H; have p5 : 0 ≤ (x8_1 : Int) := oD ‹_›; have q5 : x8_1 < (a0.size : Int) := oD ‹_›; have hx5 := bt_at a0 x8_1; replace p5 := eq_true p5; replace q5 := eq_true q5; go_wp2
       go_ret
       exact ⟨by first | rfl | (simp; done) | (simp [*]; done), by repeat (first | exact Drawn0.refl _ | apply Drawn0.step)⟩
      rw [if_neg c15] at H; have c15b0 : decide (57 < (bt a0 x8_1)) = false := dN c15; clear c15; have H' := AM H; clear H; have p5 : 0 ≤ (x8_1 : Int) := oD ‹_›; have q5 : x8_1 < (a0.size : Int) := oD ‹_›; have hx5 := bt_at a0 x8_1; replace p5 := eq_true p5; replace q5 := eq_true q5; go_wp2
      go_roundg k1
      case measure => have := HK1.out; omega
      case rel => exact ⟨(wrap64 (x8_1 + 1)), (by first | rfl | (simp; done) | (simp [*]; done)), H', ⟨by have := HK1.out; omega⟩, by repeat (first | exact Drawn0.refl _ | apply Drawn0.step)⟩
     rw [if_neg c4] at H; exact absurd H (by simp)
    rw [if_neg c3] at H; exact absurd H (by simp)
   rw [if_neg c2] at H; have c2b0 := dN c2; clear c2; by_cases c16 : (a0.size : Int) ≥ 1
   ·
    rw [if_pos c16] at H; have c16b0 : decide (1 ≤ (a0.size : Int)) = true := dY c16; have c16b1 : decide (1 ≤ a0.size) = true := dY (by omega); clear c16; obtain rfl := Option.some.inj H; go_wp2
    go_ret
    exact ⟨by first | rfl | (simp; done) | (simp [*]; done), by repeat (first | exact Drawn0.refl _ | apply Drawn0.step)⟩
   rw [if_neg c16] at H; have c16b0 : decide (1 ≤ (a0.size : Int)) = false := dN c16; have c16b1 : decide (1 ≤ a0.size) = false := dN (by omega); clear c16; obtain rfl := Option.some.inj H; go_wp2
   go_ret
   exact ⟨by first | rfl | (simp; done) | (simp [*]; done), by repeat (first | exact Drawn0.refl _ | apply Drawn0.step)⟩

/-! ### impl_isTime: function 72 -/

def impl_isTime.f (a0 : Int) : Option (Bool) := (impl_within.f a0 0 1000000000).bind fun t101 => (some t101)
set_option maxHeartbeats 60000000 in
set_option maxRecDepth 100000 in
theorem impl_isTime.calls (a0 : Int) (r : Bool) (w : World) (h : impl_isTime.f a0 = some r) :
    Calls Try.prog 72 #[.int .i64 a0] w fun e w' => e = .returned (.bool r) ∧ Drawn0 w w' := by
 have H : ((impl_within.f a0 0 1000000000).bind fun t101 => (some t101)) = some r := h; clear h; replace H := oM H; obtain ⟨t101, A20, H⟩ := H; have A2 := AM A20; clear A20; obtain rfl := Option.some.inj H; go_enter Try.func72, Try.ntmps72
 go_wp2_with (first | ((with_reducible refine gate_callee (f := 47) rfl ?_); refine gL (some 4) Try.func47 #[.int .i64 a0, .int .i64 0, .int .i64 1000000000] ?_; (with_reducible refine (impl_within.calls a0 0 1000000000 t101 _ A2.out).mono ?_); rintro e w' ⟨rfl, ⟨nd, rfl⟩⟩; refine ⟨_, rfl, ?_⟩))
 go_ret
 exact ⟨by first | rfl | (simp; done) | (simp [*]; done), by repeat (first | exact Drawn0.refl _ | apply Drawn0.step)⟩

/-! ### impl_size_string: function 52 (by hand) -/
def impl_size_string.f (l0 : List (ByteArray)) : Option Int := some (l0.length : Int)
theorem impl_size_string.calls (A0 : Option Addr) (c0 : Nat) (l0 : List (ByteArray)) (r : Int) (w : World) (h : impl_size_string.f l0 = some r) :
    Calls Try.prog 52 #[.slice A0 l0.length c0] w fun e w' => e = .returned (.int .i64 r) ∧ Drawn0 w w' := by
  obtain rfl := Option.some.inj h; go_enter Try.func52, Try.ntmps52
  go_wp2
  go_ret
  exact ⟨rfl, Drawn0.refl _⟩


/-! ### impl_Topic_end: function 73 (by hand) -/
def impl_Topic_end.f (s0 : ByteArray) (s1 : Int) (s2 : List ByteArray) (s3 : List (S61)) : Option Int := some (wrap64 (s1 + (s2.length : Int)))
theorem impl_Topic_end.calls (g : Nat) (s0 : ByteArray) (s1 : Int) (A2 : Option Addr) (c2 : Nat) (s2 : List ByteArray) (s3 : List (S61)) (r : Int) (w : World) (hc1 : w.cell? ⟨g,1,none⟩ = some (.int .i64 s1)) (hc2 : w.cell? ⟨g,2,none⟩ = some (.slice A2 s2.length c2)) (h : impl_Topic_end.f s0 s1 s2 s3 = some r) :
    Calls Try.prog 73 #[.pointer (some ⟨g, 0, none⟩)] w fun e w' => e = .returned (.int .i64 r) ∧ Drawn0 w w' := by
  obtain rfl := Option.some.inj h; clear h; go_enter Try.func73, Try.ntmps73
  go_wp2_with (first | (go_at_call 52; (with_reducible refine (impl_size_string.calls _ _ s2 _ _ rfl).mono ?_); rintro e w' ⟨rfl, ⟨nd, rfl⟩⟩))
  repeat (go_quiet (first | (go_at_call 52; (with_reducible refine (impl_size_string.calls _ _ s2 _ _ rfl).mono ?_); rintro e w' ⟨rfl, ⟨nd, rfl⟩⟩; (try first | exact ⟨rfl, _, dD⟩ | exact ⟨rfl, _, dA⟩))); try go_wp2_with (first | (go_at_call 52; (with_reducible refine (impl_size_string.calls _ _ s2 _ _ rfl).mono ?_); rintro e w' ⟨rfl, ⟨nd, rfl⟩⟩; (try first | exact ⟨rfl, _, dD⟩ | exact ⟨rfl, _, dA⟩))))
  go_ret
  exact ⟨by first | rfl | simp, by first | exact ⟨_, rfl⟩ | exact Drawn0.refl _⟩


/-! ### impl_isMessage: function 76 -/

def impl_isMessage.f (a0 : ByteArray) : Option (Bool) := if (a0.size : Int) ≥ 1 then (some (decide ((a0.size : Int) ≤ 40))) else (some false)
set_option maxHeartbeats 60000000 in
set_option maxRecDepth 100000 in
theorem impl_isMessage.calls (a0 : ByteArray) (r : Bool) (w : World) (h : impl_isMessage.f a0 = some r) :
    Calls Try.prog 76 #[.string a0] w fun e w' => e = .returned (.bool r) ∧ Drawn0 w w' := by
 have H : (if (a0.size : Int) ≥ 1 then (some (decide ((a0.size : Int) ≤ 40))) else (some false)) = some r := h; clear h; by_cases c2 : (a0.size : Int) ≥ 1
 ·
  rw [if_pos c2] at H; have c2b0 : decide (1 ≤ (a0.size : Int)) = true := dY c2; have c2b1 : decide (1 ≤ a0.size) = true := dY (by omega); clear c2; obtain rfl := Option.some.inj H; go_enter Try.func76, Try.ntmps76
  go_wp2
  go_ret
  exact ⟨by first | rfl | (simp; done) | (simp [*]; done), by repeat (first | exact Drawn0.refl _ | apply Drawn0.step)⟩
 rw [if_neg c2] at H; have c2b0 : decide (1 ≤ (a0.size : Int)) = false := dN c2; have c2b1 : decide (1 ≤ a0.size) = false := dN (by omega); clear c2; obtain rfl := Option.some.inj H; go_enter Try.func76, Try.ntmps76
 go_wp2
 go_ret
 exact ⟨by first | rfl | (simp; done) | (simp [*]; done), by repeat (first | exact Drawn0.refl _ | apply Drawn0.step)⟩

/-! ### impl_isTopic_1: function 75 -/

def impl_isTopic_1.f (a0 : ByteArray) : Option (Bool) := (impl_isMessage.f a0).bind fun t101 => (some (!t101))
set_option maxHeartbeats 60000000 in
set_option maxRecDepth 100000 in
theorem impl_isTopic_1.calls (a0 : ByteArray) (r : Bool) (w : World) (h : impl_isTopic_1.f a0 = some r) :
    Calls Try.prog 75 #[.string a0] w fun e w' => e = .returned (.bool r) ∧ Drawn0 w w' := by
 have H : ((impl_isMessage.f a0).bind fun t101 => (some (!t101))) = some r := h; clear h; replace H := oM H; obtain ⟨t101, A20, H⟩ := H; have A2 := AM A20; clear A20; obtain rfl := Option.some.inj H; go_enter Try.func75, Try.ntmps75
 go_wp2_with (first | ((with_reducible refine gate_callee (f := 76) rfl ?_); refine gL (some 4) Try.func76 #[.string a0] ?_; (with_reducible refine (impl_isMessage.calls a0 t101 _ A2.out).mono ?_); rintro e w' ⟨rfl, ⟨nd, rfl⟩⟩; refine ⟨_, rfl, ?_⟩))
 go_ret
 exact ⟨by first | rfl | (simp; done) | (simp [*]; done), by repeat (first | exact Drawn0.refl _ | apply Drawn0.step)⟩

/-! ### slices_ContainsFunc_string_string: function 74 (by hand) -/
def slices_ContainsFunc_string_string_p (x : ByteArray) : Bool := impl_isTopic_1.f x == some true
def slices_ContainsFunc_string_string.f (l0 : List ByteArray) : Option Bool := if l0.all (fun x => (impl_isTopic_1.f x).isSome) then some (decide (0 ≤ ixFrom slices_ContainsFunc_string_string_p l0 0)) else none
set_option maxRecDepth 100000 in
theorem slices_ContainsFunc_string_string_x (A0 : Option Addr) (c0 : Nat) (l0 : List ByteArray) (w : World) (hr0 : Kd.C Kd.string w A0 l0.length l0) (hs : ∀ x ∈ l0, (impl_isTopic_1.f x).isSome = true) :
   Calls Try.prog 91 #[.slice A0 l0.length c0, .func (.func 75) #[] #[]] w fun e w' => e = .returned (.int .i64 (ixFrom slices_ContainsFunc_string_string_p l0 0)) ∧ Below w.heap.size w w' := by
  have HR := Aside0.mk hr0; have HS := Aside0.mk hs; have hl : l0.length ≤ 9223372036854775807 := hr0.2.1; clear hr0 hs; go_enter Try.func91, Try.ntmps91
  go_wp2
  go_loopg [8] (l0.length + 1) (fun kq v8 w' => ∃ i : Int, v8 = .int .i64 i ∧ Aside0 (0 ≤ i) ∧ Aside0 (i ≤ l0.length) ∧ Aside0 ((kq : Int) + i = l0.length + 1) ∧ Aside0 (ixFrom slices_ContainsFunc_string_string_p l0 0 = ixFrom slices_ContainsFunc_string_string_p (l0.drop i.toNat) i.toNat) ∧ Aside0 (Below w.heap.size w w'))
  case atStart => exact ⟨0, rfl, ⟨by omega⟩, ⟨by omega⟩, ⟨by omega⟩, ⟨rfl⟩, ⟨Below.refl _ _⟩⟩
  case round =>
    obtain ⟨i, rfl, G0, G1, HK, HI, HB⟩ := hrel; by_cases hlt : i < (l0.length : Int)
    · have g0 := G0.out
      have hd : l0.drop i.toNat = rdOf ByteArray.empty l0 i :: l0.drop (i.toNat + 1) := by
        rw [List.drop_eq_getElem_cons (by omega)]; simp [rdOf, List.getD, show i.toNat < l0.length by omega]
      have hm : rdOf ByteArray.empty l0 i ∈ l0 := by
        have : i.toNat < l0.length := by omega
        simp [rdOf, List.getD, this]
      obtain ⟨b, hb⟩ := Option.isSome_iff_exists.1 (HS.out _ hm); obtain ⟨ad, e, hx0⟩ := Kd.at_string HR.out i g0 hlt
      cases e
      replace hx0 := pB HB.out hx0; have G2 := Aside0.mk hlt; have c1 := dY hlt; replace g0 := eq_true g0; replace hlt := eq_true hlt; have HP := Aside0.mk hb
      cases b with
      | true =>
        have HI2 : Aside0 (ixFrom slices_ContainsFunc_string_string_p l0 0 = i) := ⟨by rw [HI.out, hd]; simp [ixFrom, slices_ContainsFunc_string_string_p, hb]; have := G0.out; omega⟩; clear hd hb hm; go_wp2_with (first | (go_at_call 75; (with_reducible refine (impl_isTopic_1.calls (rdOf ByteArray.empty l0 i) true _ HP.out).mono ?_); rintro e w1 ⟨rfl, hb⟩; replace HB := Aside0.mk (below_step HB.out hb.below); clear hb))
        go_ret
        exact ⟨by rw [HI2.out]; rfl, HB.out⟩
      | false =>
        have HI2 : Aside0 (ixFrom slices_ContainsFunc_string_string_p l0 0 = ixFrom slices_ContainsFunc_string_string_p (l0.drop (i + 1).toNat) (i + 1).toNat) := ⟨by rw [HI.out, hd, show (i + 1).toNat = i.toNat + 1 by have := G0.out; omega]; simp [ixFrom, slices_ContainsFunc_string_string_p, hb]⟩; clear hd hb hm; go_wp2_with (first | (go_at_call 75; (with_reducible refine (impl_isTopic_1.calls (rdOf ByteArray.empty l0 i) false _ HP.out).mono ?_); rintro e w1 ⟨rfl, hb⟩; replace HB := Aside0.mk (below_step HB.out hb.below); clear hb))
        cases gk with
        | zero => exact absurd HK.out (by have := G2.out; omega)
        | succ gk =>
        go_roundg gk
        case measure => omega
        case rel => exact ⟨i + 1, by rw [w_succ_ G0.out G2.out hl], ⟨by have := G0.out; omega⟩, ⟨by have := G2.out; omega⟩, ⟨by have := HK.out; omega⟩, HI2, HB⟩
    · have c1 : decide (i < (l0.length : Int)) = false := dN hlt
      have HI2 : Aside0 (ixFrom slices_ContainsFunc_string_string_p l0 0 = -1) := ⟨by rw [HI.out, List.drop_of_length_le (by omega)]; rfl⟩; clear hlt; go_wp2
      go_ret
      exact ⟨by rw [HI2.out]; rfl, HB.out⟩
set_option maxRecDepth 100000 in
theorem slices_ContainsFunc_string_string.calls (A0 : Option Addr) (c0 : Nat) (l0 : List ByteArray) (r : Bool) (w : World) (hr0 : Kd.C Kd.string w A0 l0.length l0) (hc0 : l0.length ≤ c0) (h : slices_ContainsFunc_string_string.f l0 = some r) :
    Calls Try.prog 74 #[.slice A0 l0.length c0, .func (.func 75) #[] #[]] w fun e w' => e = .returned (.bool r) ∧ Below w.heap.size w w' := by
  unfold slices_ContainsFunc_string_string.f at h
  split at h
  · rename_i hs
    obtain rfl := Option.some.inj h; have HR := Aside0.mk hr0; have HS := Aside0.mk (List.all_eq_true.1 hs); clear h hr0 hc0 hs; go_enter Try.func74, Try.ntmps74
    go_wp2_with (first | (go_at_call 91; (with_reducible refine (slices_ContainsFunc_string_string_x _ _ l0 _ HR.out HS.out).mono ?_); rintro e w2 ⟨rfl, hb⟩; have HB := Aside0.mk hb; clear hb))
    go_ret
    exact ⟨rfl, HB.out⟩
  · exact absurd h (by simp)


end Go.Proofs.Ytcaildjhnkedfaa.Q
