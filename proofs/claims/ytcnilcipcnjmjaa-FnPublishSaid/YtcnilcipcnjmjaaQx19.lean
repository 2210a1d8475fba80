/- Printed by a program of this session (wip/mp.py over the kit's print.py): functions of the translation as plain Lean functions, and that the machine's calls do what these say. -/
import Derived.Test.YtcnilcipcnjmjaaQx0
import Derived.Test.YtcnilcipcnjmjaaQx2
import Derived.Test.YtcnilcipcnjmjaaQx15
namespace Go.Proofs.Ytcnilcipcnjmjaa.Q
open Go.RowKit Go.Proofs.Ytcnilcipcnjmjaa.HB Go.Proofs.YtcnilcipcnjmjaaW.PrintWords Go.Proofs.YtcnilcipcnjmjaaW.PrintLast Go.Proofs.YtcnilcipcnjmjaaW.PrintMore
attribute [local go_sem] max2_int min2_int max_two min_two max_three min_three max_four min_four   -- for this text's walks alone
set_option linter.unusedVariables false
set_option linter.unusedSimpArgs false

/-! ### spec_DrawTopicEnd: function 13 -/

def spec_DrawTopicEnd.f (k : Nat) (l0 : List Int) : Option (ByteArray × Int × List ByteArray × (List (S36))) := (spec_l01Source.f k l0).bind fun bt102 => ((spec_l01Src_l07Topic.f k bt102.1 bt102.2.1 bt102.2.2.1 bt102.2.2.2).bind fun bt107 => (some (bt107.1, bt107.2.1, bt107.2.2.1, bt107.2.2.2.1)))
theorem spec_DrawTopicEnd.mono : ∀ a0 k, LeO (spec_DrawTopicEnd.f k a0) (spec_DrawTopicEnd.f (k + 1) a0) := by
  intro a0 k
  unfold spec_DrawTopicEnd.f
  repeat' first
      | (with_reducible exact spec_l01Source.mono _ _)
      | (with_reducible exact spec_l01Src_l07Topic.mono _ _ _ _ _)
      | (with_reducible exact LeO.refl _)
      | (with_reducible exact LeO.none _)
      | (with_reducible refine LeO.ite ?_ ?_)
      | (with_reducible refine LeO.bind ?_ (fun _ => ?_))
      | exact spec_l01Source.mono _ _
      | exact spec_l01Src_l07Topic.mono _ _ _ _ _
      | exact LeO.none _
      | refine LeO.ite ?_ ?_
      | refine LeO.bind ?_ (fun _ => ?_)
theorem bI63_106_spec_DrawTopicEnd {n : Nat} {w W W' : World} (h : Below n w W) (f : Below n w W → Below n w W' := by intro h_; repeat (first | (with_reducible first | exact h_ | apply bA | apply bN | apply bD | refine bS ?_ (IsS63.ge HI106.out) | refine bS ?_ (Aside0.out (by assumption))) | exact h_)) : Below n w W' := f h
theorem iX63_6_spec_DrawTopicEnd {p q : Prop} (h : p) (f : p → q := by intro h_; repeat (first | (with_reducible first | exact h_ | apply IsS63.alloc | apply IsS63.drewN | apply IsS63.drew | apply IsS63.set_1 | apply IsS63.set_2 | apply IsS63.set_3 | refine IsS63.far ?_ (Aside0.out (by assumption)) _) | exact h_)) : q := f h
set_option maxHeartbeats 60000000 in
set_option maxRecDepth 100000 in
theorem spec_DrawTopicEnd.calls (k : Nat) (A0 : Option Addr) (c0 : Nat) (l0 : List Int) (r1 : ByteArray) (r2 : Int) (r3 : List ByteArray) (r4 : List (S36)) (w : World) (hr0 : Kd.C (Kd.int .u8) w A0 l0.length l0) (hc0 : l0.length ≤ c0) (h : spec_DrawTopicEnd.f k l0 = some (r1, r2, r3, r4)) :
    Calls Try.prog 13 #[.slice A0 l0.length c0] w fun e w' => ∃ v2_ v3_ : Value, e = .returned (.agg #[.string r1, .int .i64 r2, v2_, v3_]) ∧ Kd.Q Kd.string 9 w' w.heap.size (fun _ => True) v2_ r3 ∧ Kd.R k36 36 w' w.heap.size (fun _ => True) v3_ r4 ∧ Below w.heap.size w w' := by
 have hu26 := Try.underlying26
 have HR0 := AM hr0
 have HC0 := AM hc0
 clear hr0 hc0
 have HB := AM (Below.refl w.heap.size w)
 have H : ((spec_l01Source.f k l0).bind fun bt102 => ((spec_l01Src_l07Topic.f k bt102.1 bt102.2.1 bt102.2.2.1 bt102.2.2.2).bind fun bt107 => (some (bt107.1, bt107.2.1, bt107.2.2.1, bt107.2.2.2.1)))) = some (r1, r2, r3, r4) := h
 clear h
 replace H := Option.bind_eq_some_iff.mp H
 obtain ⟨⟨t102, t103, t104, t105⟩, A20, H⟩ := H
 try dsimp only at H
 have A2 := AM A20
 clear A20
 replace H := Option.bind_eq_some_iff.mp H
 obtain ⟨⟨t107, t108, t109, t112, t115, t116, t117⟩, A30, H⟩ := H
 try dsimp only at H
 have A3 := AM A30
 clear A30
 simp only [Option.some.injEq, Prod.mk.injEq] at H
 obtain ⟨rfl, rfl, rfl, rfl⟩ := H
 go_enter Try.func13, Try.ntmps13
 go_wp2_with (first | ((with_reducible refine gate_dst (N := 2) rfl ?_); refine box_event (by rfl) (N := 2) (by rfl) (cs := #[.string (⟨#[]⟩ : ByteArray), .int .i64 0, .slice none 0 0, .slice none 0 0]) (t := 26) (by first | (go_simp; done) | (go_simp; rfl)) ?_; intro gb101 hg w4 hbox hb; have _ := AM (below_step (bX HB.out) hb); have _ := AM (hbox); have n2_ := AM ((by rw [hg]; exact (bZ (bX HB.out)) : w.heap.size ≤ gb101)); clear HB; rename_i HB BK101; have GW101 := n2_; have GE101 := n2_; clear n2_; clear hb hbox hg) | ((with_reducible refine gate_callee (f := 19) rfl ?_); refine goesL_ (some 4) rfl rfl Try.func19 (by kernel_rfl) rfl #[.slice A0 l0.length c0] rfl (by (try simp only [mA, mB, mC]); first | done | rfl | (simp only [mD, mE]; rfl)) ?_; (with_reducible refine (spec_l01Source.calls k _ _ l0 t102 t103 t104 t105 w _ ?side1 ?side2 ?side3 A2.out).mono ?_); (case side1 => exact (bX HB.out)); (case side2 => exact HR0.out); (case side3 => exact HC0.out); rintro e w5 ⟨g106, rfl, hi, hb, hb2⟩; refine ⟨_, rfl, ?_⟩; have _ := AM (nB BK101.out hb2); have _ := AM (hb); have _ := AM (hi); have _ := AM (IsS63.ne_blk hi (nB BK101.out hb2) (by decide)); have _ := AM (Ne.symm (IsS63.ne_blk hi (nB BK101.out hb2) (by decide))); clear BK101 HB; rename_i BK101 HB HI106 NB106_101 NB101_106; (try clear hb); (try clear hb2); (try clear hk); (try clear hi)) | ((with_reducible refine gate_callee (f := 20) rfl ?_); refine goesL_ (some 5) rfl rfl Try.func20 (by kernel_rfl) rfl #[.pointer (some ⟨g106, 0, none⟩)] rfl (by (try simp only [mA, mB, mC]); first | done | rfl | (simp only [mD, mE]; rfl)) ?_; (with_reducible refine (spec_l01Src_l07Topic.calls k g106 t102 t103 t104 t105 t107 t108 t109 t112 t115 t116 t117 w _ ?side1 ?side2 A3.out).mono ?_); (case side1 => exact (iX63_6_spec_DrawTopicEnd HI106.out)); (case side2 => exact (bI63_106_spec_DrawTopicEnd HB.out)); rintro e w6 ⟨v110, v113, rfl, ho0, ho1, hi, hb, hk⟩; refine ⟨_, rfl, ?_⟩; have _ := AM (kB hk BK101.out NB101_106.out (by simp)); have _ := AM (Kd.Q_lower ho0 (bZ (bI63_106_spec_DrawTopicEnd HB.out))); have _ := AM (Kd.R_lower ho1 (bZ (bI63_106_spec_DrawTopicEnd HB.out))); have _ := AM (hb); have _ := AM (hi); clear BK101 HB HI106; rename_i BK101 HO111 HO114 HB HI106; (try clear hb); (try clear hb2); (try clear hk); (try clear hi); (try clear ho0); (try clear ho1); have hnb7 := NB101_106.out; have hnc7 := NB106_101.out; have hcz8 := q4 BK101.out; have hfz8 := fZ BK101.out; obtain ⟨Ao9, co9, eo9, _⟩ := Kd.Q_slice HO111.out; subst eo9; obtain ⟨Ao10, co10, eo10⟩ := Kd.R_slice HO114.out; subst eo10))
 refine bodyPost_ret (results_cell_row rfl _ _ gb101 26 #[.string t107, .int .i64 t108, .slice Ao9 t109.length co9, .slice Ao10 t112.length co10] (0, 0) _ rfl (by refine kP (cs := #[.string t107, .int .i64 t108, .slice Ao9 t109.length co9, .slice none 0 0]) 3 ?_; refine kP (cs := #[.string t107, .int .i64 t108, .slice none 0 0, .slice none 0 0]) 2 ?_; refine kP (cs := #[.string t107, .int .i64 0, .slice none 0 0, .slice none 0 0]) 1 ?_; refine kP (cs := #[.string (⟨#[]⟩ : ByteArray), .int .i64 0, .slice none 0 0, .slice none 0 0]) 0 ?_; (with_reducible repeat (first | apply kN | apply kD | apply kA)); exact BK101.out) Try.underlying26 rfl (by kernel_rfl)) rfl ?_
 exact ⟨_, _, by first | rfl | (simp [*, errW_none, errW_some] <;> rfl), by (with_reducible repeat (first | apply Kd.Q_alloc | apply Kd.Q_drewN | apply Kd.Q_drew)); exact Qf4 HO111.out BK101.out (by decide) (fun _ hk => trivial), by (with_reducible repeat (first | apply rA | apply rN | apply rD)); exact Rf4 HO114.out BK101.out (by decide) (fun _ hk => trivial), bI63_106_spec_DrawTopicEnd HB.out⟩

end Go.Proofs.Ytcnilcipcnjmjaa.Q
