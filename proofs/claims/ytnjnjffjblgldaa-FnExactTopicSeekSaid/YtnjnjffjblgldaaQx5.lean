/- Printed by a program of this session (wip/mp.py over the kit's print.py): functions of the translation as plain Lean functions, and that the machine's calls do what these say. -/
import Derived.Test.YtnjnjffjblgldaaQx0
import Derived.Test.YtnjnjffjblgldaaQx3
import Derived.Test.YtnjnjffjblgldaaQx4
namespace Go.Proofs.Ytnjnjffjblgldaa.Q
open Go.RowKit Go.Proofs.Ytnjnjffjblgldaa.HB Go.Proofs.YtnjnjffjblgldaaW.PrintWords Go.Proofs.YtnjnjffjblgldaaW.PrintLast Go.Proofs.YtnjnjffjblgldaaW.PrintMore
attribute [local go_sem] max2_int min2_int max_two min_two max_three min_three max_four min_four   -- for this text's walks alone
set_option linter.unusedVariables false
set_option linter.unusedSimpArgs false

/-! ### spec_l07Group: function 64 -/

mutual
def spec_l07Group.j1 : Nat → ByteArray → Int → ByteArray → Int → List ByteArray → List (S55) → Option (ByteArray × Int × List ByteArray × (List (S55)) × Int)
  | 0, _, _, _, _, _, _ => none
  | k + 1, x1, x6, x102000, x102001, x102002, x102003 => (spec_l07Copy.f x102000 x102001 x102002 x102003).bind fun bt104 => (if x6 < (x102003.length : Int) then (if 0 ≤ x6 then (spec_l07Group.j2 k x1 x6 (((rd_T55 x102003 x6).f0).toList == x1.toList) x102000 x102001 x102002 x102003 bt104.1 bt104.2.1 bt104.2.2.1 bt104.2.2.2) else (none)) else (spec_l07Group.j2 k x1 x6 false x102000 x102001 x102002 x102003 bt104.1 bt104.2.1 bt104.2.2.1 bt104.2.2.2))
def spec_l07Group.j2 : Nat → ByteArray → Int → Bool → ByteArray → Int → List ByteArray → List (S55) → ByteArray → Int → List ByteArray → List (S55) → Option (ByteArray × Int × List ByteArray × (List (S55)) × Int)
  | 0, _, _, _, _, _, _, _, _, _, _, _ => none
  | k + 1, x1, x6, x42, x102000, x102001, x102002, x102003, x113000, x113001, x113002, x113003 => if x42 = true then (some (x113000, x113001, x113002, x113003, x6)) else (if (x102003.length : Int) ≥ 4 then (some (x113000, x113001, x113002, x113003, (-1))) else ((some (([] : List (S55)) : List (S55))).bind fun y114 => (if 0 ≤ x6 then (if x6 ≤ (x102003.length : Int) then ((some (x102003.take (x6 : Int).toNat : List (S55))).bind fun y117 => (if y114.length + y117.length < 5864062014805 then ((some (y114 ++ y117 : List (S55))).bind fun y121 => (if y121.length < 5864062014805 then ((some (y121 ++ [(⟨x1, x102001⟩ : S55)] : List (S55))).bind fun y124 => ((some (x102003.drop (x6 : Int).toNat : List (S55))).bind fun y127 => (if y124.length + y127.length < 5864062014805 then (some (x113000, x113001, x113002, (y124 ++ y127), x6)) else (none)))) else (none))) else (none))) else (none)) else (none))))
def spec_l07Group.l0 : Nat → ByteArray → Int → ByteArray → Int → List ByteArray → List (S55) → Option (ByteArray × Int × List ByteArray × (List (S55)) × Int)
  | 0, _, _, _, _, _, _ => none
  | k + 1, x1, x6, x102000, x102001, x102002, x102003 => if x6 < (x102003.length : Int) then (if 0 ≤ x6 then (if (Op.bytesLess (((rd_T55 x102003 x6).f0).toList) x1.toList) = true then (spec_l07Group.l0 k x1 (wrap64 (x6 + 1)) x102000 x102001 x102002 x102003) else (spec_l07Group.j1 k x1 x6 x102000 x102001 x102002 x102003)) else (none)) else (spec_l07Group.j1 k x1 x6 x102000 x102001 x102002 x102003)
end
def spec_l07Group.f (k : Nat) (a0_0 : ByteArray) (a0_1 : Int) (l0_2 : List ByteArray) (l0_3 : List (S55)) (a1 : ByteArray) : Option (ByteArray × Int × List ByteArray × (List (S55)) × Int) := spec_l07Group.l0 k a1 0 a0_0 a0_1 l0_2 l0_3
theorem spec_l07Group.mono_l : ∀ k, (∀ y0 y1 y2 y3 y4 y5, LeO (spec_l07Group.j1 k y0 y1 y2 y3 y4 y5) (spec_l07Group.j1 (k + 1) y0 y1 y2 y3 y4 y5)) ∧ (∀ y0 y1 y2 y3 y4 y5 y6 y7 y8 y9 y10, LeO (spec_l07Group.j2 k y0 y1 y2 y3 y4 y5 y6 y7 y8 y9 y10) (spec_l07Group.j2 (k + 1) y0 y1 y2 y3 y4 y5 y6 y7 y8 y9 y10)) ∧ (∀ y0 y1 y2 y3 y4 y5, LeO (spec_l07Group.l0 k y0 y1 y2 y3 y4 y5) (spec_l07Group.l0 (k + 1) y0 y1 y2 y3 y4 y5))
  | 0 => ⟨fun _ _ _ _ _ _ r h => by simp [spec_l07Group.j1] at h, fun _ _ _ _ _ _ _ _ _ _ _ r h => by simp [spec_l07Group.j2] at h, fun _ _ _ _ _ _ r h => by simp [spec_l07Group.l0] at h⟩
  | k + 1 => by
    obtain ⟨ih0, ih1, ih2⟩ := spec_l07Group.mono_l k
    refine ⟨?_, ?_, ?_⟩
    · intro y0 y1 y2 y3 y4 y5
      unfold spec_l07Group.j1
      repeat' first
      | (with_reducible exact ih0 _ _ _ _ _ _)
      | (with_reducible exact ih1 _ _ _ _ _ _ _ _ _ _ _)
      | (with_reducible exact ih2 _ _ _ _ _ _)
      | (with_reducible exact LeO.refl _)
      | (with_reducible exact LeO.none _)
      | (with_reducible refine LeO.ite ?_ ?_)
      | (with_reducible refine LeO.bind ?_ (fun _ => ?_))
      | exact ih0 _ _ _ _ _ _
      | exact ih1 _ _ _ _ _ _ _ _ _ _ _
      | exact ih2 _ _ _ _ _ _
      | exact LeO.none _
      | refine LeO.ite ?_ ?_
      | refine LeO.bind ?_ (fun _ => ?_)
    · intro y0 y1 y2 y3 y4 y5 y6 y7 y8 y9 y10
      unfold spec_l07Group.j2
      repeat' first
      | (with_reducible exact ih0 _ _ _ _ _ _)
      | (with_reducible exact ih1 _ _ _ _ _ _ _ _ _ _ _)
      | (with_reducible exact ih2 _ _ _ _ _ _)
      | (with_reducible exact LeO.refl _)
      | (with_reducible exact LeO.none _)
      | (with_reducible refine LeO.ite ?_ ?_)
      | (with_reducible refine LeO.bind ?_ (fun _ => ?_))
      | exact ih0 _ _ _ _ _ _
      | exact ih1 _ _ _ _ _ _ _ _ _ _ _
      | exact ih2 _ _ _ _ _ _
      | exact LeO.none _
      | refine LeO.ite ?_ ?_
      | refine LeO.bind ?_ (fun _ => ?_)
    · intro y0 y1 y2 y3 y4 y5
      unfold spec_l07Group.l0
      repeat' first
      | (with_reducible exact ih0 _ _ _ _ _ _)
      | (with_reducible exact ih1 _ _ _ _ _ _ _ _ _ _ _)
      | (with_reducible exact ih2 _ _ _ _ _ _)
      | (with_reducible exact LeO.refl _)
      | (with_reducible exact LeO.none _)
      | (with_reducible refine LeO.ite ?_ ?_)
      | (with_reducible refine LeO.bind ?_ (fun _ => ?_))
      | exact ih0 _ _ _ _ _ _
      | exact ih1 _ _ _ _ _ _ _ _ _ _ _
      | exact ih2 _ _ _ _ _ _
      | exact LeO.none _
      | refine LeO.ite ?_ ?_
      | refine LeO.bind ?_ (fun _ => ?_)
theorem spec_l07Group.mono : ∀ a0 a1 a2 a3 a4 k, LeO (spec_l07Group.f k a0 a1 a2 a3 a4) (spec_l07Group.f (k + 1) a0 a1 a2 a3 a4) := by
  intro a0 a1 a2 a3 a4 k
  obtain ⟨ih0, ih1, ih2⟩ := spec_l07Group.mono_l k
  unfold spec_l07Group.f
  repeat' first
      | (with_reducible exact ih0 _ _ _ _ _ _)
      | (with_reducible exact ih1 _ _ _ _ _ _ _ _ _ _ _)
      | (with_reducible exact ih2 _ _ _ _ _ _)
      | (with_reducible exact LeO.refl _)
      | (with_reducible exact LeO.none _)
      | (with_reducible refine LeO.ite ?_ ?_)
      | (with_reducible refine LeO.bind ?_ (fun _ => ?_))
      | exact ih0 _ _ _ _ _ _
      | exact ih1 _ _ _ _ _ _ _ _ _ _ _
      | exact ih2 _ _ _ _ _ _
      | exact LeO.none _
      | refine LeO.ite ?_ ?_
      | refine LeO.bind ?_ (fun _ => ?_)
set_option maxHeartbeats 60000000 in
set_option maxRecDepth 100000 in
theorem spec_l07Group.calls (k : Nat) (a0_0 : ByteArray) (a0_1 : Int) (A0_2 : Option Addr) (c0_2 : Nat) (l0_2 : List ByteArray) (A0_3 : Option Addr) (c0_3 : Nat) (l0_3 : List (S55)) (a1 : ByteArray) (r1 : ByteArray) (r2 : Int) (r3 : List ByteArray) (r4 : List (S55)) (r5 : Int) (w : World) (hr0_2 : Kd.C Kd.string w A0_2 l0_2.length l0_2) (hc0_2 : l0_2.length ≤ c0_2) (hr0_3 : Kd.C k55 w A0_3 l0_3.length l0_3) (hc0_3 : l0_3.length ≤ c0_3) (h : spec_l07Group.f k a0_0 a0_1 l0_2 l0_3 a1 = some (r1, r2, r3, r4, r5)) :
    Calls Try.prog 64 #[.agg #[.string a0_0, .int .i64 a0_1, .slice A0_2 l0_2.length c0_2, .slice A0_3 l0_3.length c0_3], .string a1] w fun e w' => ∃ v2_ v3_ : Value, e = .returned (.tuple #[.agg #[.string r1, .int .i64 r2, v2_, v3_], .int .i64 r5]) ∧ Kd.R Kd.string 9 w' w.heap.size (fun _ => True) v2_ r3 ∧ Kd.R k55 55 w' w.heap.size (fun _ => True) v3_ r4 ∧ Below w.heap.size w w' := by
 have hu29 := Try.underlying29
 have hu55 := Try.underlying55
 have HR0_2 := AM hr0_2
 have HC0_2 := AM hc0_2
 clear hr0_2 hc0_2
 have HR0_3 := AM hr0_3
 have HC0_3 := AM hc0_3
 clear hr0_3 hc0_3
 have HB := AM (Below.refl w.heap.size w)
 have H : (spec_l07Group.l0 k a1 0 a0_0 a0_1 l0_2 l0_3) = some (r1, r2, r3, r4, r5) := h
 clear h
 have HC3 := AM H
 clear H
 go_enter Try.func64, Try.ntmps64
 go_upto_block 0 with (first | ((with_reducible refine gate_dst (N := 2) rfl ?_); refine box_event (by rfl) (N := 2) (by rfl) (cs := #[.string a0_0, .int .i64 a0_1, .slice A0_2 l0_2.length c0_2, .slice A0_3 l0_3.length c0_3]) (t := 29) (by first | (go_simp; done) | (go_simp; rfl)) ?_; intro gb101 hg w4 hbox hb; have _ := AM (below_step (bX HB.out) hb); have _ := AM (hbox); have n2_ := AM ((by rw [hg]; exact (bZ (bX HB.out)) : w.heap.size ≤ gb101)); clear HB; rename_i HB BK101; have GW101 := n2_; have GE101 := n2_; clear n2_; clear hb hbox hg) | ((with_reducible refine gate_dst (N := 4) rfl ?_); refine box_event (by rfl) (N := 4) (by rfl) (cs := #[.string (⟨#[]⟩ : ByteArray), .int .i64 0, .slice none 0 0, .slice none 0 0]) (t := 29) (by first | (go_simp; done) | (go_simp; rfl)) ?_; intro gb102 hg w5 hbox hb; have _ := AM (nB BK101.out hb); have _ := AM (below_step (bX HB.out) hb); have _ := AM (hbox); have n3_ := AM ((by rw [hg]; exact (bZ (bX HB.out)) : w.heap.size ≤ gb102)); have _ := AM (lX hg BK101.out); have _ := AM (lX hg BK101.out).symm; clear BK101 HB; rename_i BK101 HB BK102 NB101_102 NB102_101; have GW102 := n3_; have GE102 := n3_; clear n3_; clear hb hbox hg))
 (try simp only [Act.put, List.setIfInBounds_toArray, List.set_cons_zero, List.set_cons_succ])
 go_cut [6] (fun v6 wc => ∃ (kq : Nat) (x6_2 : Int), v6 = .int .i64 x6_2 ∧ Aside0 (spec_l07Group.j1 kq a1 x6_2 a0_0 a0_1 l0_2 l0_3 = some (r1, r2, r3, r4, r5)) ∧ Aside0 (kq ≤ k) ∧ Aside0 (wc.heap[gb101]? = some (.cells #[.string a0_0, .int .i64 a0_1, (.slice A0_2 l0_2.length c0_2), (.slice A0_3 l0_3.length c0_3)] 29 (0, 0))) ∧ Aside0 (wc.heap[gb102]? = some (.cells #[.string (⟨#[]⟩ : ByteArray), .int .i64 0, (.slice none 0 0), (.slice none 0 0)] 29 (0, 0))) ∧ Aside0 (Below w.heap.size w wc))
 case first =>
  have H := HC3.out
  clear HC3
  have H' := AM H
  clear H
  go_wp2
  go_loopg [6] k (fun kq v6 w' => ∃ (x6_1 : Int), v6 = .int .i64 x6_1 ∧ Aside0 (spec_l07Group.l0 kq a1 x6_1 a0_0 a0_1 l0_2 l0_3 = some (r1, r2, r3, r4, r5)) ∧ Aside0 (kq ≤ k) ∧ Aside0 (w'.heap[gb101]? = some (.cells #[.string a0_0, .int .i64 a0_1, (.slice A0_2 l0_2.length c0_2), (.slice A0_3 l0_3.length c0_3)] 29 (0, 0))) ∧ Aside0 (w'.heap[gb102]? = some (.cells #[.string (⟨#[]⟩ : ByteArray), .int .i64 0, (.slice none 0 0), (.slice none 0 0)] 29 (0, 0))) ∧ Aside0 (Below w.heap.size w w'))
  case atStart => exact ⟨(0), (by first | rfl | (simp; done) | (simp [*]; done)), H', ⟨Nat.le_refl _⟩, ⟨kX BK101.out⟩, ⟨kX BK102.out⟩, ⟨bX HB.out⟩⟩
  case round =>
   clear H'
   try clear p2
   obtain ⟨x6_1, rfl, HA, HK1, BK101, BK102, HB⟩ := hrel
   cases gk with
   | zero => exact absurd HA.out (by simp [spec_l07Group.l0])
   | succ k1 =>
    have H := HA.out
    clear HA
    simp only [spec_l07Group.l0] at H
    by_cases c6 : x6_1 < (l0_3.length : Int)
    ·
     rw [if_pos c6] at H
     have c6b0 : decide (x6_1 < (l0_3.length : Int)) = true := decide_eq_true c6
     clear c6
     (first | rw [c6b0] | (simp only [i64_w, i32_w]; rw [c6b0]) | skip)
     by_cases c7 : 0 ≤ x6_1
     ·
      rw [if_pos c7] at H
      have c7b0 : decide (0 ≤ x6_1) = true := decide_eq_true c7
      clear c7
      by_cases c8 : (Op.bytesLess (((rd_T55 l0_3 x6_1).f0).toList) a1.toList) = true
      ·
       rw [if_pos c8] at H
       have c8b0 : (Op.bytesLess (((rd_T55 l0_3 x6_1).f0).toList) a1.toList) = true := c8
       clear c8
       have H' := AM H
       clear H
       have hnb9 := NB101_102.out
       have hnc9 := NB102_101.out
       have hcz10 := q4 BK101.out
       have hfz10 := fZ BK101.out
       have p103 : 0 ≤ (x6_1 : Int) := of_decide_eq_true (by assumption)
       have q103 : x6_1 < (l0_3.length : Int) := of_decide_eq_true (by assumption)
       obtain ⟨ad103, e103, hx103_0, hx103_1⟩ := at_T55 HR0_3.out x6_1 p103 q103
       cases e103
       replace hx103_0 := pw_cell_below HB.out hx103_0
       replace hx103_1 := pw_cell_below HB.out hx103_1
       replace p103 := eq_true p103
       replace q103 := eq_true q103
       go_wp2
       go_roundg k1
       case measure => have := HK1.out; omega
       case rel => exact ⟨(wrap64 (x6_1 + 1)), (by first | rfl | (simp; done) | (simp [*]; done)), H', ⟨by have := HK1.out; omega⟩, ⟨kX BK101.out⟩, ⟨kX BK102.out⟩, ⟨bX HB.out⟩⟩
      rw [if_neg c8] at H
      have c8b0 : (Op.bytesLess (((rd_T55 l0_3 x6_1).f0).toList) a1.toList) = false := by simpa using c8
      clear c8
      have H' := AM H
      clear H
      have hnb11 := NB101_102.out
      have hnc11 := NB102_101.out
      have hcz12 := q4 BK101.out
      have hfz12 := fZ BK101.out
      have p103 : 0 ≤ (x6_1 : Int) := of_decide_eq_true (by assumption)
      have q103 : x6_1 < (l0_3.length : Int) := of_decide_eq_true (by assumption)
      obtain ⟨ad103, e103, hx103_0, hx103_1⟩ := at_T55 HR0_3.out x6_1 p103 q103
      cases e103
      replace hx103_0 := pw_cell_below HB.out hx103_0
      replace hx103_1 := pw_cell_below HB.out hx103_1
      replace p103 := eq_true p103
      replace q103 := eq_true q103
      go_wp2
      go_meet
      case rel => exact ⟨_, (x6_1), (by first | rfl | (simp; done) | (simp [*]; done)), H', ⟨by have := HK1.out; first | omega | exact Nat.le_refl _⟩, ⟨kX BK101.out⟩, ⟨kX BK102.out⟩, ⟨bX HB.out⟩⟩
     rw [if_neg c7] at H
     exact absurd H (by simp)
    rw [if_neg c6] at H
    have c6b0 : decide (x6_1 < (l0_3.length : Int)) = false := decide_eq_false c6
    clear c6
    (first | rw [c6b0] | (simp only [i64_w, i32_w]; rw [c6b0]) | skip)
    have H' := AM H
    clear H
    have hnb13 := NB101_102.out
    have hnc13 := NB102_101.out
    have hcz14 := q4 BK101.out
    have hfz14 := fZ BK101.out
    go_wp2
    go_meet
    case rel => exact ⟨_, (x6_1), (by first | rfl | (simp; done) | (simp [*]; done)), H', ⟨by have := HK1.out; first | omega | exact Nat.le_refl _⟩, ⟨kX BK101.out⟩, ⟨kX BK102.out⟩, ⟨bX HB.out⟩⟩
 case rest =>
  clear HC3
  (try clear c1); (try clear p1); (try clear q1); (try clear hx1); (try clear p2); (try clear c6); (try clear c6b0); (try clear p6); (try clear c7); (try clear c7b0); (try clear c8); (try clear c8b0); (try clear c9); (try clear p10); (try clear q10); (try clear hx10); (try clear c11); (try clear c13); (try clear hcz10); (try clear hcz12); (try clear hcz14); (try clear hfz10); (try clear hfz12); (try clear hfz14); (try clear hx103_0); (try clear hx103_1); (try clear p103); (try clear q103)
  obtain ⟨kq, x6_2, rfl, HA, HJ2, BK101, BK102, HB⟩ := hcut
  cases kq with
  | zero => exact absurd HA.out (by simp [spec_l07Group.j1])
  | succ kj2 =>
   have H := HA.out
   clear HA
   simp only [spec_l07Group.j1] at H
   replace H := Option.bind_eq_some_iff.mp H
   obtain ⟨⟨t104, t105, t106, t109⟩, A150, H⟩ := H
   try dsimp only at H
   have A15 := AM A150
   clear A150
   have HC16 := AM H
   clear H
   have hnb17 := NB101_102.out
   have hnc17 := NB102_101.out
   have hcz18 := q4 BK101.out
   have hfz18 := fZ BK101.out
   go_upto_region 5 with (first | ((with_reducible refine gate_callee (f := 82) rfl ?_); refine goesL_ (some 27) rfl rfl Try.func82 (by kernel_rfl) rfl #[.agg #[.string a0_0, .int .i64 a0_1, .slice A0_2 l0_2.length c0_2, .slice A0_3 l0_3.length c0_3]] rfl (by (try simp only [mA, mB, mC]); first | done | rfl | (simp only [mD, mE]; rfl)) ?_; (with_reducible refine (spec_l07Copy.calls a0_0 a0_1 _ _ l0_2 _ _ l0_3 t104 t105 t106 t109 _ ?side1 ?side2 ?side3 ?side4 A15.out).mono ?_); (case side1 => repeat (first | exact (cB HR0_2.out HB.out) | (with_reducible first | apply cA | apply cN | apply cD))); (case side2 => exact HC0_2.out); (case side3 => repeat (first | exact (cB HR0_3.out HB.out) | (with_reducible first | apply cA | apply cN | apply cD))); (case side4 => exact HC0_3.out); rintro e w19 ⟨v107, v110, rfl, ho0, ho1, hb⟩; refine ⟨_, rfl, ?_⟩; have _ := AM (Kd.R_lower ho0 (bZ (bX HB.out))); have _ := AM (Kd.R_lower ho1 (bZ (bX HB.out))); have _ := AM (nB BK101.out hb); have _ := AM (nB BK102.out hb); have _ := AM (below_step (bX HB.out) hb); clear BK101 BK102 HB; rename_i HO108 HO111 BK101 BK102 HB; (try clear hb); (try clear hk); (try clear ho0); (try clear ho1)) | ((with_reducible refine gate_dst (N := 7) rfl ?_); refine box_event (by rfl) (N := 7) (by rfl) (cs := #[.string (⟨#[]⟩ : ByteArray), .int .i64 0, .slice none 0 0, .slice none 0 0]) (t := 29) (by first | (go_simp; done) | (go_simp; rfl)) ?_; intro gb112 hg w20 hbox hb; have _ := AM (Kd.R_below (rX HO108.out) hb); have _ := AM (Kd.R_below (rX HO111.out) hb); have _ := AM (nB BK101.out hb); have _ := AM (nB BK102.out hb); have _ := AM (below_step (bX HB.out) hb); have _ := AM (hbox); have n6_ := AM ((by rw [hg]; exact (bZ (bX HB.out)) : w.heap.size ≤ gb112)); have _ := AM (lX hg BK101.out); have _ := AM (lX hg BK101.out).symm; have _ := AM (lX hg BK102.out); have _ := AM (lX hg BK102.out).symm; clear HO108 HO111 BK101 BK102 HB; rename_i HO108 HO111 BK101 BK102 HB BK112 NB101_112 NB112_101 NB102_112 NB112_102; have GW112 := n6_; have GE112 := n6_; clear n6_; clear hb hbox hg; have hnb21 := NB112_101.out; have hnc21 := NB101_112.out; have hnb22 := NB112_102.out; have hnc22 := NB102_112.out; have hcz23 := q4 BK112.out; have hfz23 := fZ BK112.out; obtain ⟨Ao24, co24, eo24⟩ := Kd.R_slice HO108.out; subst eo24; obtain ⟨Ao25, co25, eo25⟩ := Kd.R_slice HO111.out; subst eo25))
   (try simp only [Act.put, List.setIfInBounds_toArray, List.set_cons_zero, List.set_cons_succ])
   go_cut [42] (fun v42 wc => ∃ (kq : Nat) (x42_15 : Bool), v42 = .bool x42_15 ∧ Aside0 (spec_l07Group.j2 kq a1 x6_2 x42_15 a0_0 a0_1 l0_2 l0_3 t104 t105 t106 t109 = some (r1, r2, r3, r4, r5)) ∧ Aside0 (kq ≤ kj2) ∧ Aside0 (Kd.R Kd.string 9 wc w.heap.size (fun _ => True) (.slice Ao24 t106.length co24) t106) ∧ Aside0 (Kd.R k55 55 wc w.heap.size (fun _ => True) (.slice Ao25 t109.length co25) t109) ∧ Aside0 (wc.heap[gb101]? = some (.cells #[.string a0_0, .int .i64 a0_1, (.slice A0_2 l0_2.length c0_2), (.slice A0_3 l0_3.length c0_3)] 29 (0, 0))) ∧ Aside0 (wc.heap[gb102]? = some (.cells #[.string (⟨#[]⟩ : ByteArray), .int .i64 0, (.slice none 0 0), (.slice none 0 0)] 29 (0, 0))) ∧ Aside0 (wc.heap[gb112]? = some (.cells #[.string t104, .int .i64 t105, (.slice Ao24 t106.length co24), (.slice Ao25 t109.length co25)] 29 (0, 0))) ∧ Aside0 (Below w.heap.size w wc))
   case first =>
    have H := HC16.out
    clear HC16
    by_cases c26 : x6_2 < (l0_3.length : Int)
    ·
     rw [if_pos c26] at H
     have c26b0 : decide (x6_2 < (l0_3.length : Int)) = true := decide_eq_true c26
     clear c26
     (first | rw [c26b0] | (simp only [i64_w, i32_w]; rw [c26b0]) | skip)
     by_cases c27 : 0 ≤ x6_2
     ·
      rw [if_pos c27] at H
      have c27b0 : decide (0 ≤ x6_2) = true := decide_eq_true c27
      clear c27
      have H' := AM H
      clear H
      have hnb28 := NB101_102.out
      have hnc28 := NB102_101.out
      have hnb29 := NB101_112.out
      have hnc29 := NB112_101.out
      have hcz30 := q4 BK101.out
      have hfz30 := fZ BK101.out
      have p113 : 0 ≤ (x6_2 : Int) := of_decide_eq_true (by assumption)
      have q113 : x6_2 < (l0_3.length : Int) := of_decide_eq_true (by assumption)
      obtain ⟨ad113, e113, hx113_0, hx113_1⟩ := at_T55 HR0_3.out x6_2 p113 q113
      cases e113
      have hn113_0 : ad113.block ≠ gb112 := Nat.ne_of_lt (Nat.lt_of_lt_of_le (by have := World.block_lt_of_cell? _ _ hx113_0; first | rwa [add_block] at this | exact this) GW112.out)
      have hn113_1 : ad113.block ≠ gb112 := Nat.ne_of_lt (Nat.lt_of_lt_of_le (by have := World.block_lt_of_cell? _ _ hx113_0; first | rwa [add_block] at this | exact this) GW112.out)
      have hn113_2 : ad113.block ≠ gb112 := Nat.ne_of_lt (Nat.lt_of_lt_of_le (by have := World.block_lt_of_cell? _ _ hx113_0; first | rwa [add_block] at this | exact this) GW112.out)
      have hn113_3 : ad113.block ≠ gb112 := Nat.ne_of_lt (Nat.lt_of_lt_of_le (by have := World.block_lt_of_cell? _ _ hx113_0; first | rwa [add_block] at this | exact this) GW112.out)
      replace hx113_0 := pw_cell_below HB.out hx113_0
      replace hx113_1 := pw_cell_below HB.out hx113_1
      replace hx113_0 := (cell_far (p := ⟨gb112, 0, none⟩) (by first | (rw [add_block]; exact hn113_0) | (show (Addr.add _ _).block ≠ _; rw [add_block]; exact hn113_0) | exact hn113_0) (.string t104)).trans hx113_0
      replace hx113_1 := (cell_far (p := ⟨gb112, 0, none⟩) (by first | (rw [add_block]; exact hn113_0) | (show (Addr.add _ _).block ≠ _; rw [add_block]; exact hn113_0) | exact hn113_0) (.string t104)).trans hx113_1
      replace hx113_0 := (cell_far (p := ⟨gb112, 1, none⟩) (by first | (rw [add_block]; exact hn113_1) | (show (Addr.add _ _).block ≠ _; rw [add_block]; exact hn113_1) | exact hn113_1) (.int .i64 t105)).trans hx113_0
      replace hx113_1 := (cell_far (p := ⟨gb112, 1, none⟩) (by first | (rw [add_block]; exact hn113_1) | (show (Addr.add _ _).block ≠ _; rw [add_block]; exact hn113_1) | exact hn113_1) (.int .i64 t105)).trans hx113_1
      replace hx113_0 := (cell_far (p := ⟨gb112, 2, none⟩) (by first | (rw [add_block]; exact hn113_2) | (show (Addr.add _ _).block ≠ _; rw [add_block]; exact hn113_2) | exact hn113_2) (.slice Ao24 t106.length co24)).trans hx113_0
      replace hx113_1 := (cell_far (p := ⟨gb112, 2, none⟩) (by first | (rw [add_block]; exact hn113_2) | (show (Addr.add _ _).block ≠ _; rw [add_block]; exact hn113_2) | exact hn113_2) (.slice Ao24 t106.length co24)).trans hx113_1
      replace hx113_0 := (cell_far (p := ⟨gb112, 3, none⟩) (by first | (rw [add_block]; exact hn113_3) | (show (Addr.add _ _).block ≠ _; rw [add_block]; exact hn113_3) | exact hn113_3) (.slice Ao25 t109.length co25)).trans hx113_0
      replace hx113_1 := (cell_far (p := ⟨gb112, 3, none⟩) (by first | (rw [add_block]; exact hn113_3) | (show (Addr.add _ _).block ≠ _; rw [add_block]; exact hn113_3) | exact hn113_3) (.slice Ao25 t109.length co25)).trans hx113_1
      clear hn113_0
      clear hn113_1
      clear hn113_2
      clear hn113_3
      replace p113 := eq_true p113
      replace q113 := eq_true q113
      go_wp2
      go_meet
      case rel => exact ⟨_, ((((rd_T55 l0_3 x6_2).f0).toList == a1.toList)), (by first | rfl | (simp; done) | (simp [*]; done)), H', ⟨by have := HJ2.out; first | omega | exact Nat.le_refl _⟩, ⟨by (with_reducible repeat (first | apply rA | apply rN | apply rD)); exact Rf4 HO108.out BK112.out (by decide) (fun _ hk => trivial)⟩, ⟨by (with_reducible repeat (first | apply rA | apply rN | apply rD)); exact Rf4 HO111.out BK112.out (by decide) (fun _ hk => trivial)⟩, ⟨by (iterate 4 refine kF NB101_112.out ?_); (with_reducible repeat (first | apply kN | apply kD | apply kA)); exact BK101.out⟩, ⟨by (iterate 4 refine kF NB102_112.out ?_); (with_reducible repeat (first | apply kN | apply kD | apply kA)); exact BK102.out⟩, ⟨by refine kP (cs := #[.string t104, .int .i64 t105, .slice Ao24 t106.length co24, .slice none 0 0]) 3 ?_; refine kP (cs := #[.string t104, .int .i64 t105, .slice none 0 0, .slice none 0 0]) 2 ?_; refine kP (cs := #[.string t104, .int .i64 0, .slice none 0 0, .slice none 0 0]) 1 ?_; refine kP (cs := #[.string (⟨#[]⟩ : ByteArray), .int .i64 0, .slice none 0 0, .slice none 0 0]) 0 ?_; (with_reducible repeat (first | apply kN | apply kD | apply kA)); exact BK112.out⟩, ⟨bX HB.out⟩⟩
     rw [if_neg c27] at H
     exact absurd H (by simp)
    rw [if_neg c26] at H
    have c26b0 : decide (x6_2 < (l0_3.length : Int)) = false := decide_eq_false c26
    clear c26
    (first | rw [c26b0] | (simp only [i64_w, i32_w]; rw [c26b0]) | skip)
    have H' := AM H
    clear H
    have hnb31 := NB101_102.out
    have hnc31 := NB102_101.out
    have hnb32 := NB101_112.out
    have hnc32 := NB112_101.out
    have hcz33 := q4 BK101.out
    have hfz33 := fZ BK101.out
    go_wp2
    go_meet
    case rel => exact ⟨_, (false), (by first | rfl | (simp; done) | (simp [*]; done)), H', ⟨by have := HJ2.out; first | omega | exact Nat.le_refl _⟩, ⟨by (with_reducible repeat (first | apply rA | apply rN | apply rD)); exact Rf4 HO108.out BK112.out (by decide) (fun _ hk => trivial)⟩, ⟨by (with_reducible repeat (first | apply rA | apply rN | apply rD)); exact Rf4 HO111.out BK112.out (by decide) (fun _ hk => trivial)⟩, ⟨by (iterate 4 refine kF NB101_112.out ?_); (with_reducible repeat (first | apply kN | apply kD | apply kA)); exact BK101.out⟩, ⟨by (iterate 4 refine kF NB102_112.out ?_); (with_reducible repeat (first | apply kN | apply kD | apply kA)); exact BK102.out⟩, ⟨by refine kP (cs := #[.string t104, .int .i64 t105, .slice Ao24 t106.length co24, .slice none 0 0]) 3 ?_; refine kP (cs := #[.string t104, .int .i64 t105, .slice none 0 0, .slice none 0 0]) 2 ?_; refine kP (cs := #[.string t104, .int .i64 0, .slice none 0 0, .slice none 0 0]) 1 ?_; refine kP (cs := #[.string (⟨#[]⟩ : ByteArray), .int .i64 0, .slice none 0 0, .slice none 0 0]) 0 ?_; (with_reducible repeat (first | apply kN | apply kD | apply kA)); exact BK112.out⟩, ⟨bX HB.out⟩⟩
   case rest =>
    clear HC16
    (try clear c1); (try clear p1); (try clear q1); (try clear hx1); (try clear c2); (try clear p2); (try clear c3); (try clear c6); (try clear c6b0); (try clear p6); (try clear c7); (try clear c7b0); (try clear c8); (try clear c8b0); (try clear c9); (try clear p10); (try clear q10); (try clear hx10); (try clear c11); (try clear p11); (try clear q11); (try clear hx11); (try clear c13); (try clear c17); (try clear c21); (try clear c22); (try clear c26); (try clear c26b0); (try clear c27); (try clear c27b0); (try clear c28); (try clear c29); (try clear c31); (try clear c32); (try clear hcz10); (try clear hcz12); (try clear hcz14); (try clear hcz18); (try clear hcz23); (try clear hcz30); (try clear hcz33); (try clear hfz10); (try clear hfz12); (try clear hfz14); (try clear hfz18); (try clear hfz23); (try clear hfz30); (try clear hfz33); (try clear hx103_0); (try clear hx103_1); (try clear hx113_0); (try clear hx113_1); (try clear p103); (try clear p113); (try clear q103); (try clear q113)
    obtain ⟨kq, x42_15, rfl, HA, HJ15, HO_113002, HO_113003, BK101, BK102, BK112, HB⟩ := hcut
    cases kq with
    | zero => exact absurd HA.out (by simp [spec_l07Group.j2])
    | succ kj15 =>
     have H := HA.out
     clear HA
     simp only [spec_l07Group.j2] at H
     by_cases c34 : x42_15 = true
     ·
      subst c34
      have H1 : (some (t104, t105, t106, t109, x6_2)) = some (r1, r2, r3, r4, r5) := by rw [if_pos rfl] at H; exact H
      clear H
      have H := H1
      clear H1
      simp only [Option.some.injEq, Prod.mk.injEq] at H
      obtain ⟨rfl, rfl, rfl, rfl, rfl⟩ := H
      have hnb35 := NB112_101.out
      have hnc35 := NB101_112.out
      have hnb36 := NB112_102.out
      have hnc36 := NB102_112.out
      have hcz37 := q4 BK112.out
      have hfz37 := fZ BK112.out
      have hnb38 := NB102_101.out
      have hnc38 := NB101_102.out
      have hcz39 := q4 BK102.out
      have hfz39 := fZ BK102.out
      go_wp2
      refine bodyPost_ret (results_ct rfl _ _ gb102 29 #[.string t104, .int .i64 t105, .slice Ao24 t106.length co24, .slice Ao25 t109.length co25] (0, 0) _ rfl (by refine kP (cs := #[.string t104, .int .i64 t105, .slice Ao24 t106.length co24, .slice none 0 0]) 3 ?_; refine kP (cs := #[.string t104, .int .i64 t105, .slice none 0 0, .slice none 0 0]) 2 ?_; refine kP (cs := #[.string t104, .int .i64 0, .slice none 0 0, .slice none 0 0]) 1 ?_; refine kP (cs := #[.string (⟨#[]⟩ : ByteArray), .int .i64 0, .slice none 0 0, .slice none 0 0]) 0 ?_; (with_reducible repeat (first | apply kN | apply kD | apply kA)); exact BK102.out) Try.underlying29 rfl (by kernel_rfl)) rfl ?_
      exact ⟨_, _, by first | rfl | (simp [*, errW_none, errW_some] <;> rfl), by (with_reducible repeat (first | apply rA | apply rN | apply rD)); exact Rf4 HO_113002.out BK102.out (by decide) (fun _ hk => trivial), by (with_reducible repeat (first | apply rA | apply rN | apply rD)); exact Rf4 HO_113003.out BK102.out (by decide) (fun _ hk => trivial), bX HB.out⟩
     replace c34 := Bool.eq_false_iff.mpr c34
     subst c34
     have H1 : (if (l0_3.length : Int) ≥ 4 then (some (t104, t105, t106, t109, (-1))) else ((some (([] : List (S55)) : List (S55))).bind fun y114 => (if 0 ≤ x6_2 then (if x6_2 ≤ (l0_3.length : Int) then ((some (l0_3.take (x6_2 : Int).toNat : List (S55))).bind fun y117 => (if y114.length + y117.length < 5864062014805 then ((some (y114 ++ y117 : List (S55))).bind fun y121 => (if y121.length < 5864062014805 then ((some (y121 ++ [(⟨a1, a0_1⟩ : S55)] : List (S55))).bind fun y124 => ((some (l0_3.drop (x6_2 : Int).toNat : List (S55))).bind fun y127 => (if y124.length + y127.length < 5864062014805 then (some (t104, t105, t106, (y124 ++ y127), x6_2)) else (none)))) else (none))) else (none))) else (none)) else (none)))) = some (r1, r2, r3, r4, r5) := by rw [if_neg (show ¬ (false = true) by decide)] at H; exact H
     clear H
     have H := H1
     clear H1
     by_cases c40 : (l0_3.length : Int) ≥ 4
     ·
      rw [if_pos c40] at H
      have c40b0 : decide (4 ≤ (l0_3.length : Int)) = true := decide_eq_true c40
      have c40b1 : decide (4 ≤ l0_3.length) = true := decide_eq_true (by omega)
      clear c40
      simp only [Option.some.injEq, Prod.mk.injEq] at H
      obtain ⟨rfl, rfl, rfl, rfl, rfl⟩ := H
      have hnb41 := NB101_102.out
      have hnc41 := NB102_101.out
      have hnb42 := NB101_112.out
      have hnc42 := NB112_101.out
      have hcz43 := q4 BK101.out
      have hfz43 := fZ BK101.out
      have hnb44 := NB112_102.out
      have hnc44 := NB102_112.out
      have hcz45 := q4 BK112.out
      have hfz45 := fZ BK112.out
      have hcz46 := q4 BK102.out
      have hfz46 := fZ BK102.out
      go_wp2
      refine bodyPost_ret (results_ct rfl _ _ gb102 29 #[.string t104, .int .i64 t105, .slice Ao24 t106.length co24, .slice Ao25 t109.length co25] (0, 0) _ rfl (by refine kP (cs := #[.string t104, .int .i64 t105, .slice Ao24 t106.length co24, .slice none 0 0]) 3 ?_; refine kP (cs := #[.string t104, .int .i64 t105, .slice none 0 0, .slice none 0 0]) 2 ?_; refine kP (cs := #[.string t104, .int .i64 0, .slice none 0 0, .slice none 0 0]) 1 ?_; refine kP (cs := #[.string (⟨#[]⟩ : ByteArray), .int .i64 0, .slice none 0 0, .slice none 0 0]) 0 ?_; (with_reducible repeat (first | apply kN | apply kD | apply kA)); exact BK102.out) Try.underlying29 rfl (by kernel_rfl)) rfl ?_
      exact ⟨_, _, by first | rfl | (simp [*, errW_none, errW_some] <;> rfl), by (with_reducible repeat (first | apply rA | apply rN | apply rD)); exact Rf4 HO_113002.out BK102.out (by decide) (fun _ hk => trivial), by (with_reducible repeat (first | apply rA | apply rN | apply rD)); exact Rf4 HO_113003.out BK102.out (by decide) (fun _ hk => trivial), bX HB.out⟩
     rw [if_neg c40] at H
     have c40b0 : decide (4 ≤ (l0_3.length : Int)) = false := decide_eq_false c40
     have c40b1 : decide (4 ≤ l0_3.length) = false := decide_eq_false (by omega)
     clear c40
     obtain ⟨y114, hy114⟩ : ∃ y_ : List (S55), y_ = (([] : List (S55))) := ⟨_, rfl⟩
     replace H : (if 0 ≤ x6_2 then (if x6_2 ≤ (l0_3.length : Int) then ((some (l0_3.take (x6_2 : Int).toNat : List (S55))).bind fun y117 => (if y114.length + y117.length < 5864062014805 then ((some (y114 ++ y117 : List (S55))).bind fun y121 => (if y121.length < 5864062014805 then ((some (y121 ++ [(⟨a1, a0_1⟩ : S55)] : List (S55))).bind fun y124 => ((some (l0_3.drop (x6_2 : Int).toNat : List (S55))).bind fun y127 => (if y124.length + y127.length < 5864062014805 then (some (t104, t105, t106, (y124 ++ y127), x6_2)) else (none)))) else (none))) else (none))) else (none)) else (none)) = some (r1, r2, r3, r4, r5) := by first | (rw [hy114]; with_reducible exact H) | (have H2_ := (Option.bind_some _ _).symm.trans H; rw [hy114]; with_reducible exact H2_) | (have H2_ := (Option.bind_some _ _).symm.trans H; with_reducible exact H2_) | with_reducible exact H | (rw [hy114]; exact H) | exact H
     have Ny114 := AM hy114
     clear hy114
     by_cases c47 : 0 ≤ x6_2
     ·
      rw [if_pos c47] at H
      have c47b0 := eq_true c47
      have c47b1 : decide (0 ≤ x6_2) = true := decide_eq_true c47
      clear c47
      by_cases c48 : x6_2 ≤ (l0_3.length : Int)
      ·
       rw [if_pos c48] at H
       have c48b0 := eq_true c48
       have c48b1 : decide (x6_2 ≤ (l0_3.length : Int)) = true := decide_eq_true c48
       clear c48
       obtain ⟨y117, hy117⟩ : ∃ y_ : List (S55), y_ = (l0_3.take (x6_2 : Int).toNat) := ⟨_, rfl⟩
       replace H : (if y114.length + y117.length < 5864062014805 then ((some (y114 ++ y117 : List (S55))).bind fun y121 => (if y121.length < 5864062014805 then ((some (y121 ++ [(⟨a1, a0_1⟩ : S55)] : List (S55))).bind fun y124 => ((some (l0_3.drop (x6_2 : Int).toNat : List (S55))).bind fun y127 => (if y124.length + y127.length < 5864062014805 then (some (t104, t105, t106, (y124 ++ y127), x6_2)) else (none)))) else (none))) else (none)) = some (r1, r2, r3, r4, r5) := by first | (rw [hy117]; with_reducible exact H) | (have H2_ := (Option.bind_some _ _).symm.trans H; rw [hy117]; with_reducible exact H2_) | (have H2_ := (Option.bind_some _ _).symm.trans H; with_reducible exact H2_) | with_reducible exact H | (rw [hy117]; exact H) | exact H
       have Ny117 := AM hy117
       clear hy117
       by_cases c49 : y114.length + y117.length < 5864062014805
       ·
        rw [if_pos c49] at H
        have LMc49 := AM c49
        clear c49
        obtain ⟨y121, hy121⟩ : ∃ y_ : List (S55), y_ = (y114 ++ y117) := ⟨_, rfl⟩
        replace H : (if y121.length < 5864062014805 then ((some (y121 ++ [(⟨a1, a0_1⟩ : S55)] : List (S55))).bind fun y124 => ((some (l0_3.drop (x6_2 : Int).toNat : List (S55))).bind fun y127 => (if y124.length + y127.length < 5864062014805 then (some (t104, t105, t106, (y124 ++ y127), x6_2)) else (none)))) else (none)) = some (r1, r2, r3, r4, r5) := by first | (rw [hy121]; with_reducible exact H) | (have H2_ := (Option.bind_some _ _).symm.trans H; rw [hy121]; with_reducible exact H2_) | (have H2_ := (Option.bind_some _ _).symm.trans H; with_reducible exact H2_) | with_reducible exact H | (rw [hy121]; exact H) | exact H
        have Ny121 := AM hy121
        clear hy121
        by_cases c50 : y121.length < 5864062014805
        ·
         rw [if_pos c50] at H
         have LMc50 := AM c50
         clear c50
         obtain ⟨y124, hy124⟩ : ∃ y_ : List (S55), y_ = (y121 ++ [(⟨a1, a0_1⟩ : S55)]) := ⟨_, rfl⟩
         replace H : ((some (l0_3.drop (x6_2 : Int).toNat : List (S55))).bind fun y127 => (if y124.length + y127.length < 5864062014805 then (some (t104, t105, t106, (y124 ++ y127), x6_2)) else (none))) = some (r1, r2, r3, r4, r5) := by first | (rw [hy124]; with_reducible exact H) | (have H2_ := (Option.bind_some _ _).symm.trans H; rw [hy124]; with_reducible exact H2_) | (have H2_ := (Option.bind_some _ _).symm.trans H; with_reducible exact H2_) | with_reducible exact H | (rw [hy124]; exact H) | exact H
         have Ny124 := AM hy124
         clear hy124
         have c51b0 := eq_true (of_decide_eq_true (by assumption) : 0 ≤ x6_2)
         have c52b0 := eq_true (of_decide_eq_true (by assumption) : x6_2 ≤ (l0_3.length : Int))
         obtain ⟨y127, hy127⟩ : ∃ y_ : List (S55), y_ = (l0_3.drop (x6_2 : Int).toNat) := ⟨_, rfl⟩
         replace H : (if y124.length + y127.length < 5864062014805 then (some (t104, t105, t106, (y124 ++ y127), x6_2)) else (none)) = some (r1, r2, r3, r4, r5) := by first | (rw [hy127]; with_reducible exact H) | (have H2_ := (Option.bind_some _ _).symm.trans H; rw [hy127]; with_reducible exact H2_) | (have H2_ := (Option.bind_some _ _).symm.trans H; with_reducible exact H2_) | with_reducible exact H | (rw [hy127]; exact H) | exact H
         have Ny127 := AM hy127
         clear hy127
         by_cases c53 : y124.length + y127.length < 5864062014805
         ·
          rw [if_pos c53] at H
          have LMc53 := AM c53
          clear c53
          obtain ⟨y131, hy131⟩ : ∃ y_ : List (S55), y_ = (y124 ++ y127) := ⟨_, rfl⟩
          replace H : (some (t104, t105, t106, y131, x6_2)) = some (r1, r2, r3, r4, r5) := by first | (rw [hy131]; with_reducible exact H) | (have H2_ := (Option.bind_some _ _).symm.trans H; rw [hy131]; with_reducible exact H2_) | (have H2_ := (Option.bind_some _ _).symm.trans H; with_reducible exact H2_) | with_reducible exact H | (rw [hy131]; exact H) | exact H
          have Ny131 := AM hy131
          clear hy131
          simp only [Option.some.injEq, Prod.mk.injEq] at H
          obtain ⟨rfl, rfl, rfl, rfl, rfl⟩ := H
          have hnb54 := NB101_102.out
          have hnc54 := NB102_101.out
          have hnb55 := NB101_112.out
          have hnc55 := NB112_101.out
          have hcz56 := q4 BK101.out
          have hfz56 := fZ BK101.out
          go_wp2_with (first | ((with_reducible refine gate_dst (N := 50) rfl ?_); refine Kd.R_lit k55 _ 55 ?hg (N := 50) ?hd (xs := ([] : List (S55))) (inner := []) (ok := fun _ => True) (okp := fun _ => True) ?hr ?hp (fun _ hk => hk) trivial (Below.refl _ _) (Nat.le_refl _) (by simp) ?_; (case hd => rfl); (case hg => rfl); (case hr => first | (go_simp; done) | (go_simp; rfl)); (case hp => exact (Reps.none _ _)); intro v115 w57 ho58 hb hg_ hnew_; clear hg_ hnew_; (first | rw [← Ny114.out] at ho58 | (simp only [Int.reduceToNat] at ho58; rw [← Ny114.out] at ho58)); have _ := AM (Kd.R_below (rX HO_113002.out) hb); have _ := AM (Kd.R_elder' (rX HO_113003.out) (Kd.R_base ho58) hb); have _ := AM (Kd.R_lower (Kd.R_new' ho58 (Kd.R_lt (rX HO_113003.out))) (bZ (bX HB.out))); have _ := AM (nB BK101.out hb); have _ := AM (nB BK102.out hb); have _ := AM (nB BK112.out hb); have _ := AM (below_step (bX HB.out) hb); clear HO_113002 HO_113003 BK101 BK102 BK112 HB; rename_i HO_113002 HO_113003 HO116 BK101 BK102 BK112 HB; clear hb ho58; have hcz59 := q4 BK101.out; have hfz59 := fZ BK101.out; have q60 : (x6_2 : Int) ≤ ((l0_3.length : Int) : Int) := of_decide_eq_true (by assumption); obtain ⟨i060, hi060, _, hsz60, _⟩ := info_parts info55; have hroom60 : l0_3.length ≤ c0_3 := HC0_3.out; have hC60 : Kd.C k55 _ A0_3 l0_3.length l0_3 := HR0_3.out; have hcut60 := cut_to (P := Try.prog) 27 55 .i64 Try.underlying27 hi060 A0_3 l0_3.length c0_3 x6_2 (of_decide_eq_true (by assumption)) q60 hroom60; have hr60 := Kd.C_take (m := (x6_2 : Int).toNat) hC60 (by omega); have hy60 : y117.length = (x6_2 : Int).toNat := (by rw [Ny117.out, mE]; omega); rw [← Ny117.out] at hr60; rw [← hy60] at hcut60; have HR120 := AM hr60; have HC120 := AM (show y117.length ≤ c0_3 from by omega); clear hr60 hC60 hroom60 hi060 hsz60; have KY60 := AM hy60; clear hy60; replace q60 := eq_true q60) | ((with_reducible refine gate_builtin (b := .append) (xs := #[.tmp 50, .tmp 54]) rfl ?_); at_builtin; refine Kd.R_append_rows k55 (w0 := w) w.heap.size rfl (.tmp 50) (.tmp 54) 27 55 (.agg #[(.string ⟨#[]⟩), (.int .i64 0)]) 24 rfl Try.underlying27 info55 rfl (by decide) (by omega) v115 y114 y117 _ _ _ (fun k_ => some k_ ≠ (.slice Ao25 t109.length co25 : Value).ownBlock) (fun _ => False) rfl rfl ?aO ?aR (fun _ _ h => h) (fun _ h => h.elim) ?aF ?aB ?aS ?aL ?_; (case aR => repeat (first | exact (cB HR120.out HB.out) | (with_reducible first | apply cA | apply cN | apply cD))); (case aB => exact (bX HB.out)); (case aF => exact (fun k_ hk => Kd.fresh' (Kd.R_lt (rX HO_113003.out)) k_ hk)); (case aO => exact (by (with_reducible repeat (first | apply rA | apply rN | apply rD)); exact Kd.R_mono HO116.out (fun _ hk => hk.2))); (case aS => exact (bZ (bX HB.out))); (case aL => have := LMc49.out; omega); intro v122 w61 ho hb hg hat; rw [← Ny121.out] at ho; have _ := AM (Kd.R_over' (rX HO_113002.out) (Kd.R_typed (rX HO116.out)) (by decide) hg); have _ := AM (Kd.R_after (ok := (fun _ => True)) (rX HO_113003.out) hg hat); have _ := AM (blk_grown (g := gb101) (o := .cells #[.string a0_0, .int .i64 a0_1, .slice A0_2 l0_2.length c0_2, .slice A0_3 l0_3.length c0_3] 29 (0, 0)) (kX BK101.out) hg (Kd.R_ne HO116.out BK101.out (by decide))); have _ := AM (blk_grown (g := gb102) (o := .cells #[.string (⟨#[]⟩ : ByteArray), .int .i64 0, .slice none 0 0, .slice none 0 0] 29 (0, 0)) (kX BK102.out) hg (Kd.R_ne HO116.out BK102.out (by decide))); have _ := AM (blk_grown (g := gb112) (o := .cells #[.string t104, .int .i64 t105, .slice Ao24 t106.length co24, .slice Ao25 t109.length co25] 29 (0, 0)) (kX BK112.out) hg (Kd.R_ne HO116.out BK112.out (by decide))); have _ := AM (hb); have _ := AM (ho); clear HO_113002 HO_113003 BK101 BK102 BK112 HB HO116; rename_i HO_113002 HO_113003 BK101 BK102 BK112 HB HO123; clear ho hb hg hat; have hcz62 := q4 BK101.out; have hfz62 := fZ BK101.out) | ((with_reducible refine gate_builtin (b := .append) (xs := #[.tmp 56, .tmp 61]) rfl ?_); at_builtin; refine Kd.R_append k55 (w0 := w) w.heap.size rfl (.tmp 56) (.tmp 61) 27 55 (.agg #[(.string ⟨#[]⟩), (.int .i64 0)]) 24 rfl Try.underlying27 info55 rfl (by decide) (by omega) v122 y121 (⟨a1, a0_1⟩ : S55) [.string a1, .int .i64 a0_1] (fun k_ => some k_ ≠ (.slice Ao25 t109.length co25 : Value).ownBlock) (fun _ => False) rfl rfl ?aP (fun _ hk => hk.elim) ?aF ?aO ?aB ?aS ?aL ?_; (case aP => exact k55_mkM _ _ _ (⟨a1, a0_1⟩ : S55)); (case aB => exact (bX HB.out)); (case aF => exact (fun k_ hk => Kd.fresh' (Kd.R_lt (rX HO_113003.out)) k_ hk)); (case aO => exact (rX HO123.out)); (case aS => exact (bZ (bX HB.out))); (case aL => have := LMc50.out; omega); intro v125 w63 ho hb hg hat; rw [← Ny124.out] at ho; have _ := AM (Kd.R_over' (rX HO_113002.out) (Kd.R_typed (rX HO123.out)) (by decide) hg); have _ := AM (Kd.R_after (ok := (fun _ => True)) (rX HO_113003.out) hg hat); have _ := AM (blk_grown (g := gb101) (o := .cells #[.string a0_0, .int .i64 a0_1, .slice A0_2 l0_2.length c0_2, .slice A0_3 l0_3.length c0_3] 29 (0, 0)) (kX BK101.out) hg (Kd.R_ne HO123.out BK101.out (by decide))); have _ := AM (blk_grown (g := gb102) (o := .cells #[.string (⟨#[]⟩ : ByteArray), .int .i64 0, .slice none 0 0, .slice none 0 0] 29 (0, 0)) (kX BK102.out) hg (Kd.R_ne HO123.out BK102.out (by decide))); have _ := AM (blk_grown (g := gb112) (o := .cells #[.string t104, .int .i64 t105, .slice Ao24 t106.length co24, .slice Ao25 t109.length co25] 29 (0, 0)) (kX BK112.out) hg (Kd.R_ne HO123.out BK112.out (by decide))); have _ := AM (hb); have _ := AM (ho); clear HO_113002 HO_113003 BK101 BK102 BK112 HB HO123; rename_i HO_113002 HO_113003 BK101 BK102 BK112 HB HO126; clear ho hb hg hat; have hcz64 := q4 BK101.out; have hfz64 := fZ BK101.out; have q65 : (x6_2 : Int) ≤ ((l0_3.length : Int) : Int) := of_decide_eq_true (by assumption); obtain ⟨i065, hi065, _, hsz65, _⟩ := info_parts info55; have hroom65 : l0_3.length ≤ c0_3 := HC0_3.out; have hC65 : Kd.C k55 _ A0_3 l0_3.length l0_3 := HR0_3.out; have q065 : (0 : Int) ≤ (x6_2 : Int) := of_decide_eq_true (by assumption); have hcut65 := cut_from (P := Try.prog) 27 55 .i64 Try.underlying27 hi065 2 hsz65 A0_3 l0_3.length c0_3 x6_2 q065 q65; have hr65 := Kd.C_drop (m := (x6_2 : Int).toNat) (c := c0_3) hC65 (by omega) hroom65; obtain ⟨A65, hA65⟩ : ∃ A1, A1 = (if c0_3 = (x6_2 : Int).toNat then A0_3 else (A0_3 : Option Addr).map (·.add ((x6_2 : Int).toNat * 2))) := ⟨_, rfl⟩; obtain ⟨c65, hc65⟩ : ∃ c1, c1 = c0_3 - (x6_2 : Int).toNat := ⟨_, rfl⟩; have hy65 : y127.length = l0_3.length - (x6_2 : Int).toNat := (by rw [Ny127.out, mD] <;> omega); rw [show (l0_3).drop (x6_2 : Int).toNat = y127 from Ny127.out.symm] at hr65; replace hr65 : Kd.C k55 _ A65 y127.length y127 := (by rw [hA65]; exact hr65); rw [← hy65, ← hA65, ← hc65] at hcut65; have HR130 := AM hr65; have HC130 := AM (show y127.length ≤ c65 from by rw [hy65, hc65]; exact Nat.sub_le_sub_right hroom65 _); clear hr65 hC65 hroom65 hi065 hsz65 hc65; have KY65 := AM hy65; have KA65 := AM hA65; clear hy65 hA65; replace q65 := eq_true q65) | ((with_reducible refine gate_builtin (b := .append) (xs := #[.tmp 63, .tmp 67]) rfl ?_); at_builtin; refine Kd.R_append_rows k55 (w0 := w) w.heap.size rfl (.tmp 63) (.tmp 67) 27 55 (.agg #[(.string ⟨#[]⟩), (.int .i64 0)]) 24 rfl Try.underlying27 info55 rfl (by decide) (by omega) v125 y124 y127 _ _ _ (fun k_ => some k_ ≠ (.slice Ao25 t109.length co25 : Value).ownBlock) (fun _ => False) rfl rfl ?aO ?aR (fun _ _ h => h) (fun _ h => h.elim) ?aF ?aB ?aS ?aL ?_; (case aR => repeat (first | exact (cB HR130.out HB.out) | (with_reducible first | apply cA | apply cN | apply cD))); (case aB => exact (bX HB.out)); (case aF => exact (fun k_ hk => Kd.fresh' (Kd.R_lt (rX HO_113003.out)) k_ hk)); (case aO => exact (rX HO126.out)); (case aS => exact (bZ (bX HB.out))); (case aL => have := LMc53.out; omega); intro v132 w66 ho hb hg hat; rw [← Ny131.out] at ho; have _ := AM (Kd.R_over' (rX HO_113002.out) (Kd.R_typed (rX HO126.out)) (by decide) hg); have _ := AM (Kd.R_after (ok := (fun _ => True)) (rX HO_113003.out) hg hat); have _ := AM (blk_grown (g := gb101) (o := .cells #[.string a0_0, .int .i64 a0_1, .slice A0_2 l0_2.length c0_2, .slice A0_3 l0_3.length c0_3] 29 (0, 0)) (kX BK101.out) hg (Kd.R_ne HO126.out BK101.out (by decide))); have _ := AM (blk_grown (g := gb102) (o := .cells #[.string (⟨#[]⟩ : ByteArray), .int .i64 0, .slice none 0 0, .slice none 0 0] 29 (0, 0)) (kX BK102.out) hg (Kd.R_ne HO126.out BK102.out (by decide))); have _ := AM (blk_grown (g := gb112) (o := .cells #[.string t104, .int .i64 t105, .slice Ao24 t106.length co24, .slice Ao25 t109.length co25] 29 (0, 0)) (kX BK112.out) hg (Kd.R_ne HO126.out BK112.out (by decide))); have _ := AM (hb); have _ := AM (ho); clear HO_113002 HO_113003 BK101 BK102 BK112 HB HO126; rename_i HO_113002 HO_113003 BK101 BK102 BK112 HB HO133; clear ho hb hg hat; obtain ⟨Ao67, co67, eo67⟩ := Kd.R_slice HO133.out; subst eo67; have hnb68 := NB112_102.out; have hnc68 := NB102_112.out; have hcz69 := q4 BK112.out; have hfz69 := fZ BK112.out; have hcz70 := q4 BK102.out; have hfz70 := fZ BK102.out))
          refine bodyPost_ret (results_ct rfl _ _ gb102 29 #[.string t104, .int .i64 t105, .slice Ao24 t106.length co24, .slice Ao67 y131.length co67] (0, 0) _ rfl (by refine kP (cs := #[.string t104, .int .i64 t105, .slice Ao24 t106.length co24, .slice none 0 0]) 3 ?_; refine kP (cs := #[.string t104, .int .i64 t105, .slice none 0 0, .slice none 0 0]) 2 ?_; refine kP (cs := #[.string t104, .int .i64 0, .slice none 0 0, .slice none 0 0]) 1 ?_; refine kP (cs := #[.string (⟨#[]⟩ : ByteArray), .int .i64 0, .slice none 0 0, .slice none 0 0]) 0 ?_; refine kF NB102_112.out ?_; (with_reducible repeat (first | apply kN | apply kD | apply kA)); exact BK102.out) Try.underlying29 rfl (by kernel_rfl)) rfl ?_
          exact ⟨_, _, by first | rfl | (simp [*, errW_none, errW_some] <;> rfl), by (with_reducible repeat (first | apply rA | apply rN | apply rD)); exact Kd.R_mono (Kd.R_far (p := ⟨gb102, 3, none⟩) (Kd.R_far (p := ⟨gb102, 2, none⟩) (Kd.R_far (p := ⟨gb102, 1, none⟩) (Kd.R_far (p := ⟨gb102, 0, none⟩) (Kd.R_far (p := ⟨gb112, 3, none⟩) (Kd.R_types (Kd.R_types HO_113002.out BK112.out (by decide)) BK102.out (by decide)) (fun _ hk => hk.1.2) (.slice Ao67 y131.length co67)) (fun _ hk => hk.2) (.string t104)) (fun _ hk => hk.2) (.int .i64 t105)) (fun _ hk => hk.2) (.slice Ao24 t106.length co24)) (fun _ hk => hk.2) (.slice Ao67 y131.length co67)) (fun _ hk => trivial), by (with_reducible repeat (first | apply rA | apply rN | apply rD)); exact Kd.R_mono (Kd.R_far (p := ⟨gb102, 3, none⟩) (Kd.R_far (p := ⟨gb102, 2, none⟩) (Kd.R_far (p := ⟨gb102, 1, none⟩) (Kd.R_far (p := ⟨gb102, 0, none⟩) (Kd.R_far (p := ⟨gb112, 3, none⟩) (Kd.R_types (Kd.R_types HO133.out BK112.out (by decide)) BK102.out (by decide)) (fun _ hk => hk.1.2) (.slice Ao67 y131.length co67)) (fun _ hk => hk.2) (.string t104)) (fun _ hk => hk.2) (.int .i64 t105)) (fun _ hk => hk.2) (.slice Ao24 t106.length co24)) (fun _ hk => hk.2) (.slice Ao67 y131.length co67)) (fun _ hk => trivial), bX HB.out⟩
         rw [if_neg c53] at H
         exact absurd H (by simp)
        rw [if_neg c50] at H
        exact absurd H (by simp)
       rw [if_neg c49] at H
       exact absurd H (by simp)
      rw [if_neg c48] at H
      exact absurd H (by simp)
     rw [if_neg c47] at H
     exact absurd H (by simp)

/-! ### spec_l07Begin: function 32 (by hand) -/
/-- The start of a change of a topic: where the code is not OK, nothing is said of what is handed back. -/
def spec_l07Begin.f (k : Nat) (a0_0 : ByteArray) (a0_1 : Int) (l0_2 : List ByteArray) (l0_3 : List (S55)) (a1 : ByteArray) (a2 : Bool) : Option (ByteArray × Int × List ByteArray × (List (S55)) × Int × Int) :=
  if (a1.size : Int) > 20000 then some (a0_0, a0_1, l0_2, l0_3, 0, 2) else (spec_TopicRight.f k a0_0 a0_1 l0_2 l0_3).bind fun t => if t = true then (spec_NameRight.f k a1).bind fun n => if n = true then (if a2 = true then (spec_l07Group.f k a0_0 a0_1 l0_2 l0_3 a1).bind fun g => if g.2.2.2.2 < 0 then some (a0_0, a0_1, l0_2, l0_3, 0, 9) else some (g.1, g.2.1, g.2.2.1, g.2.2.2.1, g.2.2.2.2, 0) else some (a0_0, a0_1, l0_2, l0_3, 0, 1)) else some (a0_0, a0_1, l0_2, l0_3, 0, 1) else some (a0_0, a0_1, l0_2, l0_3, 0, 1)
theorem spec_l07Begin.mono : ∀ a0 a1 a2 a3 a4 a5 k, LeO (spec_l07Begin.f k a0 a1 a2 a3 a4 a5) (spec_l07Begin.f (k + 1) a0 a1 a2 a3 a4 a5) := by
  intro a0 a1 a2 a3 a4 a5 k
  unfold spec_l07Begin.f
  repeat' first
      | (with_reducible exact spec_TopicRight.mono _ _ _ _ _)
      | (with_reducible exact spec_NameRight.mono _ _)
      | (with_reducible exact spec_l07Group.mono _ _ _ _ _ _)
      | (with_reducible exact LeO.refl _)
      | (with_reducible refine LeO.ite ?_ ?_)
      | (with_reducible refine LeO.bind ?_ (fun _ => ?_))
set_option maxHeartbeats 4000000 in
set_option maxRecDepth 100000 in
theorem spec_l07Begin.calls (k : Nat) (a0_0 : ByteArray) (a0_1 : Int) (A0_2 : Option Addr) (c0_2 : Nat) (l0_2 : List ByteArray) (A0_3 : Option Addr) (c0_3 : Nat) (l0_3 : List (S55)) (a1 : ByteArray) (a2 : Bool) (r1 : ByteArray) (r2 : Int) (r3 : List ByteArray) (r4 : List (S55)) (r5 : Int) (r6 : Int) (w : World) (hr0_2 : Kd.C Kd.string w A0_2 l0_2.length l0_2) (hc0_2 : l0_2.length ≤ c0_2) (hr0_3 : Kd.C k55 w A0_3 l0_3.length l0_3) (hc0_3 : l0_3.length ≤ c0_3) (h : spec_l07Begin.f k a0_0 a0_1 l0_2 l0_3 a1 a2 = some (r1, r2, r3, r4, r5, r6)) :
    Calls Try.prog 32 #[.agg #[.string a0_0, .int .i64 a0_1, .slice A0_2 l0_2.length c0_2, .slice A0_3 l0_3.length c0_3], .string a1, .bool a2] w fun e w' => ∃ (B2 : Option Addr) (d2 : Nat) (B3 : Option Addr) (d3 : Nat), e = .returned (.tuple #[.agg #[.string r1, .int .i64 r2, .slice B2 r3.length d2, .slice B3 r4.length d3], .int .i64 r5, .int .i64 r6]) ∧ (r6 = 0 → Kd.R Kd.string 9 w' w.heap.size (fun _ => True) (.slice B2 r3.length d2) r3 ∧ Kd.R k55 55 w' w.heap.size (fun _ => True) (.slice B3 r4.length d3) r4) ∧ Below w.heap.size w w' := by
  have hu30 := Try.underlying29
  have HR0_2 := AM hr0_2
  have HC0_2 := AM hc0_2
  have HR0_3 := AM hr0_3
  have HC0_3 := AM hc0_3
  have HH := AM h
  clear hr0_2 hc0_2 hr0_3 hc0_3 h
  have HB := AM (Below.refl w.heap.size w)
  by_cases c1 : (a1.size : Int) > 20000
  · have E1 : Aside0 ((a0_0, a0_1, l0_2, l0_3, 0, 2) = (r1, r2, r3, r4, r5, r6)) := ⟨by have := HH.out; unfold spec_l07Begin.f at this; rw [if_pos c1] at this; exact Option.some.inj this⟩
    have c1b : decide (20000 < (a1.size : Int)) = true := decide_eq_true c1
    have c1c : decide (20000 < a1.size) = true := decide_eq_true (by omega)
    clear c1 HH
    go_enter Try.func32, Try.ntmps32
    go_wp2_with (first | ((with_reducible refine gate_dst (N := 3) rfl ?_); refine box_event (by rfl) (N := 3) (by rfl) (cs := #[.string a0_0, .int .i64 a0_1, .slice A0_2 l0_2.length c0_2, .slice A0_3 l0_3.length c0_3]) (t := 29) (by first | (go_simp; done) | (go_simp; rfl)) ?_; intro g3 hg wb1 hbox hb; have GEg3 := AM ((by rw [hg]; exact (bZ (bX HB.out))) : w.heap.size ≤ g3); have _ := AM (below_step (bX HB.out) hb); clear HB; rename_i HB; clear hb; have BKg3 := AM hbox; clear hbox hg; have hczg3_2 := q4 BKg3.out; have hfzg3_2 := fZ BKg3.out) | ((with_reducible refine gate_dst (N := 6) rfl ?_); refine box_event (by rfl) (N := 6) (by rfl) (cs := #[.string (⟨#[]⟩ : ByteArray), .int .i64 0, .slice none 0 0, .slice none 0 0]) (t := 29) (by first | (go_simp; done) | (go_simp; rfl)) ?_; intro g6 hg wb3 hbox hb; have NBg3g6 := AM (lX hg BKg3.out); have NBg6g3 := AM (Ne.symm NBg3g6.out); have hnbg3g6 := NBg3g6.out; have hncg3g6 := NBg6g3.out; have GEg6 := AM ((by rw [hg]; exact (bZ (bX HB.out))) : w.heap.size ≤ g6); have _ := AM (nB BKg3.out hb); have _ := AM (below_step (bX HB.out) hb); clear BKg3 HB; rename_i BKg3 HB; clear hb; have BKg6 := AM hbox; clear hbox hg; have hczg3_4 := q4 BKg3.out; have hfzg3_4 := fZ BKg3.out; have hczg6_5 := q4 BKg6.out; have hfzg6_5 := fZ BKg6.out))
    refine bodyPost_ret (results_ctt rfl _ _ g6 29 #[.string a0_0, .int .i64 a0_1, .slice A0_2 l0_2.length c0_2, .slice A0_3 l0_3.length c0_3] (0, 0) _ rfl (by refine kP (cs := #[.string a0_0, .int .i64 a0_1, .slice A0_2 l0_2.length c0_2, .slice none 0 0]) 3 ?_; refine kP (cs := #[.string a0_0, .int .i64 a0_1, .slice none 0 0, .slice none 0 0]) 2 ?_; refine kP (cs := #[.string a0_0, .int .i64 0, .slice none 0 0, .slice none 0 0]) 1 ?_; refine kP (cs := #[.string (⟨#[]⟩ : ByteArray), .int .i64 0, .slice none 0 0, .slice none 0 0]) 0 ?_; (with_reducible repeat (first | apply kN | apply kD | apply kA)); exact BKg6.out) Try.underlying29 rfl (by kernel_rfl)) rfl ?_
    obtain ⟨rfl, rfl, rfl, rfl, rfl, rfl⟩ : a0_0 = r1 ∧ a0_1 = r2 ∧ l0_2 = r3 ∧ l0_3 = r4 ∧ 0 = r5 ∧ 2 = r6 := by simpa using E1.out
    exact ⟨_, _, _, _, rfl, fun h0_ => absurd h0_ (by decide), (bX HB.out)⟩
  · have HX : ∃ t, spec_TopicRight.f k a0_0 a0_1 l0_2 l0_3 = some t ∧ (if t = true then (spec_NameRight.f k a1).bind fun n => if n = true then (if a2 = true then (spec_l07Group.f k a0_0 a0_1 l0_2 l0_3 a1).bind fun g => if g.2.2.2.2 < 0 then some (a0_0, a0_1, l0_2, l0_3, 0, 9) else some (g.1, g.2.1, g.2.2.1, g.2.2.2.1, g.2.2.2.2, 0) else some (a0_0, a0_1, l0_2, l0_3, 0, 1)) else some (a0_0, a0_1, l0_2, l0_3, 0, 1) else some (a0_0, a0_1, l0_2, l0_3, 0, 1)) = some (r1, r2, r3, r4, r5, r6) := by have := HH.out; unfold spec_l07Begin.f at this; rw [if_neg c1] at this; exact Option.bind_eq_some_iff.mp this
    clear HH
    have c1b : decide (20000 < (a1.size : Int)) = false := decide_eq_false c1
    have c1c : decide (20000 < a1.size) = false := decide_eq_false (by omega)
    clear c1
    obtain ⟨t, h1, h2⟩ := HX
    have A1 := AM h1
    clear h1
    cases t with
    | false =>
      have E1 : Aside0 ((a0_0, a0_1, l0_2, l0_3, 0, 1) = (r1, r2, r3, r4, r5, r6)) := ⟨by rw [if_neg (by decide)] at h2; exact Option.some.inj h2⟩
      clear h2
      go_enter Try.func32, Try.ntmps32
      go_wp2_with (first | ((with_reducible refine gate_dst (N := 3) rfl ?_); refine box_event (by rfl) (N := 3) (by rfl) (cs := #[.string a0_0, .int .i64 a0_1, .slice A0_2 l0_2.length c0_2, .slice A0_3 l0_3.length c0_3]) (t := 29) (by first | (go_simp; done) | (go_simp; rfl)) ?_; intro g3 hg wb1 hbox hb; have GEg3 := AM ((by rw [hg]; exact (bZ (bX HB.out))) : w.heap.size ≤ g3); have _ := AM (below_step (bX HB.out) hb); clear HB; rename_i HB; clear hb; have BKg3 := AM hbox; clear hbox hg; have hczg3_2 := q4 BKg3.out; have hfzg3_2 := fZ BKg3.out) | ((with_reducible refine gate_dst (N := 6) rfl ?_); refine box_event (by rfl) (N := 6) (by rfl) (cs := #[.string (⟨#[]⟩ : ByteArray), .int .i64 0, .slice none 0 0, .slice none 0 0]) (t := 29) (by first | (go_simp; done) | (go_simp; rfl)) ?_; intro g6 hg wb3 hbox hb; have NBg3g6 := AM (lX hg BKg3.out); have NBg6g3 := AM (Ne.symm NBg3g6.out); have hnbg3g6 := NBg3g6.out; have hncg3g6 := NBg6g3.out; have GEg6 := AM ((by rw [hg]; exact (bZ (bX HB.out))) : w.heap.size ≤ g6); have _ := AM (nB BKg3.out hb); have _ := AM (below_step (bX HB.out) hb); clear BKg3 HB; rename_i BKg3 HB; clear hb; have BKg6 := AM hbox; clear hbox hg; have hczg3_4 := q4 BKg3.out; have hfzg3_4 := fZ BKg3.out; have hczg6_5 := q4 BKg6.out; have hfzg6_5 := fZ BKg6.out) | (go_at_call 59; (with_reducible refine (spec_TopicRight.calls k a0_0 a0_1 A0_2 c0_2 l0_2 A0_3 c0_3 l0_3 false _ ?side1 ?side2 ?side3 ?side4 A1.out).mono ?_); (case side1 => repeat (first | exact (cB HR0_2.out HB.out) | (with_reducible first | apply cA | apply cN | apply cD))); (case side2 => exact HC0_2.out); (case side3 => repeat (first | exact (cB HR0_3.out HB.out) | (with_reducible first | apply cA | apply cN | apply cD))); (case side4 => exact HC0_3.out); rintro e wc6 ⟨rfl, hb⟩; have _ := AM (nB BKg3.out hb); have _ := AM (nB BKg6.out hb); have _ := AM (below_step (bX HB.out) hb); clear BKg3 BKg6 HB; rename_i BKg3 BKg6 HB; clear hb; have hczg3_7 := q4 BKg3.out; have hfzg3_7 := fZ BKg3.out; have hczg6_8 := q4 BKg6.out; have hfzg6_8 := fZ BKg6.out))
      refine bodyPost_ret (results_ctt rfl _ _ g6 29 #[.string a0_0, .int .i64 a0_1, .slice A0_2 l0_2.length c0_2, .slice A0_3 l0_3.length c0_3] (0, 0) _ rfl (by refine kP (cs := #[.string a0_0, .int .i64 a0_1, .slice A0_2 l0_2.length c0_2, .slice none 0 0]) 3 ?_; refine kP (cs := #[.string a0_0, .int .i64 a0_1, .slice none 0 0, .slice none 0 0]) 2 ?_; refine kP (cs := #[.string a0_0, .int .i64 0, .slice none 0 0, .slice none 0 0]) 1 ?_; refine kP (cs := #[.string (⟨#[]⟩ : ByteArray), .int .i64 0, .slice none 0 0, .slice none 0 0]) 0 ?_; (with_reducible repeat (first | apply kN | apply kD | apply kA)); exact BKg6.out) Try.underlying29 rfl (by kernel_rfl)) rfl ?_
      obtain ⟨rfl, rfl, rfl, rfl, rfl, rfl⟩ : a0_0 = r1 ∧ a0_1 = r2 ∧ l0_2 = r3 ∧ l0_3 = r4 ∧ 0 = r5 ∧ 1 = r6 := by simpa using E1.out
      exact ⟨_, _, _, _, rfl, fun h0_ => absurd h0_ (by decide), (bX HB.out)⟩
    | true =>
      rw [if_pos rfl] at h2
      obtain ⟨n, h1, h2⟩ := Option.bind_eq_some_iff.mp h2
      have A2 := AM h1
      clear h1
      cases n with
      | false =>
        have E1 : Aside0 ((a0_0, a0_1, l0_2, l0_3, 0, 1) = (r1, r2, r3, r4, r5, r6)) := ⟨by rw [if_neg (by decide)] at h2; exact Option.some.inj h2⟩
        clear h2
        go_enter Try.func32, Try.ntmps32
        go_wp2_with (first | ((with_reducible refine gate_dst (N := 3) rfl ?_); refine box_event (by rfl) (N := 3) (by rfl) (cs := #[.string a0_0, .int .i64 a0_1, .slice A0_2 l0_2.length c0_2, .slice A0_3 l0_3.length c0_3]) (t := 29) (by first | (go_simp; done) | (go_simp; rfl)) ?_; intro g3 hg wb1 hbox hb; have GEg3 := AM ((by rw [hg]; exact (bZ (bX HB.out))) : w.heap.size ≤ g3); have _ := AM (below_step (bX HB.out) hb); clear HB; rename_i HB; clear hb; have BKg3 := AM hbox; clear hbox hg; have hczg3_2 := q4 BKg3.out; have hfzg3_2 := fZ BKg3.out) | ((with_reducible refine gate_dst (N := 6) rfl ?_); refine box_event (by rfl) (N := 6) (by rfl) (cs := #[.string (⟨#[]⟩ : ByteArray), .int .i64 0, .slice none 0 0, .slice none 0 0]) (t := 29) (by first | (go_simp; done) | (go_simp; rfl)) ?_; intro g6 hg wb3 hbox hb; have NBg3g6 := AM (lX hg BKg3.out); have NBg6g3 := AM (Ne.symm NBg3g6.out); have hnbg3g6 := NBg3g6.out; have hncg3g6 := NBg6g3.out; have GEg6 := AM ((by rw [hg]; exact (bZ (bX HB.out))) : w.heap.size ≤ g6); have _ := AM (nB BKg3.out hb); have _ := AM (below_step (bX HB.out) hb); clear BKg3 HB; rename_i BKg3 HB; clear hb; have BKg6 := AM hbox; clear hbox hg; have hczg3_4 := q4 BKg3.out; have hfzg3_4 := fZ BKg3.out; have hczg6_5 := q4 BKg6.out; have hfzg6_5 := fZ BKg6.out) | (go_at_call 59; (with_reducible refine (spec_TopicRight.calls k a0_0 a0_1 A0_2 c0_2 l0_2 A0_3 c0_3 l0_3 true _ ?side1 ?side2 ?side3 ?side4 A1.out).mono ?_); (case side1 => repeat (first | exact (cB HR0_2.out HB.out) | (with_reducible first | apply cA | apply cN | apply cD))); (case side2 => exact HC0_2.out); (case side3 => repeat (first | exact (cB HR0_3.out HB.out) | (with_reducible first | apply cA | apply cN | apply cD))); (case side4 => exact HC0_3.out); rintro e wc6 ⟨rfl, hb⟩; have _ := AM (nB BKg3.out hb); have _ := AM (nB BKg6.out hb); have _ := AM (below_step (bX HB.out) hb); clear BKg3 BKg6 HB; rename_i BKg3 BKg6 HB; clear hb; have hczg3_7 := q4 BKg3.out; have hfzg3_7 := fZ BKg3.out; have hczg6_8 := q4 BKg6.out; have hfzg6_8 := fZ BKg6.out) | (go_at_call 63; (with_reducible refine (spec_NameRight.calls k a1 false _ A2.out).mono ?_); rintro e w' ⟨rfl, ⟨nd, rfl⟩⟩))
        refine bodyPost_ret (results_ctt rfl _ _ g6 29 #[.string a0_0, .int .i64 a0_1, .slice A0_2 l0_2.length c0_2, .slice A0_3 l0_3.length c0_3] (0, 0) _ rfl (by refine kP (cs := #[.string a0_0, .int .i64 a0_1, .slice A0_2 l0_2.length c0_2, .slice none 0 0]) 3 ?_; refine kP (cs := #[.string a0_0, .int .i64 a0_1, .slice none 0 0, .slice none 0 0]) 2 ?_; refine kP (cs := #[.string a0_0, .int .i64 0, .slice none 0 0, .slice none 0 0]) 1 ?_; refine kP (cs := #[.string (⟨#[]⟩ : ByteArray), .int .i64 0, .slice none 0 0, .slice none 0 0]) 0 ?_; (with_reducible repeat (first | apply kN | apply kD | apply kA)); exact BKg6.out) Try.underlying29 rfl (by kernel_rfl)) rfl ?_
        obtain ⟨rfl, rfl, rfl, rfl, rfl, rfl⟩ : a0_0 = r1 ∧ a0_1 = r2 ∧ l0_2 = r3 ∧ l0_3 = r4 ∧ 0 = r5 ∧ 1 = r6 := by simpa using E1.out
        exact ⟨_, _, _, _, rfl, fun h0_ => absurd h0_ (by decide), (bX HB.out)⟩
      | true =>
        rw [if_pos rfl] at h2
        cases a2 with
        | false =>
          have E1 : Aside0 ((a0_0, a0_1, l0_2, l0_3, 0, 1) = (r1, r2, r3, r4, r5, r6)) := ⟨by rw [if_neg (by decide)] at h2; exact Option.some.inj h2⟩
          clear h2
          go_enter Try.func32, Try.ntmps32
          go_wp2_with (first | ((with_reducible refine gate_dst (N := 3) rfl ?_); refine box_event (by rfl) (N := 3) (by rfl) (cs := #[.string a0_0, .int .i64 a0_1, .slice A0_2 l0_2.length c0_2, .slice A0_3 l0_3.length c0_3]) (t := 29) (by first | (go_simp; done) | (go_simp; rfl)) ?_; intro g3 hg wb1 hbox hb; have GEg3 := AM ((by rw [hg]; exact (bZ (bX HB.out))) : w.heap.size ≤ g3); have _ := AM (below_step (bX HB.out) hb); clear HB; rename_i HB; clear hb; have BKg3 := AM hbox; clear hbox hg; have hczg3_2 := q4 BKg3.out; have hfzg3_2 := fZ BKg3.out) | ((with_reducible refine gate_dst (N := 6) rfl ?_); refine box_event (by rfl) (N := 6) (by rfl) (cs := #[.string (⟨#[]⟩ : ByteArray), .int .i64 0, .slice none 0 0, .slice none 0 0]) (t := 29) (by first | (go_simp; done) | (go_simp; rfl)) ?_; intro g6 hg wb3 hbox hb; have NBg3g6 := AM (lX hg BKg3.out); have NBg6g3 := AM (Ne.symm NBg3g6.out); have hnbg3g6 := NBg3g6.out; have hncg3g6 := NBg6g3.out; have GEg6 := AM ((by rw [hg]; exact (bZ (bX HB.out))) : w.heap.size ≤ g6); have _ := AM (nB BKg3.out hb); have _ := AM (below_step (bX HB.out) hb); clear BKg3 HB; rename_i BKg3 HB; clear hb; have BKg6 := AM hbox; clear hbox hg; have hczg3_4 := q4 BKg3.out; have hfzg3_4 := fZ BKg3.out; have hczg6_5 := q4 BKg6.out; have hfzg6_5 := fZ BKg6.out) | (go_at_call 59; (with_reducible refine (spec_TopicRight.calls k a0_0 a0_1 A0_2 c0_2 l0_2 A0_3 c0_3 l0_3 true _ ?side1 ?side2 ?side3 ?side4 A1.out).mono ?_); (case side1 => repeat (first | exact (cB HR0_2.out HB.out) | (with_reducible first | apply cA | apply cN | apply cD))); (case side2 => exact HC0_2.out); (case side3 => repeat (first | exact (cB HR0_3.out HB.out) | (with_reducible first | apply cA | apply cN | apply cD))); (case side4 => exact HC0_3.out); rintro e wc6 ⟨rfl, hb⟩; have _ := AM (nB BKg3.out hb); have _ := AM (nB BKg6.out hb); have _ := AM (below_step (bX HB.out) hb); clear BKg3 BKg6 HB; rename_i BKg3 BKg6 HB; clear hb; have hczg3_7 := q4 BKg3.out; have hfzg3_7 := fZ BKg3.out; have hczg6_8 := q4 BKg6.out; have hfzg6_8 := fZ BKg6.out) | (go_at_call 63; (with_reducible refine (spec_NameRight.calls k a1 true _ A2.out).mono ?_); rintro e w' ⟨rfl, ⟨nd, rfl⟩⟩))
          refine bodyPost_ret (results_ctt rfl _ _ g6 29 #[.string a0_0, .int .i64 a0_1, .slice A0_2 l0_2.length c0_2, .slice A0_3 l0_3.length c0_3] (0, 0) _ rfl (by refine kP (cs := #[.string a0_0, .int .i64 a0_1, .slice A0_2 l0_2.length c0_2, .slice none 0 0]) 3 ?_; refine kP (cs := #[.string a0_0, .int .i64 a0_1, .slice none 0 0, .slice none 0 0]) 2 ?_; refine kP (cs := #[.string a0_0, .int .i64 0, .slice none 0 0, .slice none 0 0]) 1 ?_; refine kP (cs := #[.string (⟨#[]⟩ : ByteArray), .int .i64 0, .slice none 0 0, .slice none 0 0]) 0 ?_; (with_reducible repeat (first | apply kN | apply kD | apply kA)); exact BKg6.out) Try.underlying29 rfl (by kernel_rfl)) rfl ?_
          obtain ⟨rfl, rfl, rfl, rfl, rfl, rfl⟩ : a0_0 = r1 ∧ a0_1 = r2 ∧ l0_2 = r3 ∧ l0_3 = r4 ∧ 0 = r5 ∧ 1 = r6 := by simpa using E1.out
          exact ⟨_, _, _, _, rfl, fun h0_ => absurd h0_ (by decide), (bX HB.out)⟩
        | true =>
          rw [if_pos rfl] at h2
          obtain ⟨⟨t1, t2, t3, t4, t5⟩, h1, h2⟩ := Option.bind_eq_some_iff.mp h2
          have A3 := AM h1
          clear h1
          by_cases c5 : t5 < 0
          · have E1 : Aside0 ((a0_0, a0_1, l0_2, l0_3, 0, 9) = (r1, r2, r3, r4, r5, r6)) := ⟨by have h3 := h2; rw [if_pos c5] at h3; exact Option.some.inj h3⟩
            have c5b : decide (t5 < 0) = true := decide_eq_true c5
            clear h2 c5
            go_enter Try.func32, Try.ntmps32
            go_wp2_with (first | ((with_reducible refine gate_dst (N := 3) rfl ?_); refine box_event (by rfl) (N := 3) (by rfl) (cs := #[.string a0_0, .int .i64 a0_1, .slice A0_2 l0_2.length c0_2, .slice A0_3 l0_3.length c0_3]) (t := 29) (by first | (go_simp; done) | (go_simp; rfl)) ?_; intro g3 hg wb1 hbox hb; have GEg3 := AM ((by rw [hg]; exact (bZ (bX HB.out))) : w.heap.size ≤ g3); have _ := AM (below_step (bX HB.out) hb); clear HB; rename_i HB; clear hb; have BKg3 := AM hbox; clear hbox hg; have hczg3_2 := q4 BKg3.out; have hfzg3_2 := fZ BKg3.out) | ((with_reducible refine gate_dst (N := 6) rfl ?_); refine box_event (by rfl) (N := 6) (by rfl) (cs := #[.string (⟨#[]⟩ : ByteArray), .int .i64 0, .slice none 0 0, .slice none 0 0]) (t := 29) (by first | (go_simp; done) | (go_simp; rfl)) ?_; intro g6 hg wb3 hbox hb; have NBg3g6 := AM (lX hg BKg3.out); have NBg6g3 := AM (Ne.symm NBg3g6.out); have hnbg3g6 := NBg3g6.out; have hncg3g6 := NBg6g3.out; have GEg6 := AM ((by rw [hg]; exact (bZ (bX HB.out))) : w.heap.size ≤ g6); have _ := AM (nB BKg3.out hb); have _ := AM (below_step (bX HB.out) hb); clear BKg3 HB; rename_i BKg3 HB; clear hb; have BKg6 := AM hbox; clear hbox hg; have hczg3_4 := q4 BKg3.out; have hfzg3_4 := fZ BKg3.out; have hczg6_5 := q4 BKg6.out; have hfzg6_5 := fZ BKg6.out) | (go_at_call 59; (with_reducible refine (spec_TopicRight.calls k a0_0 a0_1 A0_2 c0_2 l0_2 A0_3 c0_3 l0_3 true _ ?side1 ?side2 ?side3 ?side4 A1.out).mono ?_); (case side1 => repeat (first | exact (cB HR0_2.out HB.out) | (with_reducible first | apply cA | apply cN | apply cD))); (case side2 => exact HC0_2.out); (case side3 => repeat (first | exact (cB HR0_3.out HB.out) | (with_reducible first | apply cA | apply cN | apply cD))); (case side4 => exact HC0_3.out); rintro e wc6 ⟨rfl, hb⟩; have _ := AM (nB BKg3.out hb); have _ := AM (nB BKg6.out hb); have _ := AM (below_step (bX HB.out) hb); clear BKg3 BKg6 HB; rename_i BKg3 BKg6 HB; clear hb; have hczg3_7 := q4 BKg3.out; have hfzg3_7 := fZ BKg3.out; have hczg6_8 := q4 BKg6.out; have hfzg6_8 := fZ BKg6.out) | (go_at_call 63; (with_reducible refine (spec_NameRight.calls k a1 true _ A2.out).mono ?_); rintro e w' ⟨rfl, ⟨nd, rfl⟩⟩) | (go_at_call 64; (with_reducible refine (spec_l07Group.calls k a0_0 a0_1 A0_2 c0_2 l0_2 A0_3 c0_3 l0_3 a1 t1 t2 t3 t4 t5 _ ?side1 ?side2 ?side3 ?side4 A3.out).mono ?_); (case side1 => repeat (first | exact (cB HR0_2.out HB.out) | (with_reducible first | apply cA | apply cN | apply cD))); (case side2 => exact HC0_2.out); (case side3 => repeat (first | exact (cB HR0_3.out HB.out) | (with_reducible first | apply cA | apply cN | apply cD))); (case side4 => exact HC0_3.out); rintro e wc10 ⟨v8, v9, rfl, ho2, ho3, hb⟩; obtain ⟨A8, c8, rfl⟩ := Kd.R_slice ho2; obtain ⟨A9, c9, rfl⟩ := Kd.R_slice ho3; have HO2 := AM (Kd.R_lower ho2 (bZ (bX HB.out))); have HO3 := AM (Kd.R_lower ho3 (bZ (bX HB.out))); clear ho2 ho3; have _ := AM (nB BKg3.out hb); have _ := AM (nB BKg6.out hb); have _ := AM (below_step (bX HB.out) hb); clear BKg3 BKg6 HB; rename_i BKg3 BKg6 HB; clear hb; have hczg3_11 := q4 BKg3.out; have hfzg3_11 := fZ BKg3.out; have hczg6_12 := q4 BKg6.out; have hfzg6_12 := fZ BKg6.out) | ((with_reducible refine gate_dst (N := 9) rfl ?_); refine box_event (by rfl) (N := 9) (by rfl) (cs := #[.string (⟨#[]⟩ : ByteArray), .int .i64 0, .slice none 0 0, .slice none 0 0]) (t := 29) (by first | (go_simp; done) | (go_simp; rfl)) ?_; intro g9 hg wb13 hbox hb; have NBg3g9 := AM (lX hg BKg3.out); have NBg9g3 := AM (Ne.symm NBg3g9.out); have hnbg3g9 := NBg3g9.out; have hncg3g9 := NBg9g3.out; have NBg6g9 := AM (lX hg BKg6.out); have NBg9g6 := AM (Ne.symm NBg6g9.out); have hnbg6g9 := NBg6g9.out; have hncg6g9 := NBg9g6.out; have GEg9 := AM ((by rw [hg]; exact (bZ (bX HB.out))) : w.heap.size ≤ g9); have _ := AM (nB BKg3.out hb); have _ := AM (nB BKg6.out hb); have _ := AM (Kd.R_below (rX HO2.out) hb); have _ := AM (Kd.R_below (rX HO3.out) hb); have _ := AM (below_step (bX HB.out) hb); clear BKg3 BKg6 HO2 HO3 HB; rename_i BKg3 BKg6 HO2 HO3 HB; clear hb; have BKg9 := AM hbox; clear hbox hg; have hczg3_14 := q4 BKg3.out; have hfzg3_14 := fZ BKg3.out; have hczg6_15 := q4 BKg6.out; have hfzg6_15 := fZ BKg6.out; have hczg9_16 := q4 BKg9.out; have hfzg9_16 := fZ BKg9.out))
            refine bodyPost_ret (results_ctt rfl _ _ g6 29 #[.string a0_0, .int .i64 a0_1, .slice A0_2 l0_2.length c0_2, .slice A0_3 l0_3.length c0_3] (0, 0) _ rfl (by refine kP (cs := #[.string a0_0, .int .i64 a0_1, .slice A0_2 l0_2.length c0_2, .slice none 0 0]) 3 ?_; refine kP (cs := #[.string a0_0, .int .i64 a0_1, .slice none 0 0, .slice none 0 0]) 2 ?_; refine kP (cs := #[.string a0_0, .int .i64 0, .slice none 0 0, .slice none 0 0]) 1 ?_; refine kP (cs := #[.string (⟨#[]⟩ : ByteArray), .int .i64 0, .slice none 0 0, .slice none 0 0]) 0 ?_; (with_reducible repeat (first | apply kN | apply kD | apply kA)); exact (blk_far (p := ⟨g9, 3, none⟩) (blk_far (p := ⟨g9, 2, none⟩) (blk_far (p := ⟨g9, 1, none⟩) (blk_far (p := ⟨g9, 0, none⟩) BKg6.out NBg6g9.out (.string t1)) NBg6g9.out (.int .i64 t2)) NBg6g9.out (.slice A8 t3.length c8)) NBg6g9.out (.slice A9 t4.length c9))) Try.underlying29 rfl (by kernel_rfl)) rfl ?_
            obtain ⟨rfl, rfl, rfl, rfl, rfl, rfl⟩ : a0_0 = r1 ∧ a0_1 = r2 ∧ l0_2 = r3 ∧ l0_3 = r4 ∧ 0 = r5 ∧ 9 = r6 := by simpa using E1.out
            exact ⟨_, _, _, _, rfl, fun h0_ => absurd h0_ (by decide), (bX HB.out)⟩
          · have E1 : Aside0 ((t1, t2, t3, t4, t5, 0) = (r1, r2, r3, r4, r5, r6)) := ⟨by have h3 := h2; rw [if_neg c5] at h3; exact Option.some.inj h3⟩
            have c5b : decide (t5 < 0) = false := decide_eq_false c5
            clear h2 c5
            go_enter Try.func32, Try.ntmps32
            go_wp2_with (first | ((with_reducible refine gate_dst (N := 3) rfl ?_); refine box_event (by rfl) (N := 3) (by rfl) (cs := #[.string a0_0, .int .i64 a0_1, .slice A0_2 l0_2.length c0_2, .slice A0_3 l0_3.length c0_3]) (t := 29) (by first | (go_simp; done) | (go_simp; rfl)) ?_; intro g3 hg wb1 hbox hb; have GEg3 := AM ((by rw [hg]; exact (bZ (bX HB.out))) : w.heap.size ≤ g3); have _ := AM (below_step (bX HB.out) hb); clear HB; rename_i HB; clear hb; have BKg3 := AM hbox; clear hbox hg; have hczg3_2 := q4 BKg3.out; have hfzg3_2 := fZ BKg3.out) | ((with_reducible refine gate_dst (N := 6) rfl ?_); refine box_event (by rfl) (N := 6) (by rfl) (cs := #[.string (⟨#[]⟩ : ByteArray), .int .i64 0, .slice none 0 0, .slice none 0 0]) (t := 29) (by first | (go_simp; done) | (go_simp; rfl)) ?_; intro g6 hg wb3 hbox hb; have NBg3g6 := AM (lX hg BKg3.out); have NBg6g3 := AM (Ne.symm NBg3g6.out); have hnbg3g6 := NBg3g6.out; have hncg3g6 := NBg6g3.out; have GEg6 := AM ((by rw [hg]; exact (bZ (bX HB.out))) : w.heap.size ≤ g6); have _ := AM (nB BKg3.out hb); have _ := AM (below_step (bX HB.out) hb); clear BKg3 HB; rename_i BKg3 HB; clear hb; have BKg6 := AM hbox; clear hbox hg; have hczg3_4 := q4 BKg3.out; have hfzg3_4 := fZ BKg3.out; have hczg6_5 := q4 BKg6.out; have hfzg6_5 := fZ BKg6.out) | (go_at_call 59; (with_reducible refine (spec_TopicRight.calls k a0_0 a0_1 A0_2 c0_2 l0_2 A0_3 c0_3 l0_3 true _ ?side1 ?side2 ?side3 ?side4 A1.out).mono ?_); (case side1 => repeat (first | exact (cB HR0_2.out HB.out) | (with_reducible first | apply cA | apply cN | apply cD))); (case side2 => exact HC0_2.out); (case side3 => repeat (first | exact (cB HR0_3.out HB.out) | (with_reducible first | apply cA | apply cN | apply cD))); (case side4 => exact HC0_3.out); rintro e wc6 ⟨rfl, hb⟩; have _ := AM (nB BKg3.out hb); have _ := AM (nB BKg6.out hb); have _ := AM (below_step (bX HB.out) hb); clear BKg3 BKg6 HB; rename_i BKg3 BKg6 HB; clear hb; have hczg3_7 := q4 BKg3.out; have hfzg3_7 := fZ BKg3.out; have hczg6_8 := q4 BKg6.out; have hfzg6_8 := fZ BKg6.out) | (go_at_call 63; (with_reducible refine (spec_NameRight.calls k a1 true _ A2.out).mono ?_); rintro e w' ⟨rfl, ⟨nd, rfl⟩⟩) | (go_at_call 64; (with_reducible refine (spec_l07Group.calls k a0_0 a0_1 A0_2 c0_2 l0_2 A0_3 c0_3 l0_3 a1 t1 t2 t3 t4 t5 _ ?side1 ?side2 ?side3 ?side4 A3.out).mono ?_); (case side1 => repeat (first | exact (cB HR0_2.out HB.out) | (with_reducible first | apply cA | apply cN | apply cD))); (case side2 => exact HC0_2.out); (case side3 => repeat (first | exact (cB HR0_3.out HB.out) | (with_reducible first | apply cA | apply cN | apply cD))); (case side4 => exact HC0_3.out); rintro e wc10 ⟨v8, v9, rfl, ho2, ho3, hb⟩; obtain ⟨A8, c8, rfl⟩ := Kd.R_slice ho2; obtain ⟨A9, c9, rfl⟩ := Kd.R_slice ho3; have HO2 := AM (Kd.R_lower ho2 (bZ (bX HB.out))); have HO3 := AM (Kd.R_lower ho3 (bZ (bX HB.out))); clear ho2 ho3; have _ := AM (nB BKg3.out hb); have _ := AM (nB BKg6.out hb); have _ := AM (below_step (bX HB.out) hb); clear BKg3 BKg6 HB; rename_i BKg3 BKg6 HB; clear hb; have hczg3_11 := q4 BKg3.out; have hfzg3_11 := fZ BKg3.out; have hczg6_12 := q4 BKg6.out; have hfzg6_12 := fZ BKg6.out) | ((with_reducible refine gate_dst (N := 9) rfl ?_); refine box_event (by rfl) (N := 9) (by rfl) (cs := #[.string (⟨#[]⟩ : ByteArray), .int .i64 0, .slice none 0 0, .slice none 0 0]) (t := 29) (by first | (go_simp; done) | (go_simp; rfl)) ?_; intro g9 hg wb13 hbox hb; have NBg3g9 := AM (lX hg BKg3.out); have NBg9g3 := AM (Ne.symm NBg3g9.out); have hnbg3g9 := NBg3g9.out; have hncg3g9 := NBg9g3.out; have NBg6g9 := AM (lX hg BKg6.out); have NBg9g6 := AM (Ne.symm NBg6g9.out); have hnbg6g9 := NBg6g9.out; have hncg6g9 := NBg9g6.out; have GEg9 := AM ((by rw [hg]; exact (bZ (bX HB.out))) : w.heap.size ≤ g9); have _ := AM (nB BKg3.out hb); have _ := AM (nB BKg6.out hb); have _ := AM (Kd.R_below (rX HO2.out) hb); have _ := AM (Kd.R_below (rX HO3.out) hb); have _ := AM (below_step (bX HB.out) hb); clear BKg3 BKg6 HO2 HO3 HB; rename_i BKg3 BKg6 HO2 HO3 HB; clear hb; have BKg9 := AM hbox; clear hbox hg; have hczg3_14 := q4 BKg3.out; have hfzg3_14 := fZ BKg3.out; have hczg6_15 := q4 BKg6.out; have hfzg6_15 := fZ BKg6.out; have hczg9_16 := q4 BKg9.out; have hfzg9_16 := fZ BKg9.out))
            refine bodyPost_ret (results_ctt rfl _ _ g6 29 #[.string t1, .int .i64 t2, .slice A8 t3.length c8, .slice A9 t4.length c9] (0, 0) _ rfl (by refine kP (cs := #[.string t1, .int .i64 t2, .slice A8 t3.length c8, .slice none 0 0]) 3 ?_; refine kP (cs := #[.string t1, .int .i64 t2, .slice none 0 0, .slice none 0 0]) 2 ?_; refine kP (cs := #[.string t1, .int .i64 0, .slice none 0 0, .slice none 0 0]) 1 ?_; refine kP (cs := #[.string (⟨#[]⟩ : ByteArray), .int .i64 0, .slice none 0 0, .slice none 0 0]) 0 ?_; (with_reducible repeat (first | apply kN | apply kD | apply kA)); exact (blk_far (p := ⟨g9, 3, none⟩) (blk_far (p := ⟨g9, 2, none⟩) (blk_far (p := ⟨g9, 1, none⟩) (blk_far (p := ⟨g9, 0, none⟩) BKg6.out NBg6g9.out (.string t1)) NBg6g9.out (.int .i64 t2)) NBg6g9.out (.slice A8 t3.length c8)) NBg6g9.out (.slice A9 t4.length c9))) Try.underlying29 rfl (by kernel_rfl)) rfl ?_
            obtain ⟨rfl, rfl, rfl, rfl, rfl, rfl⟩ : t1 = r1 ∧ t2 = r2 ∧ t3 = r3 ∧ t4 = r4 ∧ t5 = r5 ∧ 0 = r6 := by simpa using E1.out
            exact ⟨_, _, _, _, rfl, fun _ => ⟨by (with_reducible repeat (first | apply rA | apply rN | apply rD)); exact Kd.R_mono (Kd.R_far (p := ⟨g6, 3, none⟩) (Kd.R_far (p := ⟨g6, 2, none⟩) (Kd.R_far (p := ⟨g6, 1, none⟩) (Kd.R_far (p := ⟨g6, 0, none⟩) (Kd.R_far (p := ⟨g9, 3, none⟩) (Kd.R_far (p := ⟨g9, 2, none⟩) (Kd.R_far (p := ⟨g9, 1, none⟩) (Kd.R_far (p := ⟨g9, 0, none⟩) (Kd.R_types (Kd.R_types HO2.out BKg9.out (by decide)) BKg6.out (by decide)) (fun _ hk => hk.1.2) (.string t1)) (fun _ hk => hk.1.2) (.int .i64 t2)) (fun _ hk => hk.1.2) (.slice A8 t3.length c8)) (fun _ hk => hk.1.2) (.slice A9 t4.length c9)) (fun _ hk => hk.2) (.string t1)) (fun _ hk => hk.2) (.int .i64 t2)) (fun _ hk => hk.2) (.slice A8 t3.length c8)) (fun _ hk => hk.2) (.slice A9 t4.length c9)) (fun _ _ => trivial), by (with_reducible repeat (first | apply rA | apply rN | apply rD)); exact Kd.R_mono (Kd.R_far (p := ⟨g6, 3, none⟩) (Kd.R_far (p := ⟨g6, 2, none⟩) (Kd.R_far (p := ⟨g6, 1, none⟩) (Kd.R_far (p := ⟨g6, 0, none⟩) (Kd.R_far (p := ⟨g9, 3, none⟩) (Kd.R_far (p := ⟨g9, 2, none⟩) (Kd.R_far (p := ⟨g9, 1, none⟩) (Kd.R_far (p := ⟨g9, 0, none⟩) (Kd.R_types (Kd.R_types HO3.out BKg9.out (by decide)) BKg6.out (by decide)) (fun _ hk => hk.1.2) (.string t1)) (fun _ hk => hk.1.2) (.int .i64 t2)) (fun _ hk => hk.1.2) (.slice A8 t3.length c8)) (fun _ hk => hk.1.2) (.slice A9 t4.length c9)) (fun _ hk => hk.2) (.string t1)) (fun _ hk => hk.2) (.int .i64 t2)) (fun _ hk => hk.2) (.slice A8 t3.length c8)) (fun _ hk => hk.2) (.slice A9 t4.length c9)) (fun _ _ => trivial)⟩, (bX HB.out)⟩


/-! ### spec_l07Ill: function 34 -/

def spec_l07Ill.f (a0 : Int) : Option (ByteArray × Int × List ByteArray × (List (S55)) × List ByteArray × Int × Int) := some ((⟨#[]⟩ : ByteArray), 0, ([] : List ByteArray), ([] : List (S55)), ([] : List ByteArray), 0, a0)
set_option maxHeartbeats 60000000 in
set_option maxRecDepth 100000 in
theorem spec_l07Ill.calls (a0 : Int) (r1 : ByteArray) (r2 : Int) (r3 : List ByteArray) (r4 : List (S55)) (r5 : List ByteArray) (r6 : Int) (r7 : Int) (w : World) (h : spec_l07Ill.f a0 = some (r1, r2, r3, r4, r5, r6, r7)) :
    Calls Try.prog 34 #[.int .i64 a0] w fun e w' => ∃ v2_ v3_ v4_ : Value, e = .returned (.agg #[.string r1, .int .i64 r2, v2_, v3_, v4_, .int .i64 r6, .int .i64 r7]) ∧ Kd.R Kd.string 9 w' w.heap.size (fun k_ => some k_ ≠ (v4_ : Value).ownBlock) v2_ r3 ∧ Kd.R k55 55 w' w.heap.size (fun _ => True) v3_ r4 ∧ Kd.R Kd.string 9 w' w.heap.size (fun k_ => some k_ ≠ (v2_ : Value).ownBlock) v4_ r5 ∧ Below w.heap.size w w' := by
 have hu31 := Try.underlying31
 have HB := AM (Below.refl w.heap.size w)
 have H : (some ((⟨#[]⟩ : ByteArray), 0, ([] : List ByteArray), ([] : List (S55)), ([] : List ByteArray), 0, a0)) = some (r1, r2, r3, r4, r5, r6, r7) := h
 clear h
 simp only [Option.some.injEq, Prod.mk.injEq] at H
 obtain ⟨rfl, rfl, rfl, rfl, rfl, rfl, rfl⟩ := H
 go_enter Try.func34, Try.ntmps34
 go_wp2_with (first | ((with_reducible refine gate_dst (N := 2) rfl ?_); refine box_event (by rfl) (N := 2) (by rfl) (cs := #[.string (⟨#[]⟩ : ByteArray), .int .i64 0, .slice none 0 0, .slice none 0 0, .slice none 0 0, .int .i64 0, .int .i64 0]) (t := 31) (by first | (go_simp; done) | (go_simp; rfl)) ?_; intro gb101 hg w2 hbox hb; have _ := AM (below_step (bX HB.out) hb); have _ := AM (hbox); have n2_ := AM ((by rw [hg]; exact (bZ (bX HB.out)) : w.heap.size ≤ gb101)); clear HB; rename_i HB BK101; have GW101 := n2_; have GE101 := n2_; clear n2_; clear hb hbox hg; have hcz3 := q7 BK101.out; have hfz3 := fZ BK101.out))
 refine bodyPost_ret (results_cell_row rfl _ _ gb101 31 #[.string (⟨#[]⟩ : ByteArray), .int .i64 0, .slice none 0 0, .slice none 0 0, .slice none 0 0, .int .i64 0, .int .i64 a0] (0, 0) _ rfl (by refine kP (cs := #[.string (⟨#[]⟩ : ByteArray), .int .i64 0, .slice none 0 0, .slice none 0 0, .slice none 0 0, .int .i64 0, .int .i64 0]) 6 ?_; refine kP (cs := #[.string (⟨#[]⟩ : ByteArray), .int .i64 0, .slice none 0 0, .slice none 0 0, .slice none 0 0, .int .i64 0, .int .i64 0]) 5 ?_; refine kP (cs := #[.string (⟨#[]⟩ : ByteArray), .int .i64 0, .slice none 0 0, .slice none 0 0, .slice none 0 0, .int .i64 0, .int .i64 0]) 4 ?_; refine kP (cs := #[.string (⟨#[]⟩ : ByteArray), .int .i64 0, .slice none 0 0, .slice none 0 0, .slice none 0 0, .int .i64 0, .int .i64 0]) 3 ?_; refine kP (cs := #[.string (⟨#[]⟩ : ByteArray), .int .i64 0, .slice none 0 0, .slice none 0 0, .slice none 0 0, .int .i64 0, .int .i64 0]) 2 ?_; refine kP (cs := #[.string (⟨#[]⟩ : ByteArray), .int .i64 0, .slice none 0 0, .slice none 0 0, .slice none 0 0, .int .i64 0, .int .i64 0]) 1 ?_; refine kP (cs := #[.string (⟨#[]⟩ : ByteArray), .int .i64 0, .slice none 0 0, .slice none 0 0, .slice none 0 0, .int .i64 0, .int .i64 0]) 0 ?_; (with_reducible repeat (first | apply kN | apply kD | apply kA)); exact BK101.out) Try.underlying31 rfl (by kernel_rfl)) rfl ?_
 exact ⟨_, _, _, by first | rfl | (simp [*, errW_none, errW_some] <;> rfl), by first | exact Kd.R_nil _ _ _ _ _ | exact Kd.N_nil _ _ _ _ _ | exact Kd.V_nil _ _ _ _ _ | exact Kd.Q_nil _ _ _ _ _ | exact Kd.S_nil _ _ _ _ _, by first | exact Kd.R_nil _ _ _ _ _ | exact Kd.N_nil _ _ _ _ _ | exact Kd.V_nil _ _ _ _ _ | exact Kd.Q_nil _ _ _ _ _ | exact Kd.S_nil _ _ _ _ _, by first | exact Kd.R_nil _ _ _ _ _ | exact Kd.N_nil _ _ _ _ _ | exact Kd.V_nil _ _ _ _ _ | exact Kd.Q_nil _ _ _ _ _ | exact Kd.S_nil _ _ _ _ _, bX HB.out⟩

/-! ### impl_isName: function 39 -/

def impl_isName.l0 : Nat → ByteArray → Int → Int → Option (Bool)
  | 0, _, _, _ => none
  | k + 1, x0, x7, x8 => if x8 < x7 then (if 0 ≤ x8 then (if x8 < (x0.size : Int) then (if (bt x0 x8) ≥ 97 then (if ((bt x0 x8) ≤ 122) then (impl_isName.l0 k x0 x7 (wrap64 (x8 + 1))) else (if x8 = 0 then (some false) else (if (bt x0 x8) = 95 then (impl_isName.l0 k x0 x7 (wrap64 (x8 + 1))) else (if (bt x0 x8) < 48 then (some false) else (if (bt x0 x8) > 57 then (some false) else (impl_isName.l0 k x0 x7 (wrap64 (x8 + 1)))))))) else (if x8 = 0 then (some false) else (if (bt x0 x8) = 95 then (impl_isName.l0 k x0 x7 (wrap64 (x8 + 1))) else (if (bt x0 x8) < 48 then (some false) else (if (bt x0 x8) > 57 then (some false) else (impl_isName.l0 k x0 x7 (wrap64 (x8 + 1)))))))) else (none)) else (none)) else (if (x0.size : Int) ≥ 1 then (some (decide ((x0.size : Int) ≤ 20))) else (some false))
def impl_isName.f (k : Nat) (a0 : ByteArray) : Option (Bool) := impl_isName.l0 k a0 (a0.size : Int) 0
theorem impl_isName.mono_l : ∀ k, (∀ y0 y1 y2, LeO (impl_isName.l0 k y0 y1 y2) (impl_isName.l0 (k + 1) y0 y1 y2))
  | 0 => fun _ _ _ r h => by simp [impl_isName.l0] at h
  | k + 1 => by
    have ih0 := impl_isName.mono_l k
    · intro y0 y1 y2
      unfold impl_isName.l0
      repeat' first
      | (with_reducible exact ih0 _ _ _)
      | (with_reducible exact LeO.refl _)
      | (with_reducible exact LeO.none _)
      | (with_reducible refine LeO.ite ?_ ?_)
      | (with_reducible refine LeO.bind ?_ (fun _ => ?_))
      | exact ih0 _ _ _
      | exact LeO.none _
      | refine LeO.ite ?_ ?_
      | refine LeO.bind ?_ (fun _ => ?_)
theorem impl_isName.mono : ∀ a0 k, LeO (impl_isName.f k a0) (impl_isName.f (k + 1) a0) := by
  intro a0 k
  have ih0 := impl_isName.mono_l k
  unfold impl_isName.f
  repeat' first
      | (with_reducible exact ih0 _ _ _)
      | (with_reducible exact LeO.refl _)
      | (with_reducible exact LeO.none _)
      | (with_reducible refine LeO.ite ?_ ?_)
      | (with_reducible refine LeO.bind ?_ (fun _ => ?_))
      | exact ih0 _ _ _
      | exact LeO.none _
      | refine LeO.ite ?_ ?_
      | refine LeO.bind ?_ (fun _ => ?_)
set_option maxHeartbeats 60000000 in
set_option maxRecDepth 100000 in
theorem impl_isName.calls (k : Nat) (a0 : ByteArray) (r : Bool) (w : World) (h : impl_isName.f k a0 = some r) :
    Calls Try.prog 39 #[.string a0] w fun e w' => e = .returned (.bool r) ∧ Drawn0 w w' := by
 have H : (impl_isName.l0 k a0 (a0.size : Int) 0) = some r := h
 clear h
 have H' := AM H
 clear H
 go_enter Try.func39, Try.ntmps39
 go_wp2
 go_loopg [8] k (fun kq v8 w' => ∃ (x8_1 : Int), v8 = .int .i64 x8_1 ∧ Aside0 (impl_isName.l0 kq a0 (a0.size : Int) x8_1 = some r) ∧ Aside0 (kq ≤ k) ∧ Drawn0 w w')
 case atStart => exact ⟨(0), (by first | rfl | (simp; done) | (simp [*]; done)), H', ⟨Nat.le_refl _⟩, by repeat (first | exact Drawn0.refl _ | apply Drawn0.step)⟩
 case round =>
  clear H'
  obtain ⟨x8_1, rfl, HA, HK1, ⟨m1, rfl⟩⟩ := hrel
  cases gk with
  | zero => exact absurd HA.out (by simp [impl_isName.l0])
  | succ k1 =>
   have H := HA.out
   clear HA
   simp only [impl_isName.l0] at H
   by_cases c2 : x8_1 < (a0.size : Int)
   ·
    rw [if_pos c2] at H
    have c2b0 : decide (x8_1 < (a0.size : Int)) = true := decide_eq_true c2
    clear c2
    by_cases c3 : 0 ≤ x8_1
    ·
     rw [if_pos c3] at H
     have c3b0 : decide (0 ≤ x8_1) = true := decide_eq_true c3
     clear c3
     by_cases c4 : x8_1 < (a0.size : Int)
     ·
      rw [if_pos c4] at H
      have c4b0 : decide (x8_1 < (a0.size : Int)) = true := decide_eq_true c4
      clear c4
      by_cases c6 : (bt a0 x8_1) ≥ 97
      ·
       rw [if_pos c6] at H
       have c6b0 : decide (97 ≤ (bt a0 x8_1)) = true := decide_eq_true c6
       clear c6
       by_cases c7 : ((bt a0 x8_1) ≤ 122)
       ·
        rw [if_pos c7] at H
        have c7b0 : decide ((bt a0 x8_1) ≤ 122) = true := decide_eq_true c7
        clear c7
        have H' := AM H
        clear H
        have p5 : 0 ≤ (x8_1 : Int) := of_decide_eq_true (by assumption)
        have q5 : x8_1 < (a0.size : Int) := of_decide_eq_true (by assumption)
        have hx5 := bt_at a0 x8_1
        replace p5 := eq_true p5
        replace q5 := eq_true q5
        go_wp2
        go_roundg k1
        case measure => have := HK1.out; omega
        case rel => exact ⟨(wrap64 (x8_1 + 1)), (by first | rfl | (simp; done) | (simp [*]; done)), H', ⟨by have := HK1.out; omega⟩, by repeat (first | exact Drawn0.refl _ | apply Drawn0.step)⟩
       rw [if_neg c7] at H
       have c7b0 : decide ((bt a0 x8_1) ≤ 122) = false := decide_eq_false c7
       clear c7
       by_cases c8 : x8_1 = 0
       ·
        rw [if_pos c8] at H
        have c8b0 : (x8_1 == 0) = true := beq_iff_eq.mpr c8
        have c8b1 : (x8_1 != 0) = false := bne_eq_false_iff_eq.mpr c8
        clear c8
        obtain rfl := Option.some.inj H
        have p5 : 0 ≤ (x8_1 : Int) := of_decide_eq_true (by assumption)
        have q5 : x8_1 < (a0.size : Int) := of_decide_eq_true (by assumption)
        have hx5 := bt_at a0 x8_1
        replace p5 := eq_true p5
        replace q5 := eq_true q5
        go_wp2
        go_ret
        exact ⟨by first | rfl | (simp; done) | (simp [*]; done), by repeat (first | exact Drawn0.refl _ | apply Drawn0.step)⟩
       rw [if_neg c8] at H
       have c8b0 : (x8_1 == 0) = false := beq_eq_false_iff_ne.mpr c8
       have c8b1 : (x8_1 != 0) = true := bne_iff_ne.mpr c8
       by_cases c9 : (bt a0 x8_1) = 95
       ·
        rw [if_pos c9] at H
        have c9b0 : ((bt a0 x8_1) == 95) = true := beq_iff_eq.mpr c9
        have c9b1 : ((bt a0 x8_1) != 95) = false := bne_eq_false_iff_eq.mpr c9
        clear c9
        have H' := AM H
        clear H
        have p5 : 0 ≤ (x8_1 : Int) := of_decide_eq_true (by assumption)
        have q5 : x8_1 < (a0.size : Int) := of_decide_eq_true (by assumption)
        have hx5 := bt_at a0 x8_1
        replace p5 := eq_true p5
        replace q5 := eq_true q5
        go_wp2
        go_roundg k1
        case measure => have := HK1.out; omega
        case rel => exact ⟨(wrap64 (x8_1 + 1)), (by first | rfl | (simp; done) | (simp [*]; done)), H', ⟨by have := HK1.out; omega⟩, by repeat (first | exact Drawn0.refl _ | apply Drawn0.step)⟩
       rw [if_neg c9] at H
       have c9b0 : ((bt a0 x8_1) == 95) = false := beq_eq_false_iff_ne.mpr c9
       have c9b1 : ((bt a0 x8_1) != 95) = true := bne_iff_ne.mpr c9
       by_cases c10 : (bt a0 x8_1) < 48
       ·
        rw [if_pos c10] at H
        have c10b0 : decide ((bt a0 x8_1) < 48) = true := decide_eq_true c10
        clear c10
        obtain rfl := Option.some.inj H
        have p5 : 0 ≤ (x8_1 : Int) := of_decide_eq_true (by assumption)
        have q5 : x8_1 < (a0.size : Int) := of_decide_eq_true (by assumption)
        have hx5 := bt_at a0 x8_1
        replace p5 := eq_true p5
        replace q5 := eq_true q5
        go_wp2
        go_ret
        exact ⟨by first | rfl | (simp; done) | (simp [*]; done), by repeat (first | exact Drawn0.refl _ | apply Drawn0.step)⟩
       rw [if_neg c10] at H
       have c10b0 : decide ((bt a0 x8_1) < 48) = false := decide_eq_false c10
       clear c10
       by_cases c11 : (bt a0 x8_1) > 57
       ·
        rw [if_pos c11] at H
        have c11b0 : decide (57 < (bt a0 x8_1)) = true := decide_eq_true c11
        clear c11
        obtain rfl := Option.some.inj H
        have p5 : 0 ≤ (x8_1 : Int) := of_decide_eq_true (by assumption)
        have q5 : x8_1 < (a0.size : Int) := of_decide_eq_true (by assumption)
        have hx5 := bt_at a0 x8_1
        replace p5 := eq_true p5
        replace q5 := eq_true q5
        go_wp2
        go_ret
        exact ⟨by first | rfl | (simp; done) | (simp [*]; done), by repeat (first | exact Drawn0.refl _ | apply Drawn0.step)⟩
       rw [if_neg c11] at H
       have c11b0 : decide (57 < (bt a0 x8_1)) = false := decide_eq_false c11
       clear c11
       have H' := AM H
       clear H
       have p5 : 0 ≤ (x8_1 : Int) := of_decide_eq_true (by assumption)
       have q5 : x8_1 < (a0.size : Int) := of_decide_eq_true (by assumption)
       have hx5 := bt_at a0 x8_1
       replace p5 := eq_true p5
       replace q5 := eq_true q5
       go_wp2
       go_roundg k1
       case measure => have := HK1.out; omega
       case rel => exact ⟨(wrap64 (x8_1 + 1)), (by first | rfl | (simp; done) | (simp [*]; done)), H', ⟨by have := HK1.out; omega⟩, by repeat (first | exact Drawn0.refl _ | apply Drawn0.step)⟩
      rw [if_neg c6] at H
      have c6b0 : decide (97 ≤ (bt a0 x8_1)) = false := decide_eq_false c6
      clear c6
      by_cases c12 : x8_1 = 0
      ·
       rw [if_pos c12] at H
       have c12b0 : (x8_1 == 0) = true := beq_iff_eq.mpr c12
       have c12b1 : (x8_1 != 0) = false := bne_eq_false_iff_eq.mpr c12
       clear c12
       obtain rfl := Option.some.inj H
       have p5 : 0 ≤ (x8_1 : Int) := of_decide_eq_true (by assumption)
       have q5 : x8_1 < (a0.size : Int) := of_decide_eq_true (by assumption)
       have hx5 := bt_at a0 x8_1
       replace p5 := eq_true p5
       replace q5 := eq_true q5
       go_wp2
       go_ret
       exact ⟨by first | rfl | (simp; done) | (simp [*]; done), by repeat (first | exact Drawn0.refl _ | apply Drawn0.step)⟩
      rw [if_neg c12] at H
      have c12b0 : (x8_1 == 0) = false := beq_eq_false_iff_ne.mpr c12
      have c12b1 : (x8_1 != 0) = true := bne_iff_ne.mpr c12
      by_cases c13 : (bt a0 x8_1) = 95
      ·
       rw [if_pos c13] at H
       have c13b0 : ((bt a0 x8_1) == 95) = true := beq_iff_eq.mpr c13
       have c13b1 : ((bt a0 x8_1) != 95) = false := bne_eq_false_iff_eq.mpr c13
       clear c13
       have H' := AM H
       clear H
       have p5 : 0 ≤ (x8_1 : Int) := of_decide_eq_true (by assumption)
       have q5 : x8_1 < (a0.size : Int) := of_decide_eq_true (by assumption)
       have hx5 := bt_at a0 x8_1
       replace p5 := eq_true p5
       replace q5 := eq_true q5
       go_wp2
       go_roundg k1
       case measure => have := HK1.out; omega
       case rel => exact ⟨(wrap64 (x8_1 + 1)), (by first | rfl | (simp; done) | (simp [*]; done)), H', ⟨by have := HK1.out; omega⟩, by repeat (first | exact Drawn0.refl _ | apply Drawn0.step)⟩
      rw [if_neg c13] at H
      have c13b0 : ((bt a0 x8_1) == 95) = false := beq_eq_false_iff_ne.mpr c13
      have c13b1 : ((bt a0 x8_1) != 95) = true := bne_iff_ne.mpr c13
      by_cases c14 : (bt a0 x8_1) < 48
      ·
       rw [if_pos c14] at H
       have c14b0 : decide ((bt a0 x8_1) < 48) = true := decide_eq_true c14
       clear c14
       obtain rfl := Option.some.inj H
       have p5 : 0 ≤ (x8_1 : Int) := of_decide_eq_true (by assumption)
       have q5 : x8_1 < (a0.size : Int) := of_decide_eq_true (by assumption)
       have hx5 := bt_at a0 x8_1
       replace p5 := eq_true p5
       replace q5 := eq_true q5
       go_wp2
       go_ret
       exact ⟨by first | rfl | (simp; done) | (simp [*]; done), by repeat (first | exact Drawn0.refl _ | apply Drawn0.step)⟩
      rw [if_neg c14] at H
      have c14b0 : decide ((bt a0 x8_1) < 48) = false := decide_eq_false c14
      clear c14
      by_cases c15 : (bt a0 x8_1) > 57
      ·
       rw [if_pos c15] at H
       have c15b0 : decide (57 < (bt a0 x8_1)) = true := decide_eq_true c15
       clear c15
       obtain rfl := Option.some.inj H
       have p5 : 0 ≤ (x8_1 : Int) := of_decide_eq_true (by assumption)
       have q5 : x8_1 < (a0.size : Int) := of_decide_eq_true (by assumption)
       have hx5 := bt_at a0 x8_1
       replace p5 := eq_true p5
       replace q5 := eq_true q5
       go_wp2
       go_ret
       exact ⟨by first | rfl | (simp; done) | (simp [*]; done), by repeat (first | exact Drawn0.refl _ | apply Drawn0.step)⟩
      rw [if_neg c15] at H
      have c15b0 : decide (57 < (bt a0 x8_1)) = false := decide_eq_false c15
      clear c15
      have H' := AM H
      clear H
      have p5 : 0 ≤ (x8_1 : Int) := of_decide_eq_true (by assumption)
      have q5 : x8_1 < (a0.size : Int) := of_decide_eq_true (by assumption)
      have hx5 := bt_at a0 x8_1
      replace p5 := eq_true p5
      replace q5 := eq_true q5
      go_wp2
      go_roundg k1
      case measure => have := HK1.out; omega
      case rel => exact ⟨(wrap64 (x8_1 + 1)), (by first | rfl | (simp; done) | (simp [*]; done)), H', ⟨by have := HK1.out; omega⟩, by repeat (first | exact Drawn0.refl _ | apply Drawn0.step)⟩
     rw [if_neg c4] at H
     exact absurd H (by simp)
    rw [if_neg c3] at H
    exact absurd H (by simp)
   rw [if_neg c2] at H
   have c2b0 : decide (x8_1 < (a0.size : Int)) = false := decide_eq_false c2
   clear c2
   by_cases c16 : (a0.size : Int) ≥ 1
   ·
    rw [if_pos c16] at H
    have c16b0 : decide (1 ≤ (a0.size : Int)) = true := decide_eq_true c16
    have c16b1 : decide (1 ≤ a0.size) = true := decide_eq_true (by omega)
    clear c16
    obtain rfl := Option.some.inj H
    go_wp2
    go_ret
    exact ⟨by first | rfl | (simp; done) | (simp [*]; done), by repeat (first | exact Drawn0.refl _ | apply Drawn0.step)⟩
   rw [if_neg c16] at H
   have c16b0 : decide (1 ≤ (a0.size : Int)) = false := decide_eq_false c16
   have c16b1 : decide (1 ≤ a0.size) = false := decide_eq_false (by omega)
   clear c16
   obtain rfl := Option.some.inj H
   go_wp2
   go_ret
   exact ⟨by first | rfl | (simp; done) | (simp [*]; done), by repeat (first | exact Drawn0.refl _ | apply Drawn0.step)⟩

/-! ### impl_within: function 40 -/

def impl_within.f (a0 : Int) (a1 : Int) (a2 : Int) : Option (Bool) := if a0 ≥ a1 then (some (decide (a0 ≤ a2))) else (some false)
set_option maxHeartbeats 60000000 in
set_option maxRecDepth 100000 in
theorem impl_within.calls (a0 : Int) (a1 : Int) (a2 : Int) (r : Bool) (w : World) (h : impl_within.f a0 a1 a2 = some r) :
    Calls Try.prog 40 #[.int .i64 a0, .int .i64 a1, .int .i64 a2] w fun e w' => e = .returned (.bool r) ∧ Drawn0 w w' := by
 have H : (if a0 ≥ a1 then (some (decide (a0 ≤ a2))) else (some false)) = some r := h
 clear h
 by_cases c4 : a0 ≥ a1
 ·
  rw [if_pos c4] at H
  have c4b0 : decide (a1 ≤ a0) = true := decide_eq_true c4
  clear c4
  obtain rfl := Option.some.inj H
  go_enter Try.func40, Try.ntmps40
  go_wp2
  go_ret
  exact ⟨by first | rfl | (simp; done) | (simp [*]; done), by repeat (first | exact Drawn0.refl _ | apply Drawn0.step)⟩
 rw [if_neg c4] at H
 have c4b0 : decide (a1 ≤ a0) = false := decide_eq_false c4
 clear c4
 obtain rfl := Option.some.inj H
 go_enter Try.func40, Try.ntmps40
 go_wp2
 go_ret
 exact ⟨by first | rfl | (simp; done) | (simp [*]; done), by repeat (first | exact Drawn0.refl _ | apply Drawn0.step)⟩

/-! ### impl_size_string: function 73 (by hand) -/
def impl_size_string.f (l0 : List (ByteArray)) : Option Int := some (l0.length : Int)
theorem impl_size_string.calls (A0 : Option Addr) (c0 : Nat) (l0 : List (ByteArray)) (r : Int) (w : World) (h : impl_size_string.f l0 = some r) :
    Calls Try.prog 73 #[.slice A0 l0.length c0] w fun e w' => e = .returned (.int .i64 r) ∧ Drawn0 w w' := by
  obtain rfl := Option.some.inj h
  go_enter Try.func73, Try.ntmps73
  go_wp2
  go_ret
  exact ⟨rfl, Drawn0.refl _⟩


/-! ### impl_Topic_end: function 60 (by hand) -/
def impl_Topic_end.f (s0 : ByteArray) (s1 : Int) (s2 : List ByteArray) (s3 : List (S55)) : Option Int := some (wrap64 (s1 + (s2.length : Int)))
theorem impl_Topic_end.calls (g : Nat) (s0 : ByteArray) (s1 : Int) (A2 : Option Addr) (c2 : Nat) (s2 : List ByteArray) (s3 : List (S55)) (r : Int) (w : World) (hc1 : w.cell? ⟨g,1,none⟩ = some (.int .i64 s1)) (hc2 : w.cell? ⟨g,2,none⟩ = some (.slice A2 s2.length c2)) (h : impl_Topic_end.f s0 s1 s2 s3 = some r) :
    Calls Try.prog 60 #[.pointer (some ⟨g, 0, none⟩)] w fun e w' => e = .returned (.int .i64 r) ∧ Drawn0 w w' := by
  obtain rfl := Option.some.inj h
  clear h
  go_enter Try.func60, Try.ntmps60
  go_wp2_with (first | (go_at_call 73; (with_reducible refine (impl_size_string.calls _ _ s2 _ _ rfl).mono ?_); rintro e w' ⟨rfl, ⟨nd, rfl⟩⟩))
  repeat (go_quiet (first | (go_at_call 73; (with_reducible refine (impl_size_string.calls _ _ s2 _ _ rfl).mono ?_); rintro e w' ⟨rfl, ⟨nd, rfl⟩⟩; (try first | exact ⟨rfl, _, dD⟩ | exact ⟨rfl, _, dA⟩))); try go_wp2_with (first | (go_at_call 73; (with_reducible refine (impl_size_string.calls _ _ s2 _ _ rfl).mono ?_); rintro e w' ⟨rfl, ⟨nd, rfl⟩⟩; (try first | exact ⟨rfl, _, dD⟩ | exact ⟨rfl, _, dA⟩))))
  go_ret
  exact ⟨by first | rfl | simp, by first | exact ⟨_, rfl⟩ | exact Drawn0.refl _⟩


/-! ### impl_isTime: function 66 -/

def impl_isTime.f (a0 : Int) : Option (Bool) := (impl_within.f a0 0 1000000000).bind fun t101 => (some t101)
set_option maxHeartbeats 60000000 in
set_option maxRecDepth 100000 in
theorem impl_isTime.calls (a0 : Int) (r : Bool) (w : World) (h : impl_isTime.f a0 = some r) :
    Calls Try.prog 66 #[.int .i64 a0] w fun e w' => e = .returned (.bool r) ∧ Drawn0 w w' := by
 have H : ((impl_within.f a0 0 1000000000).bind fun t101 => (some t101)) = some r := h
 clear h
 replace H := Option.bind_eq_some_iff.mp H
 obtain ⟨t101, A20, H⟩ := H
 replace H : (some t101) = some r := H
 have A2 := AM A20
 clear A20
 obtain rfl := Option.some.inj H
 go_enter Try.func66, Try.ntmps66
 go_wp2_with (first | ((with_reducible refine gate_callee (f := 40) rfl ?_); refine goesL_ (some 4) rfl rfl Try.func40 (by kernel_rfl) rfl #[.int .i64 a0, .int .i64 0, .int .i64 1000000000] rfl (by (try simp only [mA, mB, mC]); first | done | rfl | (simp only [mD, mE]; rfl)) ?_; (with_reducible refine (impl_within.calls a0 0 1000000000 t101 _ A2.out).mono ?_); rintro e w' ⟨rfl, ⟨nd, rfl⟩⟩; refine ⟨_, rfl, ?_⟩))
 go_ret
 exact ⟨by first | rfl | (simp; done) | (simp [*]; done), by repeat (first | exact Drawn0.refl _ | apply Drawn0.step)⟩

/-! ### impl_isMessage: function 69 -/

def impl_isMessage.f (a0 : ByteArray) : Option (Bool) := if (a0.size : Int) ≥ 1 then (some (decide ((a0.size : Int) ≤ 40))) else (some false)
set_option maxHeartbeats 60000000 in
set_option maxRecDepth 100000 in
theorem impl_isMessage.calls (a0 : ByteArray) (r : Bool) (w : World) (h : impl_isMessage.f a0 = some r) :
    Calls Try.prog 69 #[.string a0] w fun e w' => e = .returned (.bool r) ∧ Drawn0 w w' := by
 have H : (if (a0.size : Int) ≥ 1 then (some (decide ((a0.size : Int) ≤ 40))) else (some false)) = some r := h
 clear h
 by_cases c2 : (a0.size : Int) ≥ 1
 ·
  rw [if_pos c2] at H
  have c2b0 : decide (1 ≤ (a0.size : Int)) = true := decide_eq_true c2
  have c2b1 : decide (1 ≤ a0.size) = true := decide_eq_true (by omega)
  clear c2
  obtain rfl := Option.some.inj H
  go_enter Try.func69, Try.ntmps69
  go_wp2
  go_ret
  exact ⟨by first | rfl | (simp; done) | (simp [*]; done), by repeat (first | exact Drawn0.refl _ | apply Drawn0.step)⟩
 rw [if_neg c2] at H
 have c2b0 : decide (1 ≤ (a0.size : Int)) = false := decide_eq_false c2
 have c2b1 : decide (1 ≤ a0.size) = false := decide_eq_false (by omega)
 clear c2
 obtain rfl := Option.some.inj H
 go_enter Try.func69, Try.ntmps69
 go_wp2
 go_ret
 exact ⟨by first | rfl | (simp; done) | (simp [*]; done), by repeat (first | exact Drawn0.refl _ | apply Drawn0.step)⟩

/-! ### impl_isTopic_1: function 68 -/

def impl_isTopic_1.f (a0 : ByteArray) : Option (Bool) := (impl_isMessage.f a0).bind fun t101 => (some (!t101))
set_option maxHeartbeats 60000000 in
set_option maxRecDepth 100000 in
theorem impl_isTopic_1.calls (a0 : ByteArray) (r : Bool) (w : World) (h : impl_isTopic_1.f a0 = some r) :
    Calls Try.prog 68 #[.string a0] w fun e w' => e = .returned (.bool r) ∧ Drawn0 w w' := by
 have H : ((impl_isMessage.f a0).bind fun t101 => (some (!t101))) = some r := h
 clear h
 replace H := Option.bind_eq_some_iff.mp H
 obtain ⟨t101, A20, H⟩ := H
 replace H : (some (!t101)) = some r := H
 have A2 := AM A20
 clear A20
 obtain rfl := Option.some.inj H
 go_enter Try.func68, Try.ntmps68
 go_wp2_with (first | ((with_reducible refine gate_callee (f := 69) rfl ?_); refine goesL_ (some 4) rfl rfl Try.func69 (by kernel_rfl) rfl #[.string a0] rfl (by (try simp only [mA, mB, mC]); first | done | rfl | (simp only [mD, mE]; rfl)) ?_; (with_reducible refine (impl_isMessage.calls a0 t101 _ A2.out).mono ?_); rintro e w' ⟨rfl, ⟨nd, rfl⟩⟩; refine ⟨_, rfl, ?_⟩))
 go_ret
 exact ⟨by first | rfl | (simp; done) | (simp [*]; done), by repeat (first | exact Drawn0.refl _ | apply Drawn0.step)⟩

/-! ### slices_ContainsFunc_string_string: function 67 (by hand) -/
def slices_ContainsFunc_string_string_p (x : ByteArray) : Bool := impl_isTopic_1.f x == some true
def slices_ContainsFunc_string_string.f (l0 : List ByteArray) : Option Bool := if l0.all (fun x => (impl_isTopic_1.f x).isSome) then some (decide (0 ≤ ixFrom slices_ContainsFunc_string_string_p l0 0)) else none
set_option maxRecDepth 100000 in
theorem slices_ContainsFunc_string_string_x (A0 : Option Addr) (c0 : Nat) (l0 : List ByteArray) (w : World) (hr0 : Kd.C Kd.string w A0 l0.length l0) (hs : ∀ x ∈ l0, (impl_isTopic_1.f x).isSome = true) :
   Calls Try.prog 83 #[.slice A0 l0.length c0, .func (.func 68) #[] #[]] w fun e w' => e = .returned (.int .i64 (ixFrom slices_ContainsFunc_string_string_p l0 0)) ∧ Below w.heap.size w w' := by
  have HR := Aside0.mk hr0
  have HS := Aside0.mk hs
  have hl : l0.length ≤ 9223372036854775807 := hr0.2.1
  clear hr0 hs
  go_enter Try.func83, Try.ntmps83
  go_wp2
  go_loopg [8] (l0.length + 1) (fun kq v8 w' => ∃ i : Int, v8 = .int .i64 i ∧ Aside0 (0 ≤ i) ∧ Aside0 (i ≤ l0.length) ∧ Aside0 ((kq : Int) + i = l0.length + 1) ∧ Aside0 (ixFrom slices_ContainsFunc_string_string_p l0 0 = ixFrom slices_ContainsFunc_string_string_p (l0.drop i.toNat) i.toNat) ∧ Aside0 (Below w.heap.size w w'))
  case atStart => exact ⟨0, rfl, ⟨by omega⟩, ⟨by omega⟩, ⟨by omega⟩, ⟨rfl⟩, ⟨Below.refl _ _⟩⟩
  case round =>
    obtain ⟨i, rfl, G0, G1, HK, HI, HB⟩ := hrel
    by_cases hlt : i < (l0.length : Int)
    · have g0 := G0.out
      have hd : l0.drop i.toNat = rdOf ByteArray.empty l0 i :: l0.drop (i.toNat + 1) := by
        rw [List.drop_eq_getElem_cons (by omega)]; simp [rdOf, List.getD, show i.toNat < l0.length by omega]
      have hm : rdOf ByteArray.empty l0 i ∈ l0 := by
        have : i.toNat < l0.length := by omega
        simp [rdOf, List.getD, this]
      obtain ⟨b, hb⟩ := Option.isSome_iff_exists.1 (HS.out _ hm)
      obtain ⟨ad, e, hx0⟩ := Kd.at_string HR.out i g0 hlt
      cases e
      replace hx0 := pw_cell_below HB.out hx0
      have G2 := Aside0.mk hlt
      have c1 : decide (i < (l0.length : Int)) = true := decide_eq_true hlt
      replace g0 := eq_true g0
      replace hlt := eq_true hlt
      have HP := Aside0.mk hb
      cases b with
      | true =>
        have HI2 : Aside0 (ixFrom slices_ContainsFunc_string_string_p l0 0 = i) := ⟨by rw [HI.out, hd]; simp [ixFrom, slices_ContainsFunc_string_string_p, hb]; have := G0.out; omega⟩
        clear hd hb hm
        go_wp2_with (first | (go_at_call 68; (with_reducible refine (impl_isTopic_1.calls (rdOf ByteArray.empty l0 i) true _ HP.out).mono ?_); rintro e w1 ⟨rfl, hb⟩; replace HB := Aside0.mk (below_step HB.out hb.below); clear hb))
        go_ret
        exact ⟨by rw [HI2.out]; rfl, HB.out⟩
      | false =>
        have HI2 : Aside0 (ixFrom slices_ContainsFunc_string_string_p l0 0 = ixFrom slices_ContainsFunc_string_string_p (l0.drop (i + 1).toNat) (i + 1).toNat) := ⟨by rw [HI.out, hd, show (i + 1).toNat = i.toNat + 1 by have := G0.out; omega]; simp [ixFrom, slices_ContainsFunc_string_string_p, hb]⟩
        clear hd hb hm
        go_wp2_with (first | (go_at_call 68; (with_reducible refine (impl_isTopic_1.calls (rdOf ByteArray.empty l0 i) false _ HP.out).mono ?_); rintro e w1 ⟨rfl, hb⟩; replace HB := Aside0.mk (below_step HB.out hb.below); clear hb))
        cases gk with
        | zero => exact absurd HK.out (by have := G2.out; omega)
        | succ gk =>
        go_roundg gk
        case measure => omega
        case rel => exact ⟨i + 1, by rw [w_succ_ G0.out G2.out hl], ⟨by have := G0.out; omega⟩, ⟨by have := G2.out; omega⟩, ⟨by have := HK.out; omega⟩, HI2, HB⟩
    · have c1 : decide (i < (l0.length : Int)) = false := decide_eq_false hlt
      have HI2 : Aside0 (ixFrom slices_ContainsFunc_string_string_p l0 0 = -1) := ⟨by rw [HI.out, List.drop_of_length_le (by omega)]; rfl⟩
      clear hlt
      go_wp2
      go_ret
      exact ⟨by rw [HI2.out]; rfl, HB.out⟩
set_option maxRecDepth 100000 in
theorem slices_ContainsFunc_string_string.calls (A0 : Option Addr) (c0 : Nat) (l0 : List ByteArray) (r : Bool) (w : World) (hr0 : Kd.C Kd.string w A0 l0.length l0) (hc0 : l0.length ≤ c0) (h : slices_ContainsFunc_string_string.f l0 = some r) :
    Calls Try.prog 67 #[.slice A0 l0.length c0, .func (.func 68) #[] #[]] w fun e w' => e = .returned (.bool r) ∧ Below w.heap.size w w' := by
  unfold slices_ContainsFunc_string_string.f at h
  split at h
  · rename_i hs
    obtain rfl := Option.some.inj h
    have HR := Aside0.mk hr0
    have HS := Aside0.mk (List.all_eq_true.1 hs)
    clear h hr0 hc0 hs
    go_enter Try.func67, Try.ntmps67
    go_wp2_with (first | (go_at_call 83; (with_reducible refine (slices_ContainsFunc_string_string_x _ _ l0 _ HR.out HS.out).mono ?_); rintro e w2 ⟨rfl, hb⟩; have HB := Aside0.mk hb; clear hb))
    go_ret
    exact ⟨rfl, HB.out⟩
  · exact absurd h (by simp)


end Go.Proofs.Ytnjnjffjblgldaa.Q
