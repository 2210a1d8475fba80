/- Printed by a program of this session (wip/mp.py over the kit's print.py): functions of the translation as plain Lean functions, and that the machine's calls do what these say. -/
import Derived.Test.YtbaacdlocoajeaaQx0
import Derived.Test.YtbaacdlocoajeaaQx3
import Derived.Test.YtbaacdlocoajeaaQx5
import Derived.Test.YtbaacdlocoajeaaQx6
import Derived.Test.YtbaacdlocoajeaaQx7
import Derived.Test.YtbaacdlocoajeaaQx8
namespace Go.Proofs.Ytbaacdlocoajeaa.Q
open Go.RowKit Go.Proofs.Ytbaacdlocoajeaa.HB Go.Proofs.YtbaacdlocoajeaaW.PrintWords Go.Proofs.YtbaacdlocoajeaaW.PrintLast Go.Proofs.YtbaacdlocoajeaaW.PrintMore
attribute [local go_sem] max2_int min2_int max_two min_two max_three min_three max_four min_four   -- for this text's walks alone
set_option linter.unusedVariables false
set_option linter.unusedSimpArgs false

/-! ### spec_l11Best: function 28 -/

def spec_l11Best.l0 : Nat → List (S45) → Int → Int → Option (Int × Int × ByteArray × List Int × Bool)
  | 0, _, _, _ => none
  | k + 1, x0, x1, x8 => if x8 ≥ 0 then ((spec_l11Proof.f k x0 x8 x1).bind fun bt102 => (if bt102.2.2.2.2 = true then (some (bt102.1, bt102.2.1, bt102.2.2.1, bt102.2.2.2.1, true)) else (spec_l11Best.l0 k x0 x1 (wrap64 (x8 - 1))))) else (some (0, 0, (⟨#[]⟩ : ByteArray), ([] : List Int), false))
def spec_l11Best.f (k : Nat) (l0 : List (S45)) (a1 : Int) (a2 : Int) : Option (Int × Int × ByteArray × List Int × Bool) := spec_l11Best.l0 k l0 a1 (wrap64 (a2 - 1))
theorem spec_l11Best.mono_l : ∀ k, (∀ y0 y1 y2, LeO (spec_l11Best.l0 k y0 y1 y2) (spec_l11Best.l0 (k + 1) y0 y1 y2))
  | 0 => fun _ _ _ r h => by simp [spec_l11Best.l0] at h
  | k + 1 => by
    have ih0 := spec_l11Best.mono_l k
    · intro y0 y1 y2
      unfold spec_l11Best.l0
      repeat' first
      | (with_reducible exact ih0 _ _ _)
      | (with_reducible exact spec_l11Proof.mono _ _ _ _)
      | (with_reducible exact LeO.refl _)
      | (with_reducible exact LeO.none _)
      | (with_reducible refine LeO.ite ?_ ?_)
      | (with_reducible refine LeO.bind ?_ (fun _ => ?_))
      | exact ih0 _ _ _
      | exact spec_l11Proof.mono _ _ _ _
      | exact LeO.none _
      | refine LeO.ite ?_ ?_
      | refine LeO.bind ?_ (fun _ => ?_)
theorem spec_l11Best.mono : ∀ a0 a1 a2 k, LeO (spec_l11Best.f k a0 a1 a2) (spec_l11Best.f (k + 1) a0 a1 a2) := by
  intro a0 a1 a2 k
  have ih0 := spec_l11Best.mono_l k
  unfold spec_l11Best.f
  repeat' first
      | (with_reducible exact ih0 _ _ _)
      | (with_reducible exact spec_l11Proof.mono _ _ _ _)
      | (with_reducible exact LeO.refl _)
      | (with_reducible exact LeO.none _)
      | (with_reducible refine LeO.ite ?_ ?_)
      | (with_reducible refine LeO.bind ?_ (fun _ => ?_))
      | exact ih0 _ _ _
      | exact spec_l11Proof.mono _ _ _ _
      | exact LeO.none _
      | refine LeO.ite ?_ ?_
      | refine LeO.bind ?_ (fun _ => ?_)
set_option maxHeartbeats 60000000 in
set_option maxRecDepth 100000 in
theorem spec_l11Best.calls (k : Nat) (A0 : Option Addr) (c0 : Nat) (l0 : List (S45)) (a1 : Int) (a2 : Int) (r1 : Int) (r2 : Int) (r3 : ByteArray) (r4 : List Int) (r5 : Bool) (w : World) (hr0 : Kd.C k45 w A0 l0.length l0) (hc0 : l0.length ≤ c0) (h : spec_l11Best.f k l0 a1 a2 = some (r1, r2, r3, r4, r5)) :
    Calls Try.prog 28 #[.slice A0 l0.length c0, .int .i64 a1, .int .i64 a2] w fun e w' => ∃ v3_ : Value, e = .returned (.tuple #[.agg #[.int .i64 r1, .int .i64 r2, .string r3, v3_], .bool r5]) ∧ Kd.R (Kd.int .i64) 2 w' w.heap.size (fun _ => True) v3_ r4 ∧ Below w.heap.size w w' := by
 have hu28 := Try.underlying28
 have HR0 := AM hr0
 have HC0 := AM hc0
 clear hr0 hc0
 have HB := AM (Below.refl w.heap.size w)
 have H : (spec_l11Best.l0 k l0 a1 (wrap64 (a2 - 1))) = some (r1, r2, r3, r4, r5) := h
 clear h
 have H' := AM H
 clear H
 go_enter Try.func28, Try.ntmps28
 go_wp2_with (first | ((with_reducible refine gate_dst (N := 6) rfl ?_); refine box_event (by rfl) (N := 6) (by rfl) (cs := #[.int .i64 0, .int .i64 0, .string (⟨#[]⟩ : ByteArray), .slice none 0 0]) (t := 28) (by first | (go_simp; done) | (go_simp; rfl)) ?_; intro gb101 hg w4 hbox hb; have _ := AM (below_step (bX HB.out) hb); have _ := AM (hbox); have n2_ := AM ((by rw [hg]; exact (bZ (bX HB.out)) : w.heap.size ≤ gb101)); clear HB; rename_i HB BK101; have GW101 := n2_; have GE101 := n2_; clear n2_; clear hb hbox hg))
 go_loopg [8] k (fun kq v8 w' => ∃ (x8_1 : Int) (x102000_1 : Int) (x102001_1 : Int) (x102002_1 : ByteArray), v8 = .int .i64 x8_1 ∧ Aside0 (spec_l11Best.l0 kq l0 a1 x8_1 = some (r1, r2, r3, r4, r5)) ∧ Aside0 (kq ≤ k) ∧ Aside0 (w'.heap[gb101]? = some (.cells #[.int .i64 x102000_1, .int .i64 x102001_1, .string x102002_1, (.slice none 0 0)] 28 (0, 0))) ∧ Aside0 (Below w.heap.size w w'))
 case atStart => exact ⟨(wrap64 (a2 - 1)), (0), (0), ((⟨#[]⟩ : ByteArray)), (by first | rfl | (simp; done) | (simp [*]; done)), H', ⟨Nat.le_refl _⟩, ⟨kX BK101.out⟩, ⟨bX HB.out⟩⟩
 case round =>
  clear H'
  (try clear c2); (try clear p2)
  obtain ⟨x8_1, x102000_1, x102001_1, x102002_1, rfl, HA, HK1, BK101, HB⟩ := hrel
  cases gk with
  | zero => exact absurd HA.out (by simp [spec_l11Best.l0])
  | succ k1 =>
   have H := HA.out
   clear HA
   simp only [spec_l11Best.l0] at H
   by_cases c5 : x8_1 ≥ 0
   ·
    rw [if_pos c5] at H
    have c5b0 : decide (0 ≤ x8_1) = true := decide_eq_true c5
    clear c5
    replace H := Option.bind_eq_some_iff.mp H
    obtain ⟨⟨t102, t103, t104, t105, t108⟩, A60, H⟩ := H
    try dsimp only at H
    have A6 := AM A60
    clear A60
    by_cases c7 : t108 = true
    ·
     subst c7
     have H1 : (some (t102, t103, t104, t105, true)) = some (r1, r2, r3, r4, r5) := by rw [if_pos rfl] at H; exact H
     clear H
     have H := H1
     clear H1
     simp only [Option.some.injEq, Prod.mk.injEq] at H
     obtain ⟨rfl, rfl, rfl, rfl, rfl⟩ := H
     go_wp2_with (first | ((with_reducible refine gate_callee (f := 44) rfl ?_); refine goesL_ (some 21) rfl rfl Try.func44 (by kernel_rfl) rfl #[.slice A0 l0.length c0, .int .i64 x8_1, .int .i64 a1] rfl (by (try simp only [mA, mB, mC]); first | done | rfl | (simp only [mD, mE]; rfl)) ?_; (with_reducible refine (spec_l11Proof.calls k1 _ _ l0 x8_1 a1 t102 t103 t104 t105 true _ ?side1 ?side2 A6.out).mono ?_); (case side1 => repeat (first | exact (cB HR0.out HB.out) | (with_reducible first | apply cA | apply cN | apply cD))); (case side2 => exact HC0.out); rintro e w8 ⟨v106, rfl, ho0, hb⟩; refine ⟨_, rfl, ?_⟩; have _ := AM (Kd.R_lower ho0 (bZ (bX HB.out))); have _ := AM (nB BK101.out hb); have _ := AM (below_step (bX HB.out) hb); clear BK101 HB; rename_i HO107 BK101 HB; (try clear hb); (try clear hk); (try clear ho0)) | ((with_reducible refine gate_dst (N := 9) rfl ?_); refine box_event (by rfl) (N := 9) (by rfl) (cs := #[.int .i64 0, .int .i64 0, .string (⟨#[]⟩ : ByteArray), .slice none 0 0]) (t := 28) (by first | (go_simp; done) | (go_simp; rfl)) ?_; intro gb109 hg w9 hbox hb; have _ := AM (Kd.R_below (rX HO107.out) hb); have _ := AM (nB BK101.out hb); have _ := AM (below_step (bX HB.out) hb); have _ := AM (hbox); have n4_ := AM ((by rw [hg]; exact (bZ (bX HB.out)) : w.heap.size ≤ gb109)); have _ := AM (lX hg BK101.out); have _ := AM (lX hg BK101.out).symm; clear HO107 BK101 HB; rename_i HO107 BK101 HB BK109 NB101_109 NB109_101; have GW109 := n4_; have GE109 := n4_; clear n4_; clear hb hbox hg; have hnb10 := NB109_101.out; have hnc10 := NB101_109.out; have hcz11 := q4 BK109.out; have hfz11 := fZ BK109.out; obtain ⟨Ao12, co12, eo12⟩ := Kd.R_slice HO107.out; subst eo12; have hcz13 := q4 BK101.out; have hfz13 := fZ BK101.out))
     refine bodyPost_ret (results_ct rfl _ _ gb101 28 #[.int .i64 t102, .int .i64 t103, .string t104, .slice Ao12 t105.length co12] (0, 0) _ rfl (by refine kP (cs := #[.int .i64 t102, .int .i64 t103, .string t104, .slice none 0 0]) 3 ?_; refine kP (cs := #[.int .i64 t102, .int .i64 t103, .string x102002_1, .slice none 0 0]) 2 ?_; refine kP (cs := #[.int .i64 t102, .int .i64 x102001_1, .string x102002_1, .slice none 0 0]) 1 ?_; refine kP (cs := #[.int .i64 x102000_1, .int .i64 x102001_1, .string x102002_1, .slice none 0 0]) 0 ?_; (iterate 4 refine kF NB101_109.out ?_); (with_reducible repeat (first | apply kN | apply kD | apply kA)); exact BK101.out) Try.underlying28 rfl (by kernel_rfl)) rfl ?_
     exact ⟨_, by first | rfl | (simp [*, errW_none, errW_some] <;> rfl), by (with_reducible repeat (first | apply rA | apply rN | apply rD)); exact Kd.R_mono (Kd.R_far (p := ⟨gb101, 3, none⟩) (Kd.R_far (p := ⟨gb101, 2, none⟩) (Kd.R_far (p := ⟨gb101, 1, none⟩) (Kd.R_far (p := ⟨gb101, 0, none⟩) (Kd.R_far (p := ⟨gb109, 3, none⟩) (Kd.R_far (p := ⟨gb109, 2, none⟩) (Kd.R_far (p := ⟨gb109, 1, none⟩) (Kd.R_far (p := ⟨gb109, 0, none⟩) (Kd.R_types (Kd.R_types HO107.out BK109.out (by decide)) BK101.out (by decide)) (fun _ hk => hk.1.2) (.int .i64 t102)) (fun _ hk => hk.1.2) (.int .i64 t103)) (fun _ hk => hk.1.2) (.string t104)) (fun _ hk => hk.1.2) (.slice Ao12 t105.length co12)) (fun _ hk => hk.2) (.int .i64 t102)) (fun _ hk => hk.2) (.int .i64 t103)) (fun _ hk => hk.2) (.string t104)) (fun _ hk => hk.2) (.slice Ao12 t105.length co12)) (fun _ hk => trivial), bX HB.out⟩
    replace c7 := Bool.eq_false_iff.mpr c7
    subst c7
    have H1 : (spec_l11Best.l0 k1 l0 a1 (wrap64 (x8_1 - 1))) = some (r1, r2, r3, r4, r5) := by rw [if_neg (show ¬ (false = true) by decide)] at H; exact H
    clear H
    have H := H1
    clear H1
    have H' := AM H
    clear H
    go_wp2_with (first | ((with_reducible refine gate_callee (f := 44) rfl ?_); refine goesL_ (some 21) rfl rfl Try.func44 (by kernel_rfl) rfl #[.slice A0 l0.length c0, .int .i64 x8_1, .int .i64 a1] rfl (by (try simp only [mA, mB, mC]); first | done | rfl | (simp only [mD, mE]; rfl)) ?_; (with_reducible refine (spec_l11Proof.calls k1 _ _ l0 x8_1 a1 t102 t103 t104 t105 false _ ?side1 ?side2 A6.out).mono ?_); (case side1 => repeat (first | exact (cB HR0.out HB.out) | (with_reducible first | apply cA | apply cN | apply cD))); (case side2 => exact HC0.out); rintro e w14 ⟨v106, rfl, ho0, hb⟩; refine ⟨_, rfl, ?_⟩; have _ := AM (Kd.R_lower ho0 (bZ (bX HB.out))); have _ := AM (nB BK101.out hb); have _ := AM (below_step (bX HB.out) hb); clear BK101 HB; rename_i HO107 BK101 HB; (try clear hb); (try clear hk); (try clear ho0)) | ((with_reducible refine gate_dst (N := 9) rfl ?_); refine box_event (by rfl) (N := 9) (by rfl) (cs := #[.int .i64 0, .int .i64 0, .string (⟨#[]⟩ : ByteArray), .slice none 0 0]) (t := 28) (by first | (go_simp; done) | (go_simp; rfl)) ?_; intro gb109 hg w15 hbox hb; have _ := AM (Kd.R_below (rX HO107.out) hb); have _ := AM (nB BK101.out hb); have _ := AM (below_step (bX HB.out) hb); have _ := AM (hbox); have n4_ := AM ((by rw [hg]; exact (bZ (bX HB.out)) : w.heap.size ≤ gb109)); have _ := AM (lX hg BK101.out); have _ := AM (lX hg BK101.out).symm; clear HO107 BK101 HB; rename_i HO107 BK101 HB BK109 NB101_109 NB109_101; have GW109 := n4_; have GE109 := n4_; clear n4_; clear hb hbox hg; have hnb16 := NB109_101.out; have hnc16 := NB101_109.out; have hcz17 := q4 BK109.out; have hfz17 := fZ BK109.out; obtain ⟨Ao18, co18, eo18⟩ := Kd.R_slice HO107.out; subst eo18))
    go_roundg k1
    case measure => have := HK1.out; omega
    case rel => exact ⟨(wrap64 (x8_1 - 1)), (x102000_1), (x102001_1), (x102002_1), (by first | rfl | (simp; done) | (simp [*]; done)), H', ⟨by have := HK1.out; omega⟩, ⟨by (iterate 4 refine kF NB101_109.out ?_); (with_reducible repeat (first | apply kN | apply kD | apply kA)); exact BK101.out⟩, ⟨bX HB.out⟩⟩
   rw [if_neg c5] at H
   have c5b0 : decide (0 ≤ x8_1) = false := decide_eq_false c5
   clear c5
   simp only [Option.some.injEq, Prod.mk.injEq] at H
   obtain ⟨rfl, rfl, rfl, rfl, rfl⟩ := H
   have hcz19 := q4 BK101.out
   have hfz19 := fZ BK101.out
   go_wp2
   refine bodyPost_ret (results_ct rfl _ _ gb101 28 #[.int .i64 0, .int .i64 0, .string (⟨#[]⟩ : ByteArray), .slice none 0 0] (0, 0) _ rfl (by refine kP (cs := #[.int .i64 0, .int .i64 0, .string (⟨#[]⟩ : ByteArray), .slice none 0 0]) 3 ?_; refine kP (cs := #[.int .i64 0, .int .i64 0, .string x102002_1, .slice none 0 0]) 2 ?_; refine kP (cs := #[.int .i64 0, .int .i64 x102001_1, .string x102002_1, .slice none 0 0]) 1 ?_; refine kP (cs := #[.int .i64 x102000_1, .int .i64 x102001_1, .string x102002_1, .slice none 0 0]) 0 ?_; (with_reducible repeat (first | apply kN | apply kD | apply kA)); exact BK101.out) Try.underlying28 rfl (by kernel_rfl)) rfl ?_
   exact ⟨_, by first | rfl | (simp [*, errW_none, errW_some] <;> rfl), by first | exact Kd.R_nil _ _ _ _ _ | exact Kd.N_nil _ _ _ _ _ | exact Kd.V_nil _ _ _ _ _ | exact Kd.Q_nil _ _ _ _ _ | exact Kd.S_nil _ _ _ _ _, bX HB.out⟩

/-! ### spec_Prepared: function 10 -/

def spec_Prepared.f (k : Nat) (l0 : List (S45)) (a1 : Int) : Option (Int × Int × ByteArray × List Int) := if (l0.length : Int) > 400 then (some (0, 0, (⟨#[]⟩ : ByteArray), ([] : List Int))) else ((spec_VotesRight.f k l0).bind fun t102 => (if t102 = true then ((spec_l11Best.f k l0 a1 8).bind fun bt103 => (some (bt103.1, bt103.2.1, bt103.2.2.1, bt103.2.2.2.1))) else (some (0, 0, (⟨#[]⟩ : ByteArray), ([] : List Int)))))
theorem spec_Prepared.mono : ∀ a0 a1 k, LeO (spec_Prepared.f k a0 a1) (spec_Prepared.f (k + 1) a0 a1) := by
  intro a0 a1 k
  unfold spec_Prepared.f
  repeat' first
      | (with_reducible exact spec_VotesRight.mono _ _)
      | (with_reducible exact spec_l11Best.mono _ _ _ _)
      | (with_reducible exact LeO.refl _)
      | (with_reducible exact LeO.none _)
      | (with_reducible refine LeO.ite ?_ ?_)
      | (with_reducible refine LeO.bind ?_ (fun _ => ?_))
      | exact spec_VotesRight.mono _ _
      | exact spec_l11Best.mono _ _ _ _
      | exact LeO.none _
      | refine LeO.ite ?_ ?_
      | refine LeO.bind ?_ (fun _ => ?_)
set_option maxHeartbeats 60000000 in
set_option maxRecDepth 100000 in
theorem spec_Prepared.calls (k : Nat) (A0 : Option Addr) (c0 : Nat) (l0 : List (S45)) (a1 : Int) (r1 : Int) (r2 : Int) (r3 : ByteArray) (r4 : List Int) (w : World) (hr0 : Kd.C k45 w A0 l0.length l0) (hc0 : l0.length ≤ c0) (h : spec_Prepared.f k l0 a1 = some (r1, r2, r3, r4)) :
    Calls Try.prog 10 #[.slice A0 l0.length c0, .int .i64 a1] w fun e w' => ∃ v3_ : Value, e = .returned (.agg #[.int .i64 r1, .int .i64 r2, .string r3, v3_]) ∧ Kd.R (Kd.int .i64) 2 w' w.heap.size (fun _ => True) v3_ r4 ∧ Below w.heap.size w w' := by
 have hu28 := Try.underlying28
 have HR0 := AM hr0
 have HC0 := AM hc0
 clear hr0 hc0
 have HB := AM (Below.refl w.heap.size w)
 have H : (if (l0.length : Int) > 400 then (some (0, 0, (⟨#[]⟩ : ByteArray), ([] : List Int))) else ((spec_VotesRight.f k l0).bind fun t102 => (if t102 = true then ((spec_l11Best.f k l0 a1 8).bind fun bt103 => (some (bt103.1, bt103.2.1, bt103.2.2.1, bt103.2.2.2.1))) else (some (0, 0, (⟨#[]⟩ : ByteArray), ([] : List Int)))))) = some (r1, r2, r3, r4) := h
 clear h
 by_cases c3 : (l0.length : Int) > 400
 ·
  rw [if_pos c3] at H
  have c3b0 : decide (400 < (l0.length : Int)) = true := decide_eq_true c3
  have c3b1 : decide (400 < l0.length) = true := decide_eq_true (by omega)
  clear c3
  simp only [Option.some.injEq, Prod.mk.injEq] at H
  obtain ⟨rfl, rfl, rfl, rfl⟩ := H
  go_enter Try.func10, Try.ntmps10
  go_wp2_with (first | ((with_reducible refine gate_dst (N := 4) rfl ?_); refine box_event (by rfl) (N := 4) (by rfl) (cs := #[.int .i64 0, .int .i64 0, .string (⟨#[]⟩ : ByteArray), .slice none 0 0]) (t := 28) (by first | (go_simp; done) | (go_simp; rfl)) ?_; intro gb101 hg w4 hbox hb; have _ := AM (below_step (bX HB.out) hb); have _ := AM (hbox); have n2_ := AM ((by rw [hg]; exact (bZ (bX HB.out)) : w.heap.size ≤ gb101)); clear HB; rename_i HB BK101; have GW101 := n2_; have GE101 := n2_; clear n2_; clear hb hbox hg; have hcz5 := q4 BK101.out; have hfz5 := fZ BK101.out))
  refine bodyPost_ret (results_cell_row rfl _ _ gb101 28 #[.int .i64 0, .int .i64 0, .string (⟨#[]⟩ : ByteArray), .slice none 0 0] (0, 0) _ rfl (by refine kP (cs := #[.int .i64 0, .int .i64 0, .string (⟨#[]⟩ : ByteArray), .slice none 0 0]) 3 ?_; refine kP (cs := #[.int .i64 0, .int .i64 0, .string (⟨#[]⟩ : ByteArray), .slice none 0 0]) 2 ?_; refine kP (cs := #[.int .i64 0, .int .i64 0, .string (⟨#[]⟩ : ByteArray), .slice none 0 0]) 1 ?_; refine kP (cs := #[.int .i64 0, .int .i64 0, .string (⟨#[]⟩ : ByteArray), .slice none 0 0]) 0 ?_; (with_reducible repeat (first | apply kN | apply kD | apply kA)); exact BK101.out) Try.underlying28 rfl (by kernel_rfl)) rfl ?_
  exact ⟨_, by first | rfl | (simp [*, errW_none, errW_some] <;> rfl), by first | exact Kd.R_nil _ _ _ _ _ | exact Kd.N_nil _ _ _ _ _ | exact Kd.V_nil _ _ _ _ _ | exact Kd.Q_nil _ _ _ _ _ | exact Kd.S_nil _ _ _ _ _, bX HB.out⟩
 rw [if_neg c3] at H
 have c3b0 : decide (400 < (l0.length : Int)) = false := decide_eq_false c3
 have c3b1 : decide (400 < l0.length) = false := decide_eq_false (by omega)
 clear c3
 replace H := Option.bind_eq_some_iff.mp H
 obtain ⟨t102, A60, H⟩ := H
 replace H : (if t102 = true then ((spec_l11Best.f k l0 a1 8).bind fun bt103 => (some (bt103.1, bt103.2.1, bt103.2.2.1, bt103.2.2.2.1))) else (some (0, 0, (⟨#[]⟩ : ByteArray), ([] : List Int)))) = some (r1, r2, r3, r4) := H
 have A6 := AM A60
 clear A60
 by_cases c7 : t102 = true
 ·
  subst c7
  have H1 : ((spec_l11Best.f k l0 a1 8).bind fun bt103 => (some (bt103.1, bt103.2.1, bt103.2.2.1, bt103.2.2.2.1))) = some (r1, r2, r3, r4) := by rw [if_pos rfl] at H; exact H
  clear H
  have H := H1
  clear H1
  replace H := Option.bind_eq_some_iff.mp H
  obtain ⟨⟨t103, t104, t105, t106, t109⟩, A80, H⟩ := H
  try dsimp only at H
  have A8 := AM A80
  clear A80
  simp only [Option.some.injEq, Prod.mk.injEq] at H
  obtain ⟨rfl, rfl, rfl, rfl⟩ := H
  go_enter Try.func10, Try.ntmps10
  go_wp2_with (first | ((with_reducible refine gate_dst (N := 4) rfl ?_); refine box_event (by rfl) (N := 4) (by rfl) (cs := #[.int .i64 0, .int .i64 0, .string (⟨#[]⟩ : ByteArray), .slice none 0 0]) (t := 28) (by first | (go_simp; done) | (go_simp; rfl)) ?_; intro gb101 hg w9 hbox hb; have _ := AM (below_step (bX HB.out) hb); have _ := AM (hbox); have n2_ := AM ((by rw [hg]; exact (bZ (bX HB.out)) : w.heap.size ≤ gb101)); clear HB; rename_i HB BK101; have GW101 := n2_; have GE101 := n2_; clear n2_; clear hb hbox hg) | (go_at_call 27; (with_reducible refine (spec_VotesRight.calls k _ _ l0 true _ ?side1 ?side2 A6.out).mono ?_); (case side1 => repeat (first | exact (cB HR0.out HB.out) | (with_reducible first | apply cA | apply cN | apply cD))); (case side2 => exact HC0.out); rintro e w10 ⟨rfl, hb⟩; have _ := AM (nB BK101.out hb); have _ := AM (below_step (bX HB.out) hb); clear BK101 HB; rename_i BK101 HB; (try clear hb); (try clear hk)) | ((with_reducible refine gate_callee (f := 28) rfl ?_); refine goesL_ (some 19) rfl rfl Try.func28 (by kernel_rfl) rfl #[.slice A0 l0.length c0, .int .i64 a1, .int .i64 8] rfl (by (try simp only [mA, mB, mC]); first | done | rfl | (simp only [mD, mE]; rfl)) ?_; (with_reducible refine (spec_l11Best.calls k _ _ l0 a1 8 t103 t104 t105 t106 t109 _ ?side1 ?side2 A8.out).mono ?_); (case side1 => repeat (first | exact (cB HR0.out HB.out) | (with_reducible first | apply cA | apply cN | apply cD))); (case side2 => exact HC0.out); rintro e w11 ⟨v107, rfl, ho0, hb⟩; refine ⟨_, rfl, ?_⟩; have _ := AM (Kd.R_lower ho0 (bZ (bX HB.out))); have _ := AM (nB BK101.out hb); have _ := AM (below_step (bX HB.out) hb); clear BK101 HB; rename_i HO108 BK101 HB; (try clear hb); (try clear hk); (try clear ho0)) | ((with_reducible refine gate_dst (N := 5) rfl ?_); refine box_event (by rfl) (N := 5) (by rfl) (cs := #[.int .i64 0, .int .i64 0, .string (⟨#[]⟩ : ByteArray), .slice none 0 0]) (t := 28) (by first | (go_simp; done) | (go_simp; rfl)) ?_; intro gb110 hg w12 hbox hb; have _ := AM (Kd.R_below (rX HO108.out) hb); have _ := AM (nB BK101.out hb); have _ := AM (below_step (bX HB.out) hb); have _ := AM (hbox); have n4_ := AM ((by rw [hg]; exact (bZ (bX HB.out)) : w.heap.size ≤ gb110)); have _ := AM (lX hg BK101.out); have _ := AM (lX hg BK101.out).symm; clear HO108 BK101 HB; rename_i HO108 BK101 HB BK110 NB101_110 NB110_101; have GW110 := n4_; have GE110 := n4_; clear n4_; clear hb hbox hg; have hnb13 := NB110_101.out; have hnc13 := NB101_110.out; have hcz14 := q4 BK110.out; have hfz14 := fZ BK110.out; obtain ⟨Ao15, co15, eo15⟩ := Kd.R_slice HO108.out; subst eo15; have hcz16 := q4 BK101.out; have hfz16 := fZ BK101.out))
  refine bodyPost_ret (results_cell_row rfl _ _ gb101 28 #[.int .i64 t103, .int .i64 t104, .string t105, .slice Ao15 t106.length co15] (0, 0) _ rfl (by refine kP (cs := #[.int .i64 t103, .int .i64 t104, .string t105, .slice none 0 0]) 3 ?_; refine kP (cs := #[.int .i64 t103, .int .i64 t104, .string (⟨#[]⟩ : ByteArray), .slice none 0 0]) 2 ?_; refine kP (cs := #[.int .i64 t103, .int .i64 0, .string (⟨#[]⟩ : ByteArray), .slice none 0 0]) 1 ?_; refine kP (cs := #[.int .i64 0, .int .i64 0, .string (⟨#[]⟩ : ByteArray), .slice none 0 0]) 0 ?_; (iterate 4 refine kF NB101_110.out ?_); (with_reducible repeat (first | apply kN | apply kD | apply kA)); exact BK101.out) Try.underlying28 rfl (by kernel_rfl)) rfl ?_
  exact ⟨_, by first | rfl | (simp [*, errW_none, errW_some] <;> rfl), by (with_reducible repeat (first | apply rA | apply rN | apply rD)); exact Kd.R_mono (Kd.R_far (p := ⟨gb101, 3, none⟩) (Kd.R_far (p := ⟨gb101, 2, none⟩) (Kd.R_far (p := ⟨gb101, 1, none⟩) (Kd.R_far (p := ⟨gb101, 0, none⟩) (Kd.R_far (p := ⟨gb110, 3, none⟩) (Kd.R_far (p := ⟨gb110, 2, none⟩) (Kd.R_far (p := ⟨gb110, 1, none⟩) (Kd.R_far (p := ⟨gb110, 0, none⟩) (Kd.R_types (Kd.R_types HO108.out BK110.out (by decide)) BK101.out (by decide)) (fun _ hk => hk.1.2) (.int .i64 t103)) (fun _ hk => hk.1.2) (.int .i64 t104)) (fun _ hk => hk.1.2) (.string t105)) (fun _ hk => hk.1.2) (.slice Ao15 t106.length co15)) (fun _ hk => hk.2) (.int .i64 t103)) (fun _ hk => hk.2) (.int .i64 t104)) (fun _ hk => hk.2) (.string t105)) (fun _ hk => hk.2) (.slice Ao15 t106.length co15)) (fun _ hk => trivial), bX HB.out⟩
 replace c7 := Bool.eq_false_iff.mpr c7
 subst c7
 have H1 : (some (0, 0, (⟨#[]⟩ : ByteArray), ([] : List Int))) = some (r1, r2, r3, r4) := by rw [if_neg (show ¬ (false = true) by decide)] at H; exact H
 clear H
 have H := H1
 clear H1
 simp only [Option.some.injEq, Prod.mk.injEq] at H
 obtain ⟨rfl, rfl, rfl, rfl⟩ := H
 go_enter Try.func10, Try.ntmps10
 go_wp2_with (first | ((with_reducible refine gate_dst (N := 4) rfl ?_); refine box_event (by rfl) (N := 4) (by rfl) (cs := #[.int .i64 0, .int .i64 0, .string (⟨#[]⟩ : ByteArray), .slice none 0 0]) (t := 28) (by first | (go_simp; done) | (go_simp; rfl)) ?_; intro gb101 hg w17 hbox hb; have _ := AM (below_step (bX HB.out) hb); have _ := AM (hbox); have n2_ := AM ((by rw [hg]; exact (bZ (bX HB.out)) : w.heap.size ≤ gb101)); clear HB; rename_i HB BK101; have GW101 := n2_; have GE101 := n2_; clear n2_; clear hb hbox hg) | (go_at_call 27; (with_reducible refine (spec_VotesRight.calls k _ _ l0 false _ ?side1 ?side2 A6.out).mono ?_); (case side1 => repeat (first | exact (cB HR0.out HB.out) | (with_reducible first | apply cA | apply cN | apply cD))); (case side2 => exact HC0.out); rintro e w18 ⟨rfl, hb⟩; have _ := AM (nB BK101.out hb); have _ := AM (below_step (bX HB.out) hb); clear BK101 HB; rename_i BK101 HB; (try clear hb); (try clear hk); have hcz19 := q4 BK101.out; have hfz19 := fZ BK101.out))
 refine bodyPost_ret (results_cell_row rfl _ _ gb101 28 #[.int .i64 0, .int .i64 0, .string (⟨#[]⟩ : ByteArray), .slice none 0 0] (0, 0) _ rfl (by refine kP (cs := #[.int .i64 0, .int .i64 0, .string (⟨#[]⟩ : ByteArray), .slice none 0 0]) 3 ?_; refine kP (cs := #[.int .i64 0, .int .i64 0, .string (⟨#[]⟩ : ByteArray), .slice none 0 0]) 2 ?_; refine kP (cs := #[.int .i64 0, .int .i64 0, .string (⟨#[]⟩ : ByteArray), .slice none 0 0]) 1 ?_; refine kP (cs := #[.int .i64 0, .int .i64 0, .string (⟨#[]⟩ : ByteArray), .slice none 0 0]) 0 ?_; (with_reducible repeat (first | apply kN | apply kD | apply kA)); exact BK101.out) Try.underlying28 rfl (by kernel_rfl)) rfl ?_
 exact ⟨_, by first | rfl | (simp [*, errW_none, errW_some] <;> rfl), by first | exact Kd.R_nil _ _ _ _ _ | exact Kd.N_nil _ _ _ _ _ | exact Kd.V_nil _ _ _ _ _ | exact Kd.Q_nil _ _ _ _ _ | exact Kd.S_nil _ _ _ _ _, bX HB.out⟩

/-! ### impl_decided: function 29 -/

mutual
def impl_decided.l0 : Nat → List (S45) → Int → Int → Option (ByteArray × Bool)
  | 0, _, _, _ => none
  | k + 1, x0, x1, x9 => if x9 < 8 then ((impl_opsOf.f k x0 3 x9 x1).bind fun t101 => (impl_decided.l1 k x0 x1 x9 x9 t101 (t101.length : Int) 0)) else (some ((⟨#[]⟩ : ByteArray), false))
def impl_decided.l1 : Nat → List (S45) → Int → Int → Int → List ByteArray → Int → Int → Option (ByteArray × Bool)
  | 0, _, _, _, _, _, _, _ => none
  | k + 1, x0, x1, x6, x9, x15, x16, x17 => if x17 < x16 then (if 0 ≤ x17 then (if x17 < (x15.length : Int) then ((impl_voters.f k x0 3 x6 x1 (rdOf ByteArray.empty x15 x17)).bind fun t105 => (if (t105.length : Int) ≥ 3 then (some (rdOf ByteArray.empty x15 x17, true)) else (impl_decided.l1 k x0 x1 x6 x9 x15 x16 (wrap64 (x17 + 1))))) else (none)) else (none)) else (impl_decided.l0 k x0 x1 (wrap64 (x9 + 1)))
end
def impl_decided.f (k : Nat) (l0 : List (S45)) (a1 : Int) : Option (ByteArray × Bool) := impl_decided.l0 k l0 a1 0
theorem impl_decided.mono_l : ∀ k, (∀ y0 y1 y2, LeO (impl_decided.l0 k y0 y1 y2) (impl_decided.l0 (k + 1) y0 y1 y2)) ∧ (∀ y0 y1 y2 y3 y4 y5 y6, LeO (impl_decided.l1 k y0 y1 y2 y3 y4 y5 y6) (impl_decided.l1 (k + 1) y0 y1 y2 y3 y4 y5 y6))
  | 0 => ⟨fun _ _ _ r h => by simp [impl_decided.l0] at h, fun _ _ _ _ _ _ _ r h => by simp [impl_decided.l1] at h⟩
  | k + 1 => by
    obtain ⟨ih0, ih1⟩ := impl_decided.mono_l k
    refine ⟨?_, ?_⟩
    · intro y0 y1 y2
      unfold impl_decided.l0
      repeat' first
      | (with_reducible exact ih0 _ _ _)
      | (with_reducible exact ih1 _ _ _ _ _ _ _)
      | (with_reducible exact impl_opsOf.mono _ _ _ _ _)
      | (with_reducible exact impl_voters.mono _ _ _ _ _ _)
      | (with_reducible exact LeO.refl _)
      | (with_reducible exact LeO.none _)
      | (with_reducible refine LeO.ite ?_ ?_)
      | (with_reducible refine LeO.bind ?_ (fun _ => ?_))
      | exact ih0 _ _ _
      | exact ih1 _ _ _ _ _ _ _
      | exact impl_opsOf.mono _ _ _ _ _
      | exact impl_voters.mono _ _ _ _ _ _
      | exact LeO.none _
      | refine LeO.ite ?_ ?_
      | refine LeO.bind ?_ (fun _ => ?_)
    · intro y0 y1 y2 y3 y4 y5 y6
      unfold impl_decided.l1
      repeat' first
      | (with_reducible exact ih0 _ _ _)
      | (with_reducible exact ih1 _ _ _ _ _ _ _)
      | (with_reducible exact impl_opsOf.mono _ _ _ _ _)
      | (with_reducible exact impl_voters.mono _ _ _ _ _ _)
      | (with_reducible exact LeO.refl _)
      | (with_reducible exact LeO.none _)
      | (with_reducible refine LeO.ite ?_ ?_)
      | (with_reducible refine LeO.bind ?_ (fun _ => ?_))
      | exact ih0 _ _ _
      | exact ih1 _ _ _ _ _ _ _
      | exact impl_opsOf.mono _ _ _ _ _
      | exact impl_voters.mono _ _ _ _ _ _
      | exact LeO.none _
      | refine LeO.ite ?_ ?_
      | refine LeO.bind ?_ (fun _ => ?_)
theorem impl_decided.mono : ∀ a0 a1 k, LeO (impl_decided.f k a0 a1) (impl_decided.f (k + 1) a0 a1) := by
  intro a0 a1 k
  obtain ⟨ih0, ih1⟩ := impl_decided.mono_l k
  unfold impl_decided.f
  repeat' first
      | (with_reducible exact ih0 _ _ _)
      | (with_reducible exact ih1 _ _ _ _ _ _ _)
      | (with_reducible exact impl_opsOf.mono _ _ _ _ _)
      | (with_reducible exact impl_voters.mono _ _ _ _ _ _)
      | (with_reducible exact LeO.refl _)
      | (with_reducible exact LeO.none _)
      | (with_reducible refine LeO.ite ?_ ?_)
      | (with_reducible refine LeO.bind ?_ (fun _ => ?_))
      | exact ih0 _ _ _
      | exact ih1 _ _ _ _ _ _ _
      | exact impl_opsOf.mono _ _ _ _ _
      | exact impl_voters.mono _ _ _ _ _ _
      | exact LeO.none _
      | refine LeO.ite ?_ ?_
      | refine LeO.bind ?_ (fun _ => ?_)
set_option maxHeartbeats 60000000 in
set_option maxRecDepth 100000 in
theorem impl_decided.calls (k : Nat) (A0 : Option Addr) (c0 : Nat) (l0 : List (S45)) (a1 : Int) (r1 : ByteArray) (r2 : Bool) (w : World) (hr0 : Kd.C k45 w A0 l0.length l0) (hc0 : l0.length ≤ c0) (h : impl_decided.f k l0 a1 = some (r1, r2)) :
    Calls Try.prog 29 #[.slice A0 l0.length c0, .int .i64 a1] w fun e w' => e = .returned (.tuple #[.string r1, .bool r2]) ∧ Below w.heap.size w w' := by
 have HR0 := AM hr0
 have HC0 := AM hc0
 clear hr0 hc0
 have HB := AM (Below.refl w.heap.size w)
 have H : (impl_decided.l0 k l0 a1 0) = some (r1, r2) := h
 clear h
 have H' := AM H
 clear H
 go_enter Try.func29, Try.ntmps29
 go_wp2
 go_loopg [9] k (fun kq v9 w' => ∃ (x9_1 : Int), v9 = .int .i64 x9_1 ∧ Aside0 (impl_decided.l0 kq l0 a1 x9_1 = some (r1, r2)) ∧ Aside0 (kq ≤ k) ∧ Aside0 (Below w.heap.size w w'))
 case atStart => exact ⟨(0), (by first | rfl | (simp; done) | (simp [*]; done)), H', ⟨Nat.le_refl _⟩, ⟨bX HB.out⟩⟩
 case round =>
  clear H'
  (try clear c2); (try clear p2)
  obtain ⟨x9_1, rfl, HA, HK1, HB⟩ := hrel
  cases gk with
  | zero => exact absurd HA.out (by simp [impl_decided.l0])
  | succ k1 =>
   have H := HA.out
   clear HA
   simp only [impl_decided.l0] at H
   by_cases c3 : x9_1 < 8
   ·
    rw [if_pos c3] at H
    have c3b0 : decide (x9_1 < 8) = true := decide_eq_true c3
    clear c3
    replace H := Option.bind_eq_some_iff.mp H
    obtain ⟨t101, A40, H⟩ := H
    replace H : (impl_decided.l1 k1 l0 a1 x9_1 x9_1 t101 (t101.length : Int) 0) = some (r1, r2) := H
    have A4 := AM A40
    clear A40
    have H' := AM H
    clear H
    go_wp2_with (first | ((with_reducible refine gate_callee (f := 45) rfl ?_); refine goesL_ (some 15) rfl rfl Try.func45 (by kernel_rfl) rfl #[.slice A0 l0.length c0, .int .i64 3, .int .i64 x9_1, .int .i64 a1] rfl (by (try simp only [mA, mB, mC]); first | done | rfl | (simp only [mD, mE]; rfl)) ?_; (with_reducible refine (impl_opsOf.calls k1 _ _ l0 3 x9_1 a1 t101 _ ?side1 ?side2 A4.out).mono ?_); (case side1 => repeat (first | exact (cB HR0.out HB.out) | (with_reducible first | apply cA | apply cN | apply cD))); (case side2 => exact HC0.out); rintro e w5 ⟨v102, rfl, ho0, hb⟩; refine ⟨_, rfl, ?_⟩; have _ := AM (Kd.R_lower ho0 (bZ (bX HB.out))); have _ := AM (below_step (bX HB.out) hb); clear HB; rename_i HO103 HB; (try clear hb); (try clear hk); (try clear ho0); obtain ⟨Ao6, co6, eo6⟩ := Kd.R_slice HO103.out; subst eo6))
    go_loopg [17] k1 (fun kq v17 w' => ∃ (x17_2 : Int), v17 = .int .i64 x17_2 ∧ Aside0 (impl_decided.l1 kq l0 a1 x9_1 x9_1 t101 (t101.length : Int) x17_2 = some (r1, r2)) ∧ Aside0 (kq ≤ k1) ∧ Aside0 (Kd.R Kd.string 9 w' w.heap.size (fun _ => True) (.slice Ao6 t101.length co6) t101) ∧ Aside0 (Below w.heap.size w w'))
    case atStart => exact ⟨(0), (by first | rfl | (simp; done) | (simp [*]; done)), H', ⟨Nat.le_refl _⟩, ⟨rX HO103.out⟩, ⟨bX HB.out⟩⟩
    case round =>
     clear H'
     (try clear c2); (try clear p2); (try clear c3); (try clear c3b0); (try clear c4)
     obtain ⟨x17_2, rfl, HA, HK2, HO_15, HB⟩ := hrel
     cases gk with
     | zero => exact absurd HA.out (by simp [impl_decided.l1])
     | succ k2 =>
      have H := HA.out
      clear HA
      simp only [impl_decided.l1] at H
      by_cases c7 : x17_2 < (t101.length : Int)
      ·
       rw [if_pos c7] at H
       have c7b0 : decide (x17_2 < (t101.length : Int)) = true := decide_eq_true c7
       clear c7
       by_cases c8 : 0 ≤ x17_2
       ·
        rw [if_pos c8] at H
        have c8b0 : decide (0 ≤ x17_2) = true := decide_eq_true c8
        clear c8
        by_cases c9 : x17_2 < (t101.length : Int)
        ·
         rw [if_pos c9] at H
         have c9b0 : decide (x17_2 < (t101.length : Int)) = true := decide_eq_true c9
         clear c9
         replace H := Option.bind_eq_some_iff.mp H
         obtain ⟨t105, A100, H⟩ := H
         replace H : (if (t105.length : Int) ≥ 3 then (some (rdOf ByteArray.empty t101 x17_2, true)) else (impl_decided.l1 k2 l0 a1 x9_1 x9_1 t101 (t101.length : Int) (wrap64 (x17_2 + 1)))) = some (r1, r2) := H
         have A10 := AM A100
         clear A100
         by_cases c11 : (t105.length : Int) ≥ 3
         ·
          rw [if_pos c11] at H
          have c11b0 : decide (3 ≤ (t105.length : Int)) = true := decide_eq_true c11
          have c11b1 : decide (3 ≤ t105.length) = true := decide_eq_true (by omega)
          clear c11
          simp only [Option.some.injEq, Prod.mk.injEq] at H
          obtain ⟨rfl, rfl⟩ := H
          have p104 : 0 ≤ (x17_2 : Int) := of_decide_eq_true (by assumption)
          have q104 : x17_2 < (t101.length : Int) := of_decide_eq_true (by assumption)
          obtain ⟨ad104, e104, hx104_0⟩ := Kd.at_string (Kd.R_reads' HO_15.out).2.2 x17_2 p104 q104
          cases e104
          replace p104 := eq_true p104
          replace q104 := eq_true q104
          go_wp2_with (first | ((with_reducible refine gate_callee (f := 40) rfl ?_); refine goesL_ (some 25) rfl rfl Try.func40 (by kernel_rfl) rfl #[.slice A0 l0.length c0, .int .i64 3, .int .i64 x9_1, .int .i64 a1, .string (rdOf ByteArray.empty t101 x17_2)] rfl (by (try simp only [mA, mB, mC]); first | done | rfl | (simp only [mD, mE]; rfl)) ?_; (with_reducible refine (impl_voters.calls k2 _ _ l0 3 x9_1 a1 (rdOf ByteArray.empty t101 x17_2) t105 _ ?side1 ?side2 A10.out).mono ?_); (case side1 => repeat (first | exact (cB HR0.out HB.out) | (with_reducible first | apply cA | apply cN | apply cD))); (case side2 => exact HC0.out); rintro e w12 ⟨v106, rfl, ho0, hb⟩; refine ⟨_, rfl, ?_⟩; have _ := AM (Kd.R_below (rX HO_15.out) hb); have _ := AM (Kd.R_lower ho0 (bZ (bX HB.out))); have _ := AM (below_step (bX HB.out) hb); clear HO_15 HB; rename_i HO_15 HO107 HB; (try clear hb); (try clear hk); (try clear ho0); obtain ⟨Ao13, co13, eo13⟩ := Kd.R_slice HO107.out; subst eo13))
          go_ret2
          exact ⟨by first | rfl | (simp [*, errW_none, errW_some] <;> rfl), bX HB.out⟩
         rw [if_neg c11] at H
         have c11b0 : decide (3 ≤ (t105.length : Int)) = false := decide_eq_false c11
         have c11b1 : decide (3 ≤ t105.length) = false := decide_eq_false (by omega)
         clear c11
         have H' := AM H
         clear H
         have p104 : 0 ≤ (x17_2 : Int) := of_decide_eq_true (by assumption)
         have q104 : x17_2 < (t101.length : Int) := of_decide_eq_true (by assumption)
         obtain ⟨ad104, e104, hx104_0⟩ := Kd.at_string (Kd.R_reads' HO_15.out).2.2 x17_2 p104 q104
         cases e104
         replace p104 := eq_true p104
         replace q104 := eq_true q104
         go_wp2_with (first | ((with_reducible refine gate_callee (f := 40) rfl ?_); refine goesL_ (some 25) rfl rfl Try.func40 (by kernel_rfl) rfl #[.slice A0 l0.length c0, .int .i64 3, .int .i64 x9_1, .int .i64 a1, .string (rdOf ByteArray.empty t101 x17_2)] rfl (by (try simp only [mA, mB, mC]); first | done | rfl | (simp only [mD, mE]; rfl)) ?_; (with_reducible refine (impl_voters.calls k2 _ _ l0 3 x9_1 a1 (rdOf ByteArray.empty t101 x17_2) t105 _ ?side1 ?side2 A10.out).mono ?_); (case side1 => repeat (first | exact (cB HR0.out HB.out) | (with_reducible first | apply cA | apply cN | apply cD))); (case side2 => exact HC0.out); rintro e w14 ⟨v106, rfl, ho0, hb⟩; refine ⟨_, rfl, ?_⟩; have _ := AM (Kd.R_below (rX HO_15.out) hb); have _ := AM (Kd.R_lower ho0 (bZ (bX HB.out))); have _ := AM (below_step (bX HB.out) hb); clear HO_15 HB; rename_i HO_15 HO107 HB; (try clear hb); (try clear hk); (try clear ho0); obtain ⟨Ao15, co15, eo15⟩ := Kd.R_slice HO107.out; subst eo15))
         go_roundg k2
         case measure => have := HK1.out; have := HK2.out; omega
         case rel => exact ⟨(wrap64 (x17_2 + 1)), (by first | rfl | (simp; done) | (simp [*]; done)), H', ⟨by have := HK1.out; have := HK2.out; omega⟩, ⟨rX HO_15.out⟩, ⟨bX HB.out⟩⟩
        rw [if_neg c9] at H
        exact absurd H (by simp)
       rw [if_neg c8] at H
       exact absurd H (by simp)
      rw [if_neg c7] at H
      have c7b0 : decide (x17_2 < (t101.length : Int)) = false := decide_eq_false c7
      clear c7
      have H' := AM H
      clear H
      go_wp2
      go_roundg k2
      case measure => have := HK1.out; have := HK2.out; omega
      case rel => exact ⟨(wrap64 (x9_1 + 1)), (by first | rfl | (simp; done) | (simp [*]; done)), H', ⟨by have := HK1.out; have := HK2.out; omega⟩, ⟨bX HB.out⟩⟩
   rw [if_neg c3] at H
   have c3b0 : decide (x9_1 < 8) = false := decide_eq_false c3
   clear c3
   simp only [Option.some.injEq, Prod.mk.injEq] at H
   obtain ⟨rfl, rfl⟩ := H
   go_wp2
   go_ret2
   exact ⟨by first | rfl | (simp [*, errW_none, errW_some] <;> rfl), bX HB.out⟩

/-! ### impl_Decided: function 11 -/

def impl_Decided.f (k : Nat) (l0 : List (S45)) (a1 : Int) : Option (Bool) := (impl_areVotes.f k l0).bind fun t101 => (if t101 = true then ((impl_decided.f k l0 a1).bind fun bt102 => (some bt102.2)) else (some false))
theorem impl_Decided.mono : ∀ a0 a1 k, LeO (impl_Decided.f k a0 a1) (impl_Decided.f (k + 1) a0 a1) := by
  intro a0 a1 k
  unfold impl_Decided.f
  repeat' first
      | (with_reducible exact impl_areVotes.mono _ _)
      | (with_reducible exact impl_decided.mono _ _ _)
      | (with_reducible exact LeO.refl _)
      | (with_reducible exact LeO.none _)
      | (with_reducible refine LeO.ite ?_ ?_)
      | (with_reducible refine LeO.bind ?_ (fun _ => ?_))
      | exact impl_areVotes.mono _ _
      | exact impl_decided.mono _ _ _
      | exact LeO.none _
      | refine LeO.ite ?_ ?_
      | refine LeO.bind ?_ (fun _ => ?_)
set_option maxHeartbeats 60000000 in
set_option maxRecDepth 100000 in
theorem impl_Decided.calls (k : Nat) (A0 : Option Addr) (c0 : Nat) (l0 : List (S45)) (a1 : Int) (r : Bool) (w : World) (hr0 : Kd.C k45 w A0 l0.length l0) (hc0 : l0.length ≤ c0) (h : impl_Decided.f k l0 a1 = some r) :
    Calls Try.prog 11 #[.slice A0 l0.length c0, .int .i64 a1] w fun e w' => e = .returned (.bool r) ∧ Below w.heap.size w w' := by
 have HR0 := AM hr0
 have HC0 := AM hc0
 clear hr0 hc0
 have HB := AM (Below.refl w.heap.size w)
 have H : ((impl_areVotes.f k l0).bind fun t101 => (if t101 = true then ((impl_decided.f k l0 a1).bind fun bt102 => (some bt102.2)) else (some false))) = some r := h
 clear h
 replace H := Option.bind_eq_some_iff.mp H
 obtain ⟨t101, A30, H⟩ := H
 replace H : (if t101 = true then ((impl_decided.f k l0 a1).bind fun bt102 => (some bt102.2)) else (some false)) = some r := H
 have A3 := AM A30
 clear A30
 by_cases c4 : t101 = true
 ·
  subst c4
  have H1 : ((impl_decided.f k l0 a1).bind fun bt102 => (some bt102.2)) = some r := by rw [if_pos rfl] at H; exact H
  clear H
  have H := H1
  clear H1
  replace H := Option.bind_eq_some_iff.mp H
  obtain ⟨⟨t102, t103⟩, A50, H⟩ := H
  try dsimp only at H
  have A5 := AM A50
  clear A50
  obtain rfl := Option.some.inj H
  go_enter Try.func11, Try.ntmps11
  go_wp2_with (first | ((with_reducible refine gate_callee (f := 21) rfl ?_); refine goesL_ (some 8) rfl rfl Try.func21 (by kernel_rfl) rfl #[.slice A0 l0.length c0] rfl (by (try simp only [mA, mB, mC]); first | done | rfl | (simp only [mD, mE]; rfl)) ?_; (with_reducible refine (impl_areVotes.calls k _ _ l0 true _ ?side1 ?side2 A3.out).mono ?_); (case side1 => repeat (first | exact HR0.out | (with_reducible first | apply cA | apply cN | apply cD))); (case side2 => exact HC0.out); rintro e w6 ⟨rfl, hb⟩; refine ⟨_, rfl, ?_⟩; have _ := AM (below_step (bX HB.out) hb); clear HB; rename_i HB; (try clear hb); (try clear hk)) | ((with_reducible refine gate_callee (f := 29) rfl ?_); refine goesL_ (some 13) rfl rfl Try.func29 (by kernel_rfl) rfl #[.slice A0 l0.length c0, .int .i64 a1] rfl (by (try simp only [mA, mB, mC]); first | done | rfl | (simp only [mD, mE]; rfl)) ?_; (with_reducible refine (impl_decided.calls k _ _ l0 a1 t102 t103 _ ?side1 ?side2 A5.out).mono ?_); (case side1 => repeat (first | exact (cB HR0.out HB.out) | (with_reducible first | apply cA | apply cN | apply cD))); (case side2 => exact HC0.out); rintro e w7 ⟨rfl, hb⟩; refine ⟨_, rfl, ?_⟩; have _ := AM (below_step (bX HB.out) hb); clear HB; rename_i HB; (try clear hb); (try clear hk)))
  go_ret
  exact ⟨by first | rfl | (simp [*, errW_none, errW_some] <;> rfl), bX HB.out⟩
 replace c4 := Bool.eq_false_iff.mpr c4
 subst c4
 have H1 : (some false) = some r := by rw [if_neg (show ¬ (false = true) by decide)] at H; exact H
 clear H
 have H := H1
 clear H1
 obtain rfl := Option.some.inj H
 go_enter Try.func11, Try.ntmps11
 go_wp2_with (first | ((with_reducible refine gate_callee (f := 21) rfl ?_); refine goesL_ (some 8) rfl rfl Try.func21 (by kernel_rfl) rfl #[.slice A0 l0.length c0] rfl (by (try simp only [mA, mB, mC]); first | done | rfl | (simp only [mD, mE]; rfl)) ?_; (with_reducible refine (impl_areVotes.calls k _ _ l0 false _ ?side1 ?side2 A3.out).mono ?_); (case side1 => repeat (first | exact HR0.out | (with_reducible first | apply cA | apply cN | apply cD))); (case side2 => exact HC0.out); rintro e w8 ⟨rfl, hb⟩; refine ⟨_, rfl, ?_⟩; have _ := AM (below_step (bX HB.out) hb); clear HB; rename_i HB; (try clear hb); (try clear hk)))
 go_ret
 exact ⟨by first | rfl | (simp [*, errW_none, errW_some] <;> rfl), bX HB.out⟩

/-! ### spec_l11Decided: function 30 -/

mutual
def spec_l11Decided.l0 : Nat → List (S45) → Int → Int → Option (ByteArray × Bool)
  | 0, _, _, _ => none
  | k + 1, x0, x1, x6 => if x6 ≤ 7 then ((spec_l11Ops.f k x0 3 x6 x1).bind fun t101 => (spec_l11Decided.l1 k x0 x1 x6 t101 0)) else (some ((⟨#[]⟩ : ByteArray), false))
def spec_l11Decided.l1 : Nat → List (S45) → Int → Int → List ByteArray → Int → Option (ByteArray × Bool)
  | 0, _, _, _, _, _ => none
  | k + 1, x0, x1, x6, x7, x8 => if x8 < (x7.length : Int) then (if 0 ≤ x8 then ((spec_l11Voters.f k x0 3 x6 x1 (rdOf ByteArray.empty x7 x8)).bind fun t105 => (if (t105.length : Int) ≥ 3 then (some (rdOf ByteArray.empty x7 x8, true)) else (spec_l11Decided.l1 k x0 x1 x6 x7 (wrap64 (x8 + 1))))) else (none)) else (spec_l11Decided.l0 k x0 x1 (wrap64 (x6 + 1)))
end
def spec_l11Decided.f (k : Nat) (l0 : List (S45)) (a1 : Int) : Option (ByteArray × Bool) := spec_l11Decided.l0 k l0 a1 0
theorem spec_l11Decided.mono_l : ∀ k, (∀ y0 y1 y2, LeO (spec_l11Decided.l0 k y0 y1 y2) (spec_l11Decided.l0 (k + 1) y0 y1 y2)) ∧ (∀ y0 y1 y2 y3 y4, LeO (spec_l11Decided.l1 k y0 y1 y2 y3 y4) (spec_l11Decided.l1 (k + 1) y0 y1 y2 y3 y4))
  | 0 => ⟨fun _ _ _ r h => by simp [spec_l11Decided.l0] at h, fun _ _ _ _ _ r h => by simp [spec_l11Decided.l1] at h⟩
  | k + 1 => by
    obtain ⟨ih0, ih1⟩ := spec_l11Decided.mono_l k
    refine ⟨?_, ?_⟩
    · intro y0 y1 y2
      unfold spec_l11Decided.l0
      repeat' first
      | (with_reducible exact ih0 _ _ _)
      | (with_reducible exact ih1 _ _ _ _ _)
      | (with_reducible exact spec_l11Ops.mono _ _ _ _ _)
      | (with_reducible exact spec_l11Voters.mono _ _ _ _ _ _)
      | (with_reducible exact LeO.refl _)
      | (with_reducible exact LeO.none _)
      | (with_reducible refine LeO.ite ?_ ?_)
      | (with_reducible refine LeO.bind ?_ (fun _ => ?_))
      | exact ih0 _ _ _
      | exact ih1 _ _ _ _ _
      | exact spec_l11Ops.mono _ _ _ _ _
      | exact spec_l11Voters.mono _ _ _ _ _ _
      | exact LeO.none _
      | refine LeO.ite ?_ ?_
      | refine LeO.bind ?_ (fun _ => ?_)
    · intro y0 y1 y2 y3 y4
      unfold spec_l11Decided.l1
      repeat' first
      | (with_reducible exact ih0 _ _ _)
      | (with_reducible exact ih1 _ _ _ _ _)
      | (with_reducible exact spec_l11Ops.mono _ _ _ _ _)
      | (with_reducible exact spec_l11Voters.mono _ _ _ _ _ _)
      | (with_reducible exact LeO.refl _)
      | (with_reducible exact LeO.none _)
      | (with_reducible refine LeO.ite ?_ ?_)
      | (with_reducible refine LeO.bind ?_ (fun _ => ?_))
      | exact ih0 _ _ _
      | exact ih1 _ _ _ _ _
      | exact spec_l11Ops.mono _ _ _ _ _
      | exact spec_l11Voters.mono _ _ _ _ _ _
      | exact LeO.none _
      | refine LeO.ite ?_ ?_
      | refine LeO.bind ?_ (fun _ => ?_)
theorem spec_l11Decided.mono : ∀ a0 a1 k, LeO (spec_l11Decided.f k a0 a1) (spec_l11Decided.f (k + 1) a0 a1) := by
  intro a0 a1 k
  obtain ⟨ih0, ih1⟩ := spec_l11Decided.mono_l k
  unfold spec_l11Decided.f
  repeat' first
      | (with_reducible exact ih0 _ _ _)
      | (with_reducible exact ih1 _ _ _ _ _)
      | (with_reducible exact spec_l11Ops.mono _ _ _ _ _)
      | (with_reducible exact spec_l11Voters.mono _ _ _ _ _ _)
      | (with_reducible exact LeO.refl _)
      | (with_reducible exact LeO.none _)
      | (with_reducible refine LeO.ite ?_ ?_)
      | (with_reducible refine LeO.bind ?_ (fun _ => ?_))
      | exact ih0 _ _ _
      | exact ih1 _ _ _ _ _
      | exact spec_l11Ops.mono _ _ _ _ _
      | exact spec_l11Voters.mono _ _ _ _ _ _
      | exact LeO.none _
      | refine LeO.ite ?_ ?_
      | refine LeO.bind ?_ (fun _ => ?_)
set_option maxHeartbeats 60000000 in
set_option maxRecDepth 100000 in
theorem spec_l11Decided.calls (k : Nat) (A0 : Option Addr) (c0 : Nat) (l0 : List (S45)) (a1 : Int) (r1 : ByteArray) (r2 : Bool) (w : World) (hr0 : Kd.C k45 w A0 l0.length l0) (hc0 : l0.length ≤ c0) (h : spec_l11Decided.f k l0 a1 = some (r1, r2)) :
    Calls Try.prog 30 #[.slice A0 l0.length c0, .int .i64 a1] w fun e w' => e = .returned (.tuple #[.string r1, .bool r2]) ∧ Below w.heap.size w w' := by
 have HR0 := AM hr0
 have HC0 := AM hc0
 clear hr0 hc0
 have HB := AM (Below.refl w.heap.size w)
 have H : (spec_l11Decided.l0 k l0 a1 0) = some (r1, r2) := h
 clear h
 have H' := AM H
 clear H
 go_enter Try.func30, Try.ntmps30
 go_wp2
 go_loopg [6] k (fun kq v6 w' => ∃ (x6_1 : Int), v6 = .int .i64 x6_1 ∧ Aside0 (spec_l11Decided.l0 kq l0 a1 x6_1 = some (r1, r2)) ∧ Aside0 (kq ≤ k) ∧ Aside0 (Below w.heap.size w w'))
 case atStart => exact ⟨(0), (by first | rfl | (simp; done) | (simp [*]; done)), H', ⟨Nat.le_refl _⟩, ⟨bX HB.out⟩⟩
 case round =>
  clear H'
  try clear p2
  obtain ⟨x6_1, rfl, HA, HK1, HB⟩ := hrel
  cases gk with
  | zero => exact absurd HA.out (by simp [spec_l11Decided.l0])
  | succ k1 =>
   have H := HA.out
   clear HA
   simp only [spec_l11Decided.l0] at H
   by_cases c3 : x6_1 ≤ 7
   ·
    rw [if_pos c3] at H
    have c3b0 : decide (x6_1 ≤ 7) = true := decide_eq_true c3
    clear c3
    replace H := Option.bind_eq_some_iff.mp H
    obtain ⟨t101, A40, H⟩ := H
    replace H : (spec_l11Decided.l1 k1 l0 a1 x6_1 t101 0) = some (r1, r2) := H
    have A4 := AM A40
    clear A40
    have H' := AM H
    clear H
    go_wp2_with (first | ((with_reducible refine gate_callee (f := 46) rfl ?_); refine goesL_ (some 16) rfl rfl Try.func46 (by kernel_rfl) rfl #[.slice A0 l0.length c0, .int .i64 3, .int .i64 x6_1, .int .i64 a1] rfl (by (try simp only [mA, mB, mC]); first | done | rfl | (simp only [mD, mE]; rfl)) ?_; (with_reducible refine (spec_l11Ops.calls k1 _ _ l0 3 x6_1 a1 t101 _ ?side1 ?side2 A4.out).mono ?_); (case side1 => repeat (first | exact (cB HR0.out HB.out) | (with_reducible first | apply cA | apply cN | apply cD))); (case side2 => exact HC0.out); rintro e w5 ⟨v102, rfl, ho0, hb⟩; refine ⟨_, rfl, ?_⟩; have _ := AM (Kd.R_lower ho0 (bZ (bX HB.out))); have _ := AM (below_step (bX HB.out) hb); clear HB; rename_i HO103 HB; (try clear hb); (try clear hk); (try clear ho0)))
    go_loopg [8] k1 (fun kq v8 w' => ∃ (x8_2 : Int), v8 = .int .i64 x8_2 ∧ Aside0 (spec_l11Decided.l1 kq l0 a1 x6_1 t101 x8_2 = some (r1, r2)) ∧ Aside0 (kq ≤ k1) ∧ Aside0 (Kd.R Kd.string 9 w' w.heap.size (fun _ => True) v102 t101) ∧ Aside0 (Below w.heap.size w w'))
    case atStart => exact ⟨(0), (by first | rfl | (simp; done) | (simp [*]; done)), H', ⟨Nat.le_refl _⟩, ⟨rX HO103.out⟩, ⟨bX HB.out⟩⟩
    case round =>
     clear H'
     (try clear p2); (try clear c3); (try clear c3b0); (try clear c4)
     obtain ⟨x8_2, rfl, HA, HK2, HO_7, HB⟩ := hrel
     cases gk with
     | zero => exact absurd HA.out (by simp [spec_l11Decided.l1])
     | succ k2 =>
      have H := HA.out
      clear HA
      simp only [spec_l11Decided.l1] at H
      by_cases c6 : x8_2 < (t101.length : Int)
      ·
       rw [if_pos c6] at H
       have c6b0 : decide (x8_2 < (t101.length : Int)) = true := decide_eq_true c6
       clear c6
       by_cases c7 : 0 ≤ x8_2
       ·
        rw [if_pos c7] at H
        have c7b0 : decide (0 ≤ x8_2) = true := decide_eq_true c7
        clear c7
        replace H := Option.bind_eq_some_iff.mp H
        obtain ⟨t105, A80, H⟩ := H
        replace H : (if (t105.length : Int) ≥ 3 then (some (rdOf ByteArray.empty t101 x8_2, true)) else (spec_l11Decided.l1 k2 l0 a1 x6_1 t101 (wrap64 (x8_2 + 1)))) = some (r1, r2) := H
        have A8 := AM A80
        clear A80
        by_cases c9 : (t105.length : Int) ≥ 3
        ·
         rw [if_pos c9] at H
         have c9b0 : decide (3 ≤ (t105.length : Int)) = true := decide_eq_true c9
         have c9b1 : decide (3 ≤ t105.length) = true := decide_eq_true (by omega)
         clear c9
         simp only [Option.some.injEq, Prod.mk.injEq] at H
         obtain ⟨rfl, rfl⟩ := H
         obtain ⟨Ao10, co10, eo10⟩ := Kd.R_slice HO_7.out
         subst eo10
         have p104 : 0 ≤ (x8_2 : Int) := of_decide_eq_true (by assumption)
         have q104 : x8_2 < (t101.length : Int) := of_decide_eq_true (by assumption)
         obtain ⟨ad104, e104, hx104_0⟩ := Kd.at_string (Kd.R_reads' HO_7.out).2.2 x8_2 p104 q104
         cases e104
         replace p104 := eq_true p104
         replace q104 := eq_true q104
         go_wp2_with (first | ((with_reducible refine gate_callee (f := 35) rfl ?_); refine goesL_ (some 30) rfl rfl Try.func35 (by kernel_rfl) rfl #[.slice A0 l0.length c0, .int .i64 3, .int .i64 x6_1, .int .i64 a1, .string (rdOf ByteArray.empty t101 x8_2)] rfl (by (try simp only [mA, mB, mC]); first | done | rfl | (simp only [mD, mE]; rfl)) ?_; (with_reducible refine (spec_l11Voters.calls k2 _ _ l0 3 x6_1 a1 (rdOf ByteArray.empty t101 x8_2) t105 _ ?side1 ?side2 A8.out).mono ?_); (case side1 => repeat (first | exact (cB HR0.out HB.out) | (with_reducible first | apply cA | apply cN | apply cD))); (case side2 => exact HC0.out); rintro e w11 ⟨v106, rfl, ho0, hb⟩; refine ⟨_, rfl, ?_⟩; have _ := AM (Kd.R_below (rX HO_7.out) hb); have _ := AM (Kd.R_lower ho0 (bZ (bX HB.out))); have _ := AM (below_step (bX HB.out) hb); clear HO_7 HB; rename_i HO_7 HO107 HB; (try clear hb); (try clear hk); (try clear ho0); obtain ⟨Ao12, co12, eo12⟩ := Kd.R_slice HO107.out; subst eo12; have p108 : 0 ≤ (x8_2 : Int) := of_decide_eq_true (by assumption); have q108 : x8_2 < (t101.length : Int) := of_decide_eq_true (by assumption); obtain ⟨ad108, e108, hx108_0⟩ := Kd.at_string (Kd.R_reads' HO_7.out).2.2 x8_2 p108 q108; obtain rfl : ad104 = ad108 := (by injection e108); replace p108 := eq_true p108; replace q108 := eq_true q108))
         go_ret2
         exact ⟨by first | rfl | (simp [*, errW_none, errW_some] <;> rfl), bX HB.out⟩
        rw [if_neg c9] at H
        have c9b0 : decide (3 ≤ (t105.length : Int)) = false := decide_eq_false c9
        have c9b1 : decide (3 ≤ t105.length) = false := decide_eq_false (by omega)
        clear c9
        have H' := AM H
        clear H
        obtain ⟨Ao13, co13, eo13⟩ := Kd.R_slice HO_7.out
        subst eo13
        have p104 : 0 ≤ (x8_2 : Int) := of_decide_eq_true (by assumption)
        have q104 : x8_2 < (t101.length : Int) := of_decide_eq_true (by assumption)
        obtain ⟨ad104, e104, hx104_0⟩ := Kd.at_string (Kd.R_reads' HO_7.out).2.2 x8_2 p104 q104
        cases e104
        replace p104 := eq_true p104
        replace q104 := eq_true q104
        go_wp2_with (first | ((with_reducible refine gate_callee (f := 35) rfl ?_); refine goesL_ (some 30) rfl rfl Try.func35 (by kernel_rfl) rfl #[.slice A0 l0.length c0, .int .i64 3, .int .i64 x6_1, .int .i64 a1, .string (rdOf ByteArray.empty t101 x8_2)] rfl (by (try simp only [mA, mB, mC]); first | done | rfl | (simp only [mD, mE]; rfl)) ?_; (with_reducible refine (spec_l11Voters.calls k2 _ _ l0 3 x6_1 a1 (rdOf ByteArray.empty t101 x8_2) t105 _ ?side1 ?side2 A8.out).mono ?_); (case side1 => repeat (first | exact (cB HR0.out HB.out) | (with_reducible first | apply cA | apply cN | apply cD))); (case side2 => exact HC0.out); rintro e w14 ⟨v106, rfl, ho0, hb⟩; refine ⟨_, rfl, ?_⟩; have _ := AM (Kd.R_below (rX HO_7.out) hb); have _ := AM (Kd.R_lower ho0 (bZ (bX HB.out))); have _ := AM (below_step (bX HB.out) hb); clear HO_7 HB; rename_i HO_7 HO107 HB; (try clear hb); (try clear hk); (try clear ho0); obtain ⟨Ao15, co15, eo15⟩ := Kd.R_slice HO107.out; subst eo15))
        go_roundg k2
        case measure => have := HK1.out; have := HK2.out; omega
        case rel => exact ⟨(wrap64 (x8_2 + 1)), (by first | rfl | (simp; done) | (simp [*]; done)), H', ⟨by have := HK1.out; have := HK2.out; omega⟩, ⟨rX HO_7.out⟩, ⟨bX HB.out⟩⟩
       rw [if_neg c7] at H
       exact absurd H (by simp)
      rw [if_neg c6] at H
      have c6b0 : decide (x8_2 < (t101.length : Int)) = false := decide_eq_false c6
      clear c6
      have H' := AM H
      clear H
      obtain ⟨Ao16, co16, eo16⟩ := Kd.R_slice HO_7.out
      subst eo16
      go_wp2
      go_roundg k2
      case measure => have := HK1.out; have := HK2.out; omega
      case rel => exact ⟨(wrap64 (x6_1 + 1)), (by first | rfl | (simp; done) | (simp [*]; done)), H', ⟨by have := HK1.out; have := HK2.out; omega⟩, ⟨bX HB.out⟩⟩
   rw [if_neg c3] at H
   have c3b0 : decide (x6_1 ≤ 7) = false := decide_eq_false c3
   clear c3
   simp only [Option.some.injEq, Prod.mk.injEq] at H
   obtain ⟨rfl, rfl⟩ := H
   go_wp2
   go_ret2
   exact ⟨by first | rfl | (simp [*, errW_none, errW_some] <;> rfl), bX HB.out⟩

/-! ### spec_Decided: function 12 -/

def spec_Decided.f (k : Nat) (l0 : List (S45)) (a1 : Int) : Option (Bool) := if (l0.length : Int) > 400 then (some false) else ((spec_VotesRight.f k l0).bind fun t101 => (if t101 = true then ((spec_l11Decided.f k l0 a1).bind fun bt102 => (some bt102.2)) else (some false)))
theorem spec_Decided.mono : ∀ a0 a1 k, LeO (spec_Decided.f k a0 a1) (spec_Decided.f (k + 1) a0 a1) := by
  intro a0 a1 k
  unfold spec_Decided.f
  repeat' first
      | (with_reducible exact spec_VotesRight.mono _ _)
      | (with_reducible exact spec_l11Decided.mono _ _ _)
      | (with_reducible exact LeO.refl _)
      | (with_reducible exact LeO.none _)
      | (with_reducible refine LeO.ite ?_ ?_)
      | (with_reducible refine LeO.bind ?_ (fun _ => ?_))
      | exact spec_VotesRight.mono _ _
      | exact spec_l11Decided.mono _ _ _
      | exact LeO.none _
      | refine LeO.ite ?_ ?_
      | refine LeO.bind ?_ (fun _ => ?_)
set_option maxHeartbeats 60000000 in
set_option maxRecDepth 100000 in
theorem spec_Decided.calls (k : Nat) (A0 : Option Addr) (c0 : Nat) (l0 : List (S45)) (a1 : Int) (r : Bool) (w : World) (hr0 : Kd.C k45 w A0 l0.length l0) (hc0 : l0.length ≤ c0) (h : spec_Decided.f k l0 a1 = some r) :
    Calls Try.prog 12 #[.slice A0 l0.length c0, .int .i64 a1] w fun e w' => e = .returned (.bool r) ∧ Below w.heap.size w w' := by
 have HR0 := AM hr0
 have HC0 := AM hc0
 clear hr0 hc0
 have HB := AM (Below.refl w.heap.size w)
 have H : (if (l0.length : Int) > 400 then (some false) else ((spec_VotesRight.f k l0).bind fun t101 => (if t101 = true then ((spec_l11Decided.f k l0 a1).bind fun bt102 => (some bt102.2)) else (some false)))) = some r := h
 clear h
 by_cases c3 : (l0.length : Int) > 400
 ·
  rw [if_pos c3] at H
  have c3b0 : decide (400 < (l0.length : Int)) = true := decide_eq_true c3
  have c3b1 : decide (400 < l0.length) = true := decide_eq_true (by omega)
  clear c3
  obtain rfl := Option.some.inj H
  go_enter Try.func12, Try.ntmps12
  go_wp2
  go_ret
  exact ⟨by first | rfl | (simp [*, errW_none, errW_some] <;> rfl), bX HB.out⟩
 rw [if_neg c3] at H
 have c3b0 : decide (400 < (l0.length : Int)) = false := decide_eq_false c3
 have c3b1 : decide (400 < l0.length) = false := decide_eq_false (by omega)
 clear c3
 replace H := Option.bind_eq_some_iff.mp H
 obtain ⟨t101, A40, H⟩ := H
 replace H : (if t101 = true then ((spec_l11Decided.f k l0 a1).bind fun bt102 => (some bt102.2)) else (some false)) = some r := H
 have A4 := AM A40
 clear A40
 by_cases c5 : t101 = true
 ·
  subst c5
  have H1 : ((spec_l11Decided.f k l0 a1).bind fun bt102 => (some bt102.2)) = some r := by rw [if_pos rfl] at H; exact H
  clear H
  have H := H1
  clear H1
  replace H := Option.bind_eq_some_iff.mp H
  obtain ⟨⟨t102, t103⟩, A60, H⟩ := H
  try dsimp only at H
  have A6 := AM A60
  clear A60
  obtain rfl := Option.some.inj H
  go_enter Try.func12, Try.ntmps12
  go_wp2_with (first | (go_at_call 27; (with_reducible refine (spec_VotesRight.calls k _ _ l0 true _ ?side1 ?side2 A4.out).mono ?_); (case side1 => repeat (first | exact HR0.out | (with_reducible first | apply cA | apply cN | apply cD))); (case side2 => exact HC0.out); rintro e w7 ⟨rfl, hb⟩; have _ := AM (below_step (bX HB.out) hb); clear HB; rename_i HB; (try clear hb); (try clear hk)) | ((with_reducible refine gate_callee (f := 30) rfl ?_); refine goesL_ (some 18) rfl rfl Try.func30 (by kernel_rfl) rfl #[.slice A0 l0.length c0, .int .i64 a1] rfl (by (try simp only [mA, mB, mC]); first | done | rfl | (simp only [mD, mE]; rfl)) ?_; (with_reducible refine (spec_l11Decided.calls k _ _ l0 a1 t102 t103 _ ?side1 ?side2 A6.out).mono ?_); (case side1 => repeat (first | exact (cB HR0.out HB.out) | (with_reducible first | apply cA | apply cN | apply cD))); (case side2 => exact HC0.out); rintro e w8 ⟨rfl, hb⟩; refine ⟨_, rfl, ?_⟩; have _ := AM (below_step (bX HB.out) hb); clear HB; rename_i HB; (try clear hb); (try clear hk)))
  go_ret
  exact ⟨by first | rfl | (simp [*, errW_none, errW_some] <;> rfl), bX HB.out⟩
 replace c5 := Bool.eq_false_iff.mpr c5
 subst c5
 have H1 : (some false) = some r := by rw [if_neg (show ¬ (false = true) by decide)] at H; exact H
 clear H
 have H := H1
 clear H1
 obtain rfl := Option.some.inj H
 go_enter Try.func12, Try.ntmps12
 go_wp2_with (first | (go_at_call 27; (with_reducible refine (spec_VotesRight.calls k _ _ l0 false _ ?side1 ?side2 A4.out).mono ?_); (case side1 => repeat (first | exact HR0.out | (with_reducible first | apply cA | apply cN | apply cD))); (case side2 => exact HC0.out); rintro e w9 ⟨rfl, hb⟩; have _ := AM (below_step (bX HB.out) hb); clear HB; rename_i HB; (try clear hb); (try clear hk)))
 go_ret
 exact ⟨by first | rfl | (simp [*, errW_none, errW_some] <;> rfl), bX HB.out⟩

/-! ### impl_OpOf: function 13 -/

def impl_OpOf.f (k : Nat) (l0 : List (S45)) (a1 : Int) : Option (ByteArray) := (impl_areVotes.f k l0).bind fun t101 => (if t101 = true then ((impl_decided.f k l0 a1).bind fun bt102 => (some bt102.1)) else (some (⟨#[]⟩ : ByteArray)))
theorem impl_OpOf.mono : ∀ a0 a1 k, LeO (impl_OpOf.f k a0 a1) (impl_OpOf.f (k + 1) a0 a1) := by
  intro a0 a1 k
  unfold impl_OpOf.f
  repeat' first
      | (with_reducible exact impl_areVotes.mono _ _)
      | (with_reducible exact impl_decided.mono _ _ _)
      | (with_reducible exact LeO.refl _)
      | (with_reducible exact LeO.none _)
      | (with_reducible refine LeO.ite ?_ ?_)
      | (with_reducible refine LeO.bind ?_ (fun _ => ?_))
      | exact impl_areVotes.mono _ _
      | exact impl_decided.mono _ _ _
      | exact LeO.none _
      | refine LeO.ite ?_ ?_
      | refine LeO.bind ?_ (fun _ => ?_)
set_option maxHeartbeats 60000000 in
set_option maxRecDepth 100000 in
theorem impl_OpOf.calls (k : Nat) (A0 : Option Addr) (c0 : Nat) (l0 : List (S45)) (a1 : Int) (r : ByteArray) (w : World) (hr0 : Kd.C k45 w A0 l0.length l0) (hc0 : l0.length ≤ c0) (h : impl_OpOf.f k l0 a1 = some r) :
    Calls Try.prog 13 #[.slice A0 l0.length c0, .int .i64 a1] w fun e w' => e = .returned (.string r) ∧ Below w.heap.size w w' := by
 have HR0 := AM hr0
 have HC0 := AM hc0
 clear hr0 hc0
 have HB := AM (Below.refl w.heap.size w)
 have H : ((impl_areVotes.f k l0).bind fun t101 => (if t101 = true then ((impl_decided.f k l0 a1).bind fun bt102 => (some bt102.1)) else (some (⟨#[]⟩ : ByteArray)))) = some r := h
 clear h
 replace H := Option.bind_eq_some_iff.mp H
 obtain ⟨t101, A30, H⟩ := H
 replace H : (if t101 = true then ((impl_decided.f k l0 a1).bind fun bt102 => (some bt102.1)) else (some (⟨#[]⟩ : ByteArray))) = some r := H
 have A3 := AM A30
 clear A30
 by_cases c4 : t101 = true
 ·
  subst c4
  have H1 : ((impl_decided.f k l0 a1).bind fun bt102 => (some bt102.1)) = some r := by rw [if_pos rfl] at H; exact H
  clear H
  have H := H1
  clear H1
  replace H := Option.bind_eq_some_iff.mp H
  obtain ⟨⟨t102, t103⟩, A50, H⟩ := H
  try dsimp only at H
  have A5 := AM A50
  clear A50
  obtain rfl := Option.some.inj H
  go_enter Try.func13, Try.ntmps13
  go_wp2_with (first | ((with_reducible refine gate_callee (f := 21) rfl ?_); refine goesL_ (some 8) rfl rfl Try.func21 (by kernel_rfl) rfl #[.slice A0 l0.length c0] rfl (by (try simp only [mA, mB, mC]); first | done | rfl | (simp only [mD, mE]; rfl)) ?_; (with_reducible refine (impl_areVotes.calls k _ _ l0 true _ ?side1 ?side2 A3.out).mono ?_); (case side1 => repeat (first | exact HR0.out | (with_reducible first | apply cA | apply cN | apply cD))); (case side2 => exact HC0.out); rintro e w6 ⟨rfl, hb⟩; refine ⟨_, rfl, ?_⟩; have _ := AM (below_step (bX HB.out) hb); clear HB; rename_i HB; (try clear hb); (try clear hk)) | ((with_reducible refine gate_callee (f := 29) rfl ?_); refine goesL_ (some 13) rfl rfl Try.func29 (by kernel_rfl) rfl #[.slice A0 l0.length c0, .int .i64 a1] rfl (by (try simp only [mA, mB, mC]); first | done | rfl | (simp only [mD, mE]; rfl)) ?_; (with_reducible refine (impl_decided.calls k _ _ l0 a1 t102 t103 _ ?side1 ?side2 A5.out).mono ?_); (case side1 => repeat (first | exact (cB HR0.out HB.out) | (with_reducible first | apply cA | apply cN | apply cD))); (case side2 => exact HC0.out); rintro e w7 ⟨rfl, hb⟩; refine ⟨_, rfl, ?_⟩; have _ := AM (below_step (bX HB.out) hb); clear HB; rename_i HB; (try clear hb); (try clear hk)))
  go_ret
  exact ⟨by first | rfl | (simp [*, errW_none, errW_some] <;> rfl), bX HB.out⟩
 replace c4 := Bool.eq_false_iff.mpr c4
 subst c4
 have H1 : (some (⟨#[]⟩ : ByteArray)) = some r := by rw [if_neg (show ¬ (false = true) by decide)] at H; exact H
 clear H
 have H := H1
 clear H1
 obtain rfl := Option.some.inj H
 go_enter Try.func13, Try.ntmps13
 go_wp2_with (first | ((with_reducible refine gate_callee (f := 21) rfl ?_); refine goesL_ (some 8) rfl rfl Try.func21 (by kernel_rfl) rfl #[.slice A0 l0.length c0] rfl (by (try simp only [mA, mB, mC]); first | done | rfl | (simp only [mD, mE]; rfl)) ?_; (with_reducible refine (impl_areVotes.calls k _ _ l0 false _ ?side1 ?side2 A3.out).mono ?_); (case side1 => repeat (first | exact HR0.out | (with_reducible first | apply cA | apply cN | apply cD))); (case side2 => exact HC0.out); rintro e w8 ⟨rfl, hb⟩; refine ⟨_, rfl, ?_⟩; have _ := AM (below_step (bX HB.out) hb); clear HB; rename_i HB; (try clear hb); (try clear hk)))
 go_ret
 exact ⟨by first | rfl | (simp [*, errW_none, errW_some] <;> rfl), bX HB.out⟩

/-! ### spec_OpOf: function 14 -/

def spec_OpOf.f (k : Nat) (l0 : List (S45)) (a1 : Int) : Option (ByteArray) := if (l0.length : Int) > 400 then (some (⟨#[]⟩ : ByteArray)) else ((spec_VotesRight.f k l0).bind fun t101 => (if t101 = true then ((spec_l11Decided.f k l0 a1).bind fun bt102 => (some bt102.1)) else (some (⟨#[]⟩ : ByteArray))))
theorem spec_OpOf.mono : ∀ a0 a1 k, LeO (spec_OpOf.f k a0 a1) (spec_OpOf.f (k + 1) a0 a1) := by
  intro a0 a1 k
  unfold spec_OpOf.f
  repeat' first
      | (with_reducible exact spec_VotesRight.mono _ _)
      | (with_reducible exact spec_l11Decided.mono _ _ _)
      | (with_reducible exact LeO.refl _)
      | (with_reducible exact LeO.none _)
      | (with_reducible refine LeO.ite ?_ ?_)
      | (with_reducible refine LeO.bind ?_ (fun _ => ?_))
      | exact spec_VotesRight.mono _ _
      | exact spec_l11Decided.mono _ _ _
      | exact LeO.none _
      | refine LeO.ite ?_ ?_
      | refine LeO.bind ?_ (fun _ => ?_)
set_option maxHeartbeats 60000000 in
set_option maxRecDepth 100000 in
theorem spec_OpOf.calls (k : Nat) (A0 : Option Addr) (c0 : Nat) (l0 : List (S45)) (a1 : Int) (r : ByteArray) (w : World) (hr0 : Kd.C k45 w A0 l0.length l0) (hc0 : l0.length ≤ c0) (h : spec_OpOf.f k l0 a1 = some r) :
    Calls Try.prog 14 #[.slice A0 l0.length c0, .int .i64 a1] w fun e w' => e = .returned (.string r) ∧ Below w.heap.size w w' := by
 have HR0 := AM hr0
 have HC0 := AM hc0
 clear hr0 hc0
 have HB := AM (Below.refl w.heap.size w)
 have H : (if (l0.length : Int) > 400 then (some (⟨#[]⟩ : ByteArray)) else ((spec_VotesRight.f k l0).bind fun t101 => (if t101 = true then ((spec_l11Decided.f k l0 a1).bind fun bt102 => (some bt102.1)) else (some (⟨#[]⟩ : ByteArray))))) = some r := h
 clear h
 by_cases c3 : (l0.length : Int) > 400
 ·
  rw [if_pos c3] at H
  have c3b0 : decide (400 < (l0.length : Int)) = true := decide_eq_true c3
  have c3b1 : decide (400 < l0.length) = true := decide_eq_true (by omega)
  clear c3
  obtain rfl := Option.some.inj H
  go_enter Try.func14, Try.ntmps14
  go_wp2
  go_ret
  exact ⟨by first | rfl | (simp [*, errW_none, errW_some] <;> rfl), bX HB.out⟩
 rw [if_neg c3] at H
 have c3b0 : decide (400 < (l0.length : Int)) = false := decide_eq_false c3
 have c3b1 : decide (400 < l0.length) = false := decide_eq_false (by omega)
 clear c3
 replace H := Option.bind_eq_some_iff.mp H
 obtain ⟨t101, A40, H⟩ := H
 replace H : (if t101 = true then ((spec_l11Decided.f k l0 a1).bind fun bt102 => (some bt102.1)) else (some (⟨#[]⟩ : ByteArray))) = some r := H
 have A4 := AM A40
 clear A40
 by_cases c5 : t101 = true
 ·
  subst c5
  have H1 : ((spec_l11Decided.f k l0 a1).bind fun bt102 => (some bt102.1)) = some r := by rw [if_pos rfl] at H; exact H
  clear H
  have H := H1
  clear H1
  replace H := Option.bind_eq_some_iff.mp H
  obtain ⟨⟨t102, t103⟩, A60, H⟩ := H
  try dsimp only at H
  have A6 := AM A60
  clear A60
  obtain rfl := Option.some.inj H
  go_enter Try.func14, Try.ntmps14
  go_wp2_with (first | (go_at_call 27; (with_reducible refine (spec_VotesRight.calls k _ _ l0 true _ ?side1 ?side2 A4.out).mono ?_); (case side1 => repeat (first | exact HR0.out | (with_reducible first | apply cA | apply cN | apply cD))); (case side2 => exact HC0.out); rintro e w7 ⟨rfl, hb⟩; have _ := AM (below_step (bX HB.out) hb); clear HB; rename_i HB; (try clear hb); (try clear hk)) | ((with_reducible refine gate_callee (f := 30) rfl ?_); refine goesL_ (some 18) rfl rfl Try.func30 (by kernel_rfl) rfl #[.slice A0 l0.length c0, .int .i64 a1] rfl (by (try simp only [mA, mB, mC]); first | done | rfl | (simp only [mD, mE]; rfl)) ?_; (with_reducible refine (spec_l11Decided.calls k _ _ l0 a1 t102 t103 _ ?side1 ?side2 A6.out).mono ?_); (case side1 => repeat (first | exact (cB HR0.out HB.out) | (with_reducible first | apply cA | apply cN | apply cD))); (case side2 => exact HC0.out); rintro e w8 ⟨rfl, hb⟩; refine ⟨_, rfl, ?_⟩; have _ := AM (below_step (bX HB.out) hb); clear HB; rename_i HB; (try clear hb); (try clear hk)))
  go_ret
  exact ⟨by first | rfl | (simp [*, errW_none, errW_some] <;> rfl), bX HB.out⟩
 replace c5 := Bool.eq_false_iff.mpr c5
 subst c5
 have H1 : (some (⟨#[]⟩ : ByteArray)) = some r := by rw [if_neg (show ¬ (false = true) by decide)] at H; exact H
 clear H
 have H := H1
 clear H1
 obtain rfl := Option.some.inj H
 go_enter Try.func14, Try.ntmps14
 go_wp2_with (first | (go_at_call 27; (with_reducible refine (spec_VotesRight.calls k _ _ l0 false _ ?side1 ?side2 A4.out).mono ?_); (case side1 => repeat (first | exact HR0.out | (with_reducible first | apply cA | apply cN | apply cD))); (case side2 => exact HC0.out); rintro e w9 ⟨rfl, hb⟩; have _ := AM (below_step (bX HB.out) hb); clear HB; rename_i HB; (try clear hb); (try clear hk)))
 go_ret
 exact ⟨by first | rfl | (simp [*, errW_none, errW_some] <;> rfl), bX HB.out⟩

/-! ### spec_QuorumRight: function 34 -/

def spec_QuorumRight.l0 : Nat → List Int → Int → Option (Bool)
  | 0, _, _ => none
  | k + 1, x0, x3 => if x3 < (x0.length : Int) then (if 0 ≤ x3 then ((spec_l09Who.f (rd x0 x3)).bind fun t102 => (if t102 = true then (if x3 > 0 then (if 0 ≤ (wrap64 (x3 - 1)) then (if (wrap64 (x3 - 1)) < (x0.length : Int) then (if (rd x0 (wrap64 (x3 - 1))) ≥ (rd x0 x3) then (some false) else (spec_QuorumRight.l0 k x0 (wrap64 (x3 + 1)))) else (none)) else (none)) else (spec_QuorumRight.l0 k x0 (wrap64 (x3 + 1)))) else (some false))) else (none)) else (some (decide ((x0.length : Int) ≥ 3)))
def spec_QuorumRight.f (k : Nat) (l0 : List Int) : Option (Bool) := spec_QuorumRight.l0 k l0 0
theorem spec_QuorumRight.mono_l : ∀ k, (∀ y0 y1, LeO (spec_QuorumRight.l0 k y0 y1) (spec_QuorumRight.l0 (k + 1) y0 y1))
  | 0 => fun _ _ r h => by simp [spec_QuorumRight.l0] at h
  | k + 1 => by
    have ih0 := spec_QuorumRight.mono_l k
    · intro y0 y1
      unfold spec_QuorumRight.l0
      repeat' first
      | (with_reducible exact ih0 _ _)
      | (with_reducible exact LeO.refl _)
      | (with_reducible exact LeO.none _)
      | (with_reducible refine LeO.ite ?_ ?_)
      | (with_reducible refine LeO.bind ?_ (fun _ => ?_))
      | exact ih0 _ _
      | exact LeO.none _
      | refine LeO.ite ?_ ?_
      | refine LeO.bind ?_ (fun _ => ?_)
theorem spec_QuorumRight.mono : ∀ a0 k, LeO (spec_QuorumRight.f k a0) (spec_QuorumRight.f (k + 1) a0) := by
  intro a0 k
  have ih0 := spec_QuorumRight.mono_l k
  unfold spec_QuorumRight.f
  repeat' first
      | (with_reducible exact ih0 _ _)
      | (with_reducible exact LeO.refl _)
      | (with_reducible exact LeO.none _)
      | (with_reducible refine LeO.ite ?_ ?_)
      | (with_reducible refine LeO.bind ?_ (fun _ => ?_))
      | exact ih0 _ _
      | exact LeO.none _
      | refine LeO.ite ?_ ?_
      | refine LeO.bind ?_ (fun _ => ?_)
set_option maxHeartbeats 60000000 in
set_option maxRecDepth 100000 in
theorem spec_QuorumRight.calls (k : Nat) (A0 : Option Addr) (c0 : Nat) (l0 : List Int) (r : Bool) (w : World) (hr0 : Kd.C (Kd.int .i64) w A0 l0.length l0) (hc0 : l0.length ≤ c0) (h : spec_QuorumRight.f k l0 = some r) :
    Calls Try.prog 34 #[.slice A0 l0.length c0] w fun e w' => e = .returned (.bool r) ∧ Drawn0 w w' := by
 have HR0 := AM hr0
 have HC0 := AM hc0
 clear hr0 hc0
 have H : (spec_QuorumRight.l0 k l0 0) = some r := h
 clear h
 have H' := AM H
 clear H
 go_enter Try.func34, Try.ntmps34
 go_wp2
 repeat (go_quiet (fail); try go_wp2)
 go_loopg [3] k (fun kq v3 w' => ∃ (x3_1 : Int), v3 = .int .i64 x3_1 ∧ Aside0 (spec_QuorumRight.l0 kq l0 x3_1 = some r) ∧ Aside0 (kq ≤ k) ∧ Drawn0 w w')
 case atStart => exact ⟨(0), (by first | rfl | (simp; done) | (simp [*]; done)), H', ⟨Nat.le_refl _⟩, by repeat (first | exact Drawn0.refl _ | apply Drawn0.step)⟩
 case round =>
  clear H'
  obtain ⟨x3_1, rfl, HA, HK1, ⟨m1, rfl⟩⟩ := hrel
  cases gk with
  | zero => exact absurd HA.out (by simp [spec_QuorumRight.l0])
  | succ k1 =>
   have H := HA.out
   clear HA
   simp only [spec_QuorumRight.l0] at H
   by_cases c2 : x3_1 < (l0.length : Int)
   ·
    rw [if_pos c2] at H
    have c2b0 : decide (x3_1 < (l0.length : Int)) = true := decide_eq_true c2
    clear c2
    by_cases c3 : 0 ≤ x3_1
    ·
     rw [if_pos c3] at H
     have c3b0 : decide (0 ≤ x3_1) = true := decide_eq_true c3
     clear c3
     replace H := Option.bind_eq_some_iff.mp H
     obtain ⟨t102, A40, H⟩ := H
     replace H : (if t102 = true then (if x3_1 > 0 then (if 0 ≤ (wrap64 (x3_1 - 1)) then (if (wrap64 (x3_1 - 1)) < (l0.length : Int) then (if (rd l0 (wrap64 (x3_1 - 1))) ≥ (rd l0 x3_1) then (some false) else (spec_QuorumRight.l0 k1 l0 (wrap64 (x3_1 + 1)))) else (none)) else (none)) else (spec_QuorumRight.l0 k1 l0 (wrap64 (x3_1 + 1)))) else (some false)) = some r := H
     have A4 := AM A40
     clear A40
     by_cases c5 : t102 = true
     ·
      subst c5
      have H1 : (if x3_1 > 0 then (if 0 ≤ (wrap64 (x3_1 - 1)) then (if (wrap64 (x3_1 - 1)) < (l0.length : Int) then (if (rd l0 (wrap64 (x3_1 - 1))) ≥ (rd l0 x3_1) then (some false) else (spec_QuorumRight.l0 k1 l0 (wrap64 (x3_1 + 1)))) else (none)) else (none)) else (spec_QuorumRight.l0 k1 l0 (wrap64 (x3_1 + 1)))) = some r := by rw [if_pos rfl] at H; exact H
      clear H
      have H := H1
      clear H1
      by_cases c6 : x3_1 > 0
      ·
       rw [if_pos c6] at H
       have c6b0 : decide (0 < x3_1) = true := decide_eq_true c6
       clear c6
       obtain ⟨ji7, hji7⟩ : ∃ j_ : Int, (wrap64 (x3_1 - 1)) = j_ := ⟨_, rfl⟩
       replace H : (if 0 ≤ (ji7) then (if (ji7) < (l0.length : Int) then (if (rd l0 (ji7)) ≥ (rd l0 x3_1) then (some false) else (spec_QuorumRight.l0 k1 l0 (wrap64 (x3_1 + 1)))) else (none)) else (none)) = some r := by first | (rw [hji7] at H; exact H) | (simp only [hji7] at H ⊢; exact H)
       (try rw [hji7] at A4)
       have hji7w : (IntKind.i64.wrap (x3_1 - 1)) = ji7 := (i64_w _).trans hji7
       by_cases c8 : 0 ≤ (ji7)
       ·
        rw [if_pos c8] at H
        have c8b0 : decide (0 ≤ (ji7)) = true := decide_eq_true c8
        clear c8
        by_cases c9 : (ji7) < (l0.length : Int)
        ·
         rw [if_pos c9] at H
         have c9b0 : decide ((ji7) < (l0.length : Int)) = true := decide_eq_true c9
         clear c9
         by_cases c10 : (rd l0 (ji7)) ≥ (rd l0 x3_1)
         ·
          rw [if_pos c10] at H
          have c10b0 : decide ((rd l0 x3_1) ≤ (rd l0 (ji7))) = true := decide_eq_true c10
          clear c10
          obtain rfl := Option.some.inj H
          have p101 : 0 ≤ (x3_1 : Int) := of_decide_eq_true (by assumption)
          have q101 : x3_1 < (l0.length : Int) := of_decide_eq_true (by assumption)
          obtain ⟨ad101, e101, hx101_0⟩ := Kd.at_int HR0.out x3_1 p101 q101
          cases e101
          replace p101 := eq_true p101
          replace q101 := eq_true q101
          go_wp2_with (first | (go_at_call 48; (with_reducible refine (spec_l09Who.calls (rd l0 x3_1) true _ A4.out).mono ?_); rintro e w' ⟨rfl, ⟨nd, rfl⟩⟩; (try first | exact ⟨rfl, _, dD⟩ | exact ⟨rfl, _, dA⟩)))
          have p103 : 0 ≤ ((ji7) : Int) := of_decide_eq_true (by assumption)
          have q103 : (ji7) < (l0.length : Int) := of_decide_eq_true (by assumption)
          obtain ⟨ad103, e103, hx103_0⟩ := Kd.at_int HR0.out (ji7) p103 q103
          obtain rfl : ad101 = ad103 := (by injection e103)
          replace p103 := eq_true p103
          replace q103 := eq_true q103
          have p104 : 0 ≤ (x3_1 : Int) := of_decide_eq_true (by assumption)
          have q104 : x3_1 < (l0.length : Int) := of_decide_eq_true (by assumption)
          obtain ⟨ad104, e104, hx104_0⟩ := Kd.at_int HR0.out x3_1 p104 q104
          obtain rfl : ad101 = ad104 := (by injection e104)
          replace p104 := eq_true p104
          replace q104 := eq_true q104
          repeat (go_quiet (first | (go_at_call 48; (with_reducible refine (spec_l09Who.calls (rd l0 x3_1) true _ A4.out).mono ?_); rintro e w' ⟨rfl, ⟨nd, rfl⟩⟩; (try first | exact ⟨rfl, _, dD⟩ | exact ⟨rfl, _, dA⟩))); try go_wp2_with (first | (go_at_call 48; (with_reducible refine (spec_l09Who.calls (rd l0 x3_1) true _ A4.out).mono ?_); rintro e w' ⟨rfl, ⟨nd, rfl⟩⟩; (try first | exact ⟨rfl, _, dD⟩ | exact ⟨rfl, _, dA⟩))))
          go_ret
          exact ⟨by first | rfl | (simp; done) | (simp only [← hji7] <;> (first | rfl | simp)) | (simp [*]; done), by repeat (first | exact Drawn0.refl _ | apply Drawn0.step)⟩
         rw [if_neg c10] at H
         have c10b0 : decide ((rd l0 x3_1) ≤ (rd l0 (ji7))) = false := decide_eq_false c10
         clear c10
         have H' := AM H
         clear H
         have p101 : 0 ≤ (x3_1 : Int) := of_decide_eq_true (by assumption)
         have q101 : x3_1 < (l0.length : Int) := of_decide_eq_true (by assumption)
         obtain ⟨ad101, e101, hx101_0⟩ := Kd.at_int HR0.out x3_1 p101 q101
         cases e101
         replace p101 := eq_true p101
         replace q101 := eq_true q101
         go_wp2_with (first | (go_at_call 48; (with_reducible refine (spec_l09Who.calls (rd l0 x3_1) true _ A4.out).mono ?_); rintro e w' ⟨rfl, ⟨nd, rfl⟩⟩; (try first | exact ⟨rfl, _, dD⟩ | exact ⟨rfl, _, dA⟩)))
         have p103 : 0 ≤ ((ji7) : Int) := of_decide_eq_true (by assumption)
         have q103 : (ji7) < (l0.length : Int) := of_decide_eq_true (by assumption)
         obtain ⟨ad103, e103, hx103_0⟩ := Kd.at_int HR0.out (ji7) p103 q103
         obtain rfl : ad101 = ad103 := (by injection e103)
         replace p103 := eq_true p103
         replace q103 := eq_true q103
         have p104 : 0 ≤ (x3_1 : Int) := of_decide_eq_true (by assumption)
         have q104 : x3_1 < (l0.length : Int) := of_decide_eq_true (by assumption)
         obtain ⟨ad104, e104, hx104_0⟩ := Kd.at_int HR0.out x3_1 p104 q104
         obtain rfl : ad101 = ad104 := (by injection e104)
         replace p104 := eq_true p104
         replace q104 := eq_true q104
         repeat (go_quiet (first | (go_at_call 48; (with_reducible refine (spec_l09Who.calls (rd l0 x3_1) true _ A4.out).mono ?_); rintro e w' ⟨rfl, ⟨nd, rfl⟩⟩; (try first | exact ⟨rfl, _, dD⟩ | exact ⟨rfl, _, dA⟩))); try go_wp2_with (first | (go_at_call 48; (with_reducible refine (spec_l09Who.calls (rd l0 x3_1) true _ A4.out).mono ?_); rintro e w' ⟨rfl, ⟨nd, rfl⟩⟩; (try first | exact ⟨rfl, _, dD⟩ | exact ⟨rfl, _, dA⟩))))
         go_roundg k1
         case measure => have := HK1.out; omega
         case rel => exact ⟨(wrap64 (x3_1 + 1)), (by first | rfl | (simp; done) | (simp [*]; done)), H', ⟨by have := HK1.out; omega⟩, by repeat (first | exact Drawn0.refl _ | apply Drawn0.step)⟩
        rw [if_neg c9] at H
        exact absurd H (by simp)
       rw [if_neg c8] at H
       exact absurd H (by simp)
      rw [if_neg c6] at H
      have c6b0 : decide (0 < x3_1) = false := decide_eq_false c6
      clear c6
      have H' := AM H
      clear H
      have p101 : 0 ≤ (x3_1 : Int) := of_decide_eq_true (by assumption)
      have q101 : x3_1 < (l0.length : Int) := of_decide_eq_true (by assumption)
      obtain ⟨ad101, e101, hx101_0⟩ := Kd.at_int HR0.out x3_1 p101 q101
      cases e101
      replace p101 := eq_true p101
      replace q101 := eq_true q101
      go_wp2_with (first | (go_at_call 48; (with_reducible refine (spec_l09Who.calls (rd l0 x3_1) true _ A4.out).mono ?_); rintro e w' ⟨rfl, ⟨nd, rfl⟩⟩; (try first | exact ⟨rfl, _, dD⟩ | exact ⟨rfl, _, dA⟩)))
      repeat (go_quiet (first | (go_at_call 48; (with_reducible refine (spec_l09Who.calls (rd l0 x3_1) true _ A4.out).mono ?_); rintro e w' ⟨rfl, ⟨nd, rfl⟩⟩; (try first | exact ⟨rfl, _, dD⟩ | exact ⟨rfl, _, dA⟩))); try go_wp2_with (first | (go_at_call 48; (with_reducible refine (spec_l09Who.calls (rd l0 x3_1) true _ A4.out).mono ?_); rintro e w' ⟨rfl, ⟨nd, rfl⟩⟩; (try first | exact ⟨rfl, _, dD⟩ | exact ⟨rfl, _, dA⟩))))
      go_roundg k1
      case measure => have := HK1.out; omega
      case rel => exact ⟨(wrap64 (x3_1 + 1)), (by first | rfl | (simp; done) | (simp [*]; done)), H', ⟨by have := HK1.out; omega⟩, by repeat (first | exact Drawn0.refl _ | apply Drawn0.step)⟩
     replace c5 := Bool.eq_false_iff.mpr c5
     subst c5
     have H1 : (some false) = some r := by rw [if_neg (show ¬ (false = true) by decide)] at H; exact H
     clear H
     have H := H1
     clear H1
     obtain rfl := Option.some.inj H
     have p101 : 0 ≤ (x3_1 : Int) := of_decide_eq_true (by assumption)
     have q101 : x3_1 < (l0.length : Int) := of_decide_eq_true (by assumption)
     obtain ⟨ad101, e101, hx101_0⟩ := Kd.at_int HR0.out x3_1 p101 q101
     cases e101
     replace p101 := eq_true p101
     replace q101 := eq_true q101
     go_wp2_with (first | (go_at_call 48; (with_reducible refine (spec_l09Who.calls (rd l0 x3_1) false _ A4.out).mono ?_); rintro e w' ⟨rfl, ⟨nd, rfl⟩⟩; (try first | exact ⟨rfl, _, dD⟩ | exact ⟨rfl, _, dA⟩)))
     repeat (go_quiet (first | (go_at_call 48; (with_reducible refine (spec_l09Who.calls (rd l0 x3_1) false _ A4.out).mono ?_); rintro e w' ⟨rfl, ⟨nd, rfl⟩⟩; (try first | exact ⟨rfl, _, dD⟩ | exact ⟨rfl, _, dA⟩))); try go_wp2_with (first | (go_at_call 48; (with_reducible refine (spec_l09Who.calls (rd l0 x3_1) false _ A4.out).mono ?_); rintro e w' ⟨rfl, ⟨nd, rfl⟩⟩; (try first | exact ⟨rfl, _, dD⟩ | exact ⟨rfl, _, dA⟩))))
     go_ret
     exact ⟨by first | rfl | (simp; done) | (simp [*]; done), by repeat (first | exact Drawn0.refl _ | apply Drawn0.step)⟩
    rw [if_neg c3] at H
    exact absurd H (by simp)
   rw [if_neg c2] at H
   have c2b0 : decide (x3_1 < (l0.length : Int)) = false := decide_eq_false c2
   clear c2
   obtain rfl := Option.some.inj H
   go_wp2
   repeat (go_quiet (fail); try go_wp2)
   go_ret
   exact ⟨by first | rfl | (simp; done) | (simp [*]; done), by repeat (first | exact Drawn0.refl _ | apply Drawn0.step)⟩

/-! ### spec_ProofRight: function 15 -/

def spec_ProofRight.f (k : Nat) (a0_0 : Int) (a0_1 : Int) (a0_2 : ByteArray) (l0_3 : List Int) : Option (Bool) := (spec_l10View.f a0_0).bind fun t102 => (if t102 = true then ((spec_l10Seq.f a0_1).bind fun t103 => (if t103 = true then ((spec_OpRight.f a0_2).bind fun t104 => (if t104 = true then ((spec_QuorumRight.f k l0_3).bind fun t105 => (some t105)) else (some false))) else (some false))) else (some false))
theorem spec_ProofRight.mono : ∀ a0 a1 a2 a3 k, LeO (spec_ProofRight.f k a0 a1 a2 a3) (spec_ProofRight.f (k + 1) a0 a1 a2 a3) := by
  intro a0 a1 a2 a3 k
  unfold spec_ProofRight.f
  repeat' first
      | (with_reducible exact spec_QuorumRight.mono _ _)
      | (with_reducible exact LeO.refl _)
      | (with_reducible exact LeO.none _)
      | (with_reducible refine LeO.ite ?_ ?_)
      | (with_reducible refine LeO.bind ?_ (fun _ => ?_))
      | exact spec_QuorumRight.mono _ _
      | exact LeO.none _
      | refine LeO.ite ?_ ?_
      | refine LeO.bind ?_ (fun _ => ?_)
set_option maxHeartbeats 60000000 in
set_option maxRecDepth 100000 in
theorem spec_ProofRight.calls (k : Nat) (a0_0 : Int) (a0_1 : Int) (a0_2 : ByteArray) (A0_3 : Option Addr) (c0_3 : Nat) (l0_3 : List Int) (r : Bool) (w : World) (hr0_3 : Kd.C (Kd.int .i64) w A0_3 l0_3.length l0_3) (hc0_3 : l0_3.length ≤ c0_3) (h : spec_ProofRight.f k a0_0 a0_1 a0_2 l0_3 = some r) :
    Calls Try.prog 15 #[.agg #[.int .i64 a0_0, .int .i64 a0_1, .string a0_2, .slice A0_3 l0_3.length c0_3]] w fun e w' => e = .returned (.bool r) ∧ Below w.heap.size w w' := by
 have hu28 := Try.underlying28
 have HR0_3 := AM hr0_3
 have HC0_3 := AM hc0_3
 clear hr0_3 hc0_3
 have HB := AM (Below.refl w.heap.size w)
 have H : ((spec_l10View.f a0_0).bind fun t102 => (if t102 = true then ((spec_l10Seq.f a0_1).bind fun t103 => (if t103 = true then ((spec_OpRight.f a0_2).bind fun t104 => (if t104 = true then ((spec_QuorumRight.f k l0_3).bind fun t105 => (some t105)) else (some false))) else (some false))) else (some false))) = some r := h
 clear h
 replace H := Option.bind_eq_some_iff.mp H
 obtain ⟨t102, A20, H⟩ := H
 replace H : (if t102 = true then ((spec_l10Seq.f a0_1).bind fun t103 => (if t103 = true then ((spec_OpRight.f a0_2).bind fun t104 => (if t104 = true then ((spec_QuorumRight.f k l0_3).bind fun t105 => (some t105)) else (some false))) else (some false))) else (some false)) = some r := H
 have A2 := AM A20
 clear A20
 by_cases c3 : t102 = true
 ·
  subst c3
  have H1 : ((spec_l10Seq.f a0_1).bind fun t103 => (if t103 = true then ((spec_OpRight.f a0_2).bind fun t104 => (if t104 = true then ((spec_QuorumRight.f k l0_3).bind fun t105 => (some t105)) else (some false))) else (some false))) = some r := by rw [if_pos rfl] at H; exact H
  clear H
  have H := H1
  clear H1
  replace H := Option.bind_eq_some_iff.mp H
  obtain ⟨t103, A40, H⟩ := H
  replace H : (if t103 = true then ((spec_OpRight.f a0_2).bind fun t104 => (if t104 = true then ((spec_QuorumRight.f k l0_3).bind fun t105 => (some t105)) else (some false))) else (some false)) = some r := H
  have A4 := AM A40
  clear A40
  by_cases c5 : t103 = true
  ·
   subst c5
   have H1 : ((spec_OpRight.f a0_2).bind fun t104 => (if t104 = true then ((spec_QuorumRight.f k l0_3).bind fun t105 => (some t105)) else (some false))) = some r := by rw [if_pos rfl] at H; exact H
   clear H
   have H := H1
   clear H1
   replace H := Option.bind_eq_some_iff.mp H
   obtain ⟨t104, A60, H⟩ := H
   replace H : (if t104 = true then ((spec_QuorumRight.f k l0_3).bind fun t105 => (some t105)) else (some false)) = some r := H
   have A6 := AM A60
   clear A60
   by_cases c7 : t104 = true
   ·
    subst c7
    have H1 : ((spec_QuorumRight.f k l0_3).bind fun t105 => (some t105)) = some r := by rw [if_pos rfl] at H; exact H
    clear H
    have H := H1
    clear H1
    replace H := Option.bind_eq_some_iff.mp H
    obtain ⟨t105, A80, H⟩ := H
    replace H : (some t105) = some r := H
    have A8 := AM A80
    clear A80
    obtain rfl := Option.some.inj H
    go_enter Try.func15, Try.ntmps15
    go_wp2_with (first | ((with_reducible refine gate_dst (N := 1) rfl ?_); refine box_event (by rfl) (N := 1) (by rfl) (cs := #[.int .i64 a0_0, .int .i64 a0_1, .string a0_2, .slice A0_3 l0_3.length c0_3]) (t := 28) (by first | (go_simp; done) | (go_simp; rfl)) ?_; intro gb101 hg w9 hbox hb; have _ := AM (below_step (bX HB.out) hb); have _ := AM (hbox); have n2_ := AM ((by rw [hg]; exact (bZ (bX HB.out)) : w.heap.size ≤ gb101)); clear HB; rename_i HB BK101; have GW101 := n2_; have GE101 := n2_; clear n2_; clear hb hbox hg; have hcz10 := q4 BK101.out; have hfz10 := fZ BK101.out) | ((with_reducible refine gate_callee (f := 31) rfl ?_); refine goesL_ (some 5) rfl rfl Try.func31 (by kernel_rfl) rfl #[.int .i64 a0_0] rfl (by (try simp only [mA, mB, mC]); first | done | rfl | (simp only [mD, mE]; rfl)) ?_; (with_reducible refine (spec_l10View.calls a0_0 true _ A2.out).mono ?_); rintro e w' ⟨rfl, ⟨nd, rfl⟩⟩; refine ⟨_, rfl, ?_⟩) | (go_at_call 32; (with_reducible refine (spec_l10Seq.calls a0_1 true _ A4.out).mono ?_); rintro e w' ⟨rfl, ⟨nd, rfl⟩⟩) | (go_at_call 33; (with_reducible refine (spec_OpRight.calls a0_2 true _ A6.out).mono ?_); rintro e w' ⟨rfl, ⟨nd, rfl⟩⟩) | (go_at_call 34; (with_reducible refine (spec_QuorumRight.calls k _ _ l0_3 t105 _ ?side1 ?side2 A8.out).mono ?_); (case side1 => repeat (first | exact (cB HR0_3.out (bX HB.out)) | (with_reducible first | apply cA | apply cN | apply cD))); (case side2 => exact HC0_3.out); rintro e w' ⟨rfl, ⟨nd, rfl⟩⟩))
    go_ret
    exact ⟨by first | rfl | (simp [*, errW_none, errW_some] <;> rfl), bX HB.out⟩
   replace c7 := Bool.eq_false_iff.mpr c7
   subst c7
   have H1 : (some false) = some r := by rw [if_neg (show ¬ (false = true) by decide)] at H; exact H
   clear H
   have H := H1
   clear H1
   obtain rfl := Option.some.inj H
   go_enter Try.func15, Try.ntmps15
   go_wp2_with (first | ((with_reducible refine gate_dst (N := 1) rfl ?_); refine box_event (by rfl) (N := 1) (by rfl) (cs := #[.int .i64 a0_0, .int .i64 a0_1, .string a0_2, .slice A0_3 l0_3.length c0_3]) (t := 28) (by first | (go_simp; done) | (go_simp; rfl)) ?_; intro gb101 hg w11 hbox hb; have _ := AM (below_step (bX HB.out) hb); have _ := AM (hbox); have n2_ := AM ((by rw [hg]; exact (bZ (bX HB.out)) : w.heap.size ≤ gb101)); clear HB; rename_i HB BK101; have GW101 := n2_; have GE101 := n2_; clear n2_; clear hb hbox hg; have hcz12 := q4 BK101.out; have hfz12 := fZ BK101.out) | ((with_reducible refine gate_callee (f := 31) rfl ?_); refine goesL_ (some 5) rfl rfl Try.func31 (by kernel_rfl) rfl #[.int .i64 a0_0] rfl (by (try simp only [mA, mB, mC]); first | done | rfl | (simp only [mD, mE]; rfl)) ?_; (with_reducible refine (spec_l10View.calls a0_0 true _ A2.out).mono ?_); rintro e w' ⟨rfl, ⟨nd, rfl⟩⟩; refine ⟨_, rfl, ?_⟩) | (go_at_call 32; (with_reducible refine (spec_l10Seq.calls a0_1 true _ A4.out).mono ?_); rintro e w' ⟨rfl, ⟨nd, rfl⟩⟩) | (go_at_call 33; (with_reducible refine (spec_OpRight.calls a0_2 false _ A6.out).mono ?_); rintro e w' ⟨rfl, ⟨nd, rfl⟩⟩))
   go_ret
   exact ⟨by first | rfl | (simp [*, errW_none, errW_some] <;> rfl), bX HB.out⟩
  replace c5 := Bool.eq_false_iff.mpr c5
  subst c5
  have H1 : (some false) = some r := by rw [if_neg (show ¬ (false = true) by decide)] at H; exact H
  clear H
  have H := H1
  clear H1
  obtain rfl := Option.some.inj H
  go_enter Try.func15, Try.ntmps15
  go_wp2_with (first | ((with_reducible refine gate_dst (N := 1) rfl ?_); refine box_event (by rfl) (N := 1) (by rfl) (cs := #[.int .i64 a0_0, .int .i64 a0_1, .string a0_2, .slice A0_3 l0_3.length c0_3]) (t := 28) (by first | (go_simp; done) | (go_simp; rfl)) ?_; intro gb101 hg w13 hbox hb; have _ := AM (below_step (bX HB.out) hb); have _ := AM (hbox); have n2_ := AM ((by rw [hg]; exact (bZ (bX HB.out)) : w.heap.size ≤ gb101)); clear HB; rename_i HB BK101; have GW101 := n2_; have GE101 := n2_; clear n2_; clear hb hbox hg; have hcz14 := q4 BK101.out; have hfz14 := fZ BK101.out) | ((with_reducible refine gate_callee (f := 31) rfl ?_); refine goesL_ (some 5) rfl rfl Try.func31 (by kernel_rfl) rfl #[.int .i64 a0_0] rfl (by (try simp only [mA, mB, mC]); first | done | rfl | (simp only [mD, mE]; rfl)) ?_; (with_reducible refine (spec_l10View.calls a0_0 true _ A2.out).mono ?_); rintro e w' ⟨rfl, ⟨nd, rfl⟩⟩; refine ⟨_, rfl, ?_⟩) | (go_at_call 32; (with_reducible refine (spec_l10Seq.calls a0_1 false _ A4.out).mono ?_); rintro e w' ⟨rfl, ⟨nd, rfl⟩⟩))
  go_ret
  exact ⟨by first | rfl | (simp [*, errW_none, errW_some] <;> rfl), bX HB.out⟩
 replace c3 := Bool.eq_false_iff.mpr c3
 subst c3
 have H1 : (some false) = some r := by rw [if_neg (show ¬ (false = true) by decide)] at H; exact H
 clear H
 have H := H1
 clear H1
 obtain rfl := Option.some.inj H
 go_enter Try.func15, Try.ntmps15
 go_wp2_with (first | ((with_reducible refine gate_dst (N := 1) rfl ?_); refine box_event (by rfl) (N := 1) (by rfl) (cs := #[.int .i64 a0_0, .int .i64 a0_1, .string a0_2, .slice A0_3 l0_3.length c0_3]) (t := 28) (by first | (go_simp; done) | (go_simp; rfl)) ?_; intro gb101 hg w15 hbox hb; have _ := AM (below_step (bX HB.out) hb); have _ := AM (hbox); have n2_ := AM ((by rw [hg]; exact (bZ (bX HB.out)) : w.heap.size ≤ gb101)); clear HB; rename_i HB BK101; have GW101 := n2_; have GE101 := n2_; clear n2_; clear hb hbox hg; have hcz16 := q4 BK101.out; have hfz16 := fZ BK101.out) | ((with_reducible refine gate_callee (f := 31) rfl ?_); refine goesL_ (some 5) rfl rfl Try.func31 (by kernel_rfl) rfl #[.int .i64 a0_0] rfl (by (try simp only [mA, mB, mC]); first | done | rfl | (simp only [mD, mE]; rfl)) ?_; (with_reducible refine (spec_l10View.calls a0_0 false _ A2.out).mono ?_); rintro e w' ⟨rfl, ⟨nd, rfl⟩⟩; refine ⟨_, rfl, ?_⟩))
 go_ret
 exact ⟨by first | rfl | (simp [*, errW_none, errW_some] <;> rfl), bX HB.out⟩

end Go.Proofs.Ytbaacdlocoajeaa.Q
