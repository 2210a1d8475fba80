/- Printed by a program of this session (wip/mp.py over the kit's print.py): functions of the translation as plain Lean functions, and that the machine's calls do what these say. -/
import Derived.Test.YtcnilcipcnjmjaaQx0
import Derived.Test.YtcnilcipcnjmjaaQx2
import Derived.Test.YtcnilcipcnjmjaaQx3
namespace Go.Proofs.Ytcnilcipcnjmjaa.Q
open Go.RowKit Go.Proofs.Ytcnilcipcnjmjaa.HB Go.Proofs.YtcnilcipcnjmjaaW.PrintWords Go.Proofs.YtcnilcipcnjmjaaW.PrintLast Go.Proofs.YtcnilcipcnjmjaaW.PrintMore
attribute [local go_sem] max2_int min2_int max_two min_two max_three min_three max_four min_four   -- for this text's walks alone
set_option linter.unusedVariables false
set_option linter.unusedSimpArgs false

/-! ### spec_l07Ill: function 28 -/

def spec_l07Ill.f (a0 : Int) : Option (ByteArray × Int × List ByteArray × (List (S36)) × List ByteArray × Int × Int) := some ((⟨#[]⟩ : ByteArray), 0, ([] : List ByteArray), ([] : List (S36)), ([] : List ByteArray), 0, a0)
set_option maxHeartbeats 60000000 in
set_option maxRecDepth 100000 in
theorem spec_l07Ill.calls (a0 : Int) (r1 : ByteArray) (r2 : Int) (r3 : List ByteArray) (r4 : List (S36)) (r5 : List ByteArray) (r6 : Int) (r7 : Int) (w : World) (h : spec_l07Ill.f a0 = some (r1, r2, r3, r4, r5, r6, r7)) :
    Calls Try.prog 28 #[.int .i64 a0] w fun e w' => ∃ v2_ v3_ v4_ : Value, e = .returned (.agg #[.string r1, .int .i64 r2, v2_, v3_, v4_, .int .i64 r6, .int .i64 r7]) ∧ Kd.R Kd.string 9 w' w.heap.size (fun k_ => some k_ ≠ (v4_ : Value).ownBlock) v2_ r3 ∧ Kd.R k36 36 w' w.heap.size (fun _ => True) v3_ r4 ∧ Kd.R Kd.string 9 w' w.heap.size (fun k_ => some k_ ≠ (v2_ : Value).ownBlock) v4_ r5 ∧ Below w.heap.size w w' := by
 have hu30 := Try.underlying30
 have HB := AM (Below.refl w.heap.size w)
 have H : (some ((⟨#[]⟩ : ByteArray), 0, ([] : List ByteArray), ([] : List (S36)), ([] : List ByteArray), 0, a0)) = some (r1, r2, r3, r4, r5, r6, r7) := h
 clear h
 simp only [Option.some.injEq, Prod.mk.injEq] at H
 obtain ⟨rfl, rfl, rfl, rfl, rfl, rfl, rfl⟩ := H
 go_enter Try.func28, Try.ntmps28
 go_wp2_with (first | ((with_reducible refine gate_dst (N := 2) rfl ?_); refine box_event (by rfl) (N := 2) (by rfl) (cs := #[.string (⟨#[]⟩ : ByteArray), .int .i64 0, .slice none 0 0, .slice none 0 0, .slice none 0 0, .int .i64 0, .int .i64 0]) (t := 30) (by first | (go_simp; done) | (go_simp; rfl)) ?_; intro gb101 hg w2 hbox hb; have _ := AM (below_step (bX HB.out) hb); have _ := AM (hbox); have n2_ := AM ((by rw [hg]; exact (bZ (bX HB.out)) : w.heap.size ≤ gb101)); clear HB; rename_i HB BK101; have GW101 := n2_; have GE101 := n2_; clear n2_; clear hb hbox hg; have hcz3 := q7 BK101.out; have hfz3 := fZ BK101.out))
 refine bodyPost_ret (results_cell_row rfl _ _ gb101 30 #[.string (⟨#[]⟩ : ByteArray), .int .i64 0, .slice none 0 0, .slice none 0 0, .slice none 0 0, .int .i64 0, .int .i64 a0] (0, 0) _ rfl (by refine kP (cs := #[.string (⟨#[]⟩ : ByteArray), .int .i64 0, .slice none 0 0, .slice none 0 0, .slice none 0 0, .int .i64 0, .int .i64 0]) 6 ?_; refine kP (cs := #[.string (⟨#[]⟩ : ByteArray), .int .i64 0, .slice none 0 0, .slice none 0 0, .slice none 0 0, .int .i64 0, .int .i64 0]) 5 ?_; refine kP (cs := #[.string (⟨#[]⟩ : ByteArray), .int .i64 0, .slice none 0 0, .slice none 0 0, .slice none 0 0, .int .i64 0, .int .i64 0]) 4 ?_; refine kP (cs := #[.string (⟨#[]⟩ : ByteArray), .int .i64 0, .slice none 0 0, .slice none 0 0, .slice none 0 0, .int .i64 0, .int .i64 0]) 3 ?_; refine kP (cs := #[.string (⟨#[]⟩ : ByteArray), .int .i64 0, .slice none 0 0, .slice none 0 0, .slice none 0 0, .int .i64 0, .int .i64 0]) 2 ?_; refine kP (cs := #[.string (⟨#[]⟩ : ByteArray), .int .i64 0, .slice none 0 0, .slice none 0 0, .slice none 0 0, .int .i64 0, .int .i64 0]) 1 ?_; refine kP (cs := #[.string (⟨#[]⟩ : ByteArray), .int .i64 0, .slice none 0 0, .slice none 0 0, .slice none 0 0, .int .i64 0, .int .i64 0]) 0 ?_; (with_reducible repeat (first | apply kN | apply kD | apply kA)); exact BK101.out) Try.underlying30 rfl (by kernel_rfl)) rfl ?_
 exact ⟨_, _, _, by first | rfl | (simp [*, errW_none, errW_some] <;> rfl), by first | exact Kd.R_nil _ _ _ _ _ | exact Kd.N_nil _ _ _ _ _ | exact Kd.V_nil _ _ _ _ _ | exact Kd.Q_nil _ _ _ _ _ | exact Kd.S_nil _ _ _ _ _, by first | exact Kd.R_nil _ _ _ _ _ | exact Kd.N_nil _ _ _ _ _ | exact Kd.V_nil _ _ _ _ _ | exact Kd.Q_nil _ _ _ _ _ | exact Kd.S_nil _ _ _ _ _, by first | exact Kd.R_nil _ _ _ _ _ | exact Kd.N_nil _ _ _ _ _ | exact Kd.V_nil _ _ _ _ _ | exact Kd.Q_nil _ _ _ _ _ | exact Kd.S_nil _ _ _ _ _, bX HB.out⟩

/-! ### spec_l01Max: function 29 -/

def spec_l01Max.f (a0 : Int) (a1 : Int) : Option (Int) := if a0 > a1 then (some a0) else (some a1)
set_option maxHeartbeats 60000000 in
set_option maxRecDepth 100000 in
theorem spec_l01Max.calls (a0 : Int) (a1 : Int) (r : Int) (w : World) (h : spec_l01Max.f a0 a1 = some r) :
    Calls Try.prog 29 #[.int .i64 a0, .int .i64 a1] w fun e w' => e = .returned (.int .i64 r) ∧ Drawn0 w w' := by
 have H : (if a0 > a1 then (some a0) else (some a1)) = some r := h
 clear h
 by_cases c3 : a0 > a1
 ·
  rw [if_pos c3] at H
  have c3b0 : decide (a1 < a0) = true := decide_eq_true c3
  clear c3
  obtain rfl := Option.some.inj H
  go_enter Try.func29, Try.ntmps29
  go_wp2
  go_ret
  exact ⟨by first | rfl | (simp; done) | (simp [*]; done), by repeat (first | exact Drawn0.refl _ | apply Drawn0.step)⟩
 rw [if_neg c3] at H
 have c3b0 : decide (a1 < a0) = false := decide_eq_false c3
 clear c3
 obtain rfl := Option.some.inj H
 go_enter Try.func29, Try.ntmps29
 go_wp2
 go_ret
 exact ⟨by first | rfl | (simp; done) | (simp [*]; done), by repeat (first | exact Drawn0.refl _ | apply Drawn0.step)⟩

/-! ### spec_l07Copy: function 30 -/

def spec_l07Copy.f (a0_0 : ByteArray) (a0_1 : Int) (l0_2 : List ByteArray) (l0_3 : List (S36)) : Option (ByteArray × Int × List ByteArray × (List (S36))) := (some (([] : List ByteArray) : List ByteArray)).bind fun y103 => (if y103.length + l0_2.length < 8796093022208 then ((some (([] : List (S36)) : List (S36))).bind fun y109 => (if y109.length + l0_3.length < 5864062014805 then (some (a0_0, a0_1, (y103 ++ l0_2), (y109 ++ l0_3))) else (none))) else (none))
set_option maxHeartbeats 60000000 in
set_option maxRecDepth 100000 in
theorem spec_l07Copy.calls (a0_0 : ByteArray) (a0_1 : Int) (A0_2 : Option Addr) (c0_2 : Nat) (l0_2 : List ByteArray) (A0_3 : Option Addr) (c0_3 : Nat) (l0_3 : List (S36)) (r1 : ByteArray) (r2 : Int) (r3 : List ByteArray) (r4 : List (S36)) (w : World) (hr0_2 : Kd.C Kd.string w A0_2 l0_2.length l0_2) (hc0_2 : l0_2.length ≤ c0_2) (hr0_3 : Kd.C k36 w A0_3 l0_3.length l0_3) (hc0_3 : l0_3.length ≤ c0_3) (h : spec_l07Copy.f a0_0 a0_1 l0_2 l0_3 = some (r1, r2, r3, r4)) :
    Calls Try.prog 30 #[.agg #[.string a0_0, .int .i64 a0_1, .slice A0_2 l0_2.length c0_2, .slice A0_3 l0_3.length c0_3]] w fun e w' => ∃ v2_ v3_ : Value, e = .returned (.agg #[.string r1, .int .i64 r2, v2_, v3_]) ∧ Kd.R Kd.string 9 w' w.heap.size (fun _ => True) v2_ r3 ∧ Kd.R k36 36 w' w.heap.size (fun _ => True) v3_ r4 ∧ Below w.heap.size w w' := by
 have hu26 := Try.underlying26
 have HR0_2 := AM hr0_2
 have HC0_2 := AM hc0_2
 clear hr0_2 hc0_2
 have HR0_3 := AM hr0_3
 have HC0_3 := AM hc0_3
 clear hr0_3 hc0_3
 have HB := AM (Below.refl w.heap.size w)
 have H : ((some (([] : List ByteArray) : List ByteArray)).bind fun y103 => (if y103.length + l0_2.length < 8796093022208 then ((some (([] : List (S36)) : List (S36))).bind fun y109 => (if y109.length + l0_3.length < 5864062014805 then (some (a0_0, a0_1, (y103 ++ l0_2), (y109 ++ l0_3))) else (none))) else (none))) = some (r1, r2, r3, r4) := h
 clear h
 obtain ⟨y103, hy103⟩ : ∃ y_ : List ByteArray, y_ = (([] : List ByteArray)) := ⟨_, rfl⟩
 replace H : (if y103.length + l0_2.length < 8796093022208 then ((some (([] : List (S36)) : List (S36))).bind fun y109 => (if y109.length + l0_3.length < 5864062014805 then (some (a0_0, a0_1, (y103 ++ l0_2), (y109 ++ l0_3))) else (none))) else (none)) = some (r1, r2, r3, r4) := by first | (rw [hy103]; with_reducible exact H) | (have H2_ := (Option.bind_some _ _).symm.trans H; rw [hy103]; with_reducible exact H2_) | (have H2_ := (Option.bind_some _ _).symm.trans H; with_reducible exact H2_) | with_reducible exact H | (rw [hy103]; exact H) | exact H
 have Ny103 := AM hy103
 clear hy103
 by_cases c2 : y103.length + l0_2.length < 8796093022208
 ·
  rw [if_pos c2] at H
  have LMc2 := AM c2
  clear c2
  obtain ⟨y106, hy106⟩ : ∃ y_ : List ByteArray, y_ = (y103 ++ l0_2) := ⟨_, rfl⟩
  replace H : ((some (([] : List (S36)) : List (S36))).bind fun y109 => (if y109.length + l0_3.length < 5864062014805 then (some (a0_0, a0_1, y106, (y109 ++ l0_3))) else (none))) = some (r1, r2, r3, r4) := by first | (rw [hy106]; with_reducible exact H) | (have H2_ := (Option.bind_some _ _).symm.trans H; rw [hy106]; with_reducible exact H2_) | (have H2_ := (Option.bind_some _ _).symm.trans H; with_reducible exact H2_) | with_reducible exact H | (rw [hy106]; exact H) | exact H
  have Ny106 := AM hy106
  clear hy106
  obtain ⟨y109, hy109⟩ : ∃ y_ : List (S36), y_ = (([] : List (S36))) := ⟨_, rfl⟩
  replace H : (if y109.length + l0_3.length < 5864062014805 then (some (a0_0, a0_1, y106, (y109 ++ l0_3))) else (none)) = some (r1, r2, r3, r4) := by first | (rw [hy109]; with_reducible exact H) | (have H2_ := (Option.bind_some _ _).symm.trans H; rw [hy109]; with_reducible exact H2_) | (have H2_ := (Option.bind_some _ _).symm.trans H; with_reducible exact H2_) | with_reducible exact H | (rw [hy109]; exact H) | exact H
  have Ny109 := AM hy109
  clear hy109
  by_cases c3 : y109.length + l0_3.length < 5864062014805
  ·
   rw [if_pos c3] at H
   have LMc3 := AM c3
   clear c3
   obtain ⟨y112, hy112⟩ : ∃ y_ : List (S36), y_ = (y109 ++ l0_3) := ⟨_, rfl⟩
   replace H : (some (a0_0, a0_1, y106, y112)) = some (r1, r2, r3, r4) := by first | (rw [hy112]; with_reducible exact H) | (have H2_ := (Option.bind_some _ _).symm.trans H; rw [hy112]; with_reducible exact H2_) | (have H2_ := (Option.bind_some _ _).symm.trans H; with_reducible exact H2_) | with_reducible exact H | (rw [hy112]; exact H) | exact H
   have Ny112 := AM hy112
   clear hy112
   simp only [Option.some.injEq, Prod.mk.injEq] at H
   obtain ⟨rfl, rfl, rfl, rfl⟩ := H
   go_enter Try.func30, Try.ntmps30
   go_wp2_with (first | ((with_reducible refine gate_dst (N := 1) rfl ?_); refine box_event (by rfl) (N := 1) (by rfl) (cs := #[.string a0_0, .int .i64 a0_1, .slice A0_2 l0_2.length c0_2, .slice A0_3 l0_3.length c0_3]) (t := 26) (by first | (go_simp; done) | (go_simp; rfl)) ?_; intro gb101 hg w4 hbox hb; have _ := AM (below_step (bX HB.out) hb); have _ := AM (hbox); have n2_ := AM ((by rw [hg]; exact (bZ (bX HB.out)) : w.heap.size ≤ gb101)); clear HB; rename_i HB BK101; have GW101 := n2_; have GE101 := n2_; clear n2_; clear hb hbox hg) | ((with_reducible refine gate_dst (N := 2) rfl ?_); refine box_event (by rfl) (N := 2) (by rfl) (cs := #[.string (⟨#[]⟩ : ByteArray), .int .i64 0, .slice none 0 0, .slice none 0 0]) (t := 26) (by first | (go_simp; done) | (go_simp; rfl)) ?_; intro gb102 hg w5 hbox hb; have _ := AM (nB BK101.out hb); have _ := AM (below_step (bX HB.out) hb); have _ := AM (hbox); have n3_ := AM ((by rw [hg]; exact (bZ (bX HB.out)) : w.heap.size ≤ gb102)); have _ := AM (lX hg BK101.out); have _ := AM (lX hg BK101.out).symm; clear BK101 HB; rename_i BK101 HB BK102 NB101_102 NB102_101; have GW102 := n3_; have GE102 := n3_; clear n3_; clear hb hbox hg) | ((with_reducible refine gate_dst (N := 3) rfl ?_); refine Kd.R_lit Kd.string _ 9 ?hg (N := 3) ?hd (xs := ([] : List ByteArray)) (inner := []) (ok := fun _ => True) (okp := fun _ => True) ?hr ?hp (fun _ hk => hk) trivial (Below.refl _ _) (Nat.le_refl _) (by simp) ?_; (case hd => rfl); (case hg => rfl); (case hr => first | (go_simp; done) | (go_simp; rfl)); (case hp => exact (Reps.none _ _)); intro v104 w6 ho7 hb hg_ hnew_; clear hg_ hnew_; (first | rw [← Ny103.out] at ho7 | (simp only [Int.reduceToNat] at ho7; rw [← Ny103.out] at ho7)); have _ := AM (Kd.R_lower ho7 (bZ (bX HB.out))); have _ := AM (nB BK101.out hb); have _ := AM (nB BK102.out hb); have _ := AM (below_step (bX HB.out) hb); clear BK101 BK102 HB; rename_i HO105 BK101 BK102 HB; clear hb ho7; have hnb8 := NB101_102.out; have hnc8 := NB102_101.out; have hcz9 := q4 BK101.out; have hfz9 := fZ BK101.out) | ((with_reducible refine gate_builtin (b := .append) (xs := #[.tmp 3, .tmp 5]) rfl ?_); at_builtin; refine Kd.R_append_rows Kd.string (w0 := w) w.heap.size rfl (.tmp 3) (.tmp 5) 23 9 (.string ⟨#[]⟩) 16 rfl Try.underlying23 info9 rfl (by decide) (by omega) v104 y103 l0_2 _ _ _ (fun _ => True) (fun _ => False) rfl rfl ?aO ?aR (fun _ _ h => h) (fun _ h => h.elim) ?aF ?aB ?aS ?aL ?_; (case aR => repeat (first | exact (cB HR0_2.out HB.out) | (with_reducible first | apply cA | apply cN | apply cD))); (case aB => exact (bX HB.out)); (case aF => exact (fun _ _ => trivial)); (case aO => exact (rX HO105.out)); (case aS => exact (bZ (bX HB.out))); (case aL => have := LMc2.out; omega); intro v107 w10 ho hb hg hat; rw [← Ny106.out] at ho; have _ := AM (blk_grown (g := gb101) (o := .cells #[.string a0_0, .int .i64 a0_1, .slice A0_2 l0_2.length c0_2, .slice A0_3 l0_3.length c0_3] 26 (0, 0)) (kX BK101.out) hg (Kd.R_ne HO105.out BK101.out (by decide))); have _ := AM (blk_grown (g := gb102) (o := .cells #[.string (⟨#[]⟩ : ByteArray), .int .i64 0, .slice none 0 0, .slice none 0 0] 26 (0, 0)) (kX BK102.out) hg (Kd.R_ne HO105.out BK102.out (by decide))); have _ := AM (hb); have _ := AM (ho); clear BK101 BK102 HB HO105; rename_i BK101 BK102 HB HO108; clear ho hb hg hat; obtain ⟨Ao11, co11, eo11⟩ := Kd.R_slice HO108.out; subst eo11; have hcz12 := q4 BK101.out; have hfz12 := fZ BK101.out) | ((with_reducible refine gate_dst (N := 8) rfl ?_); refine Kd.R_lit k36 _ 36 ?hg (N := 8) ?hd (xs := ([] : List (S36))) (inner := []) (ok := fun _ => True) (okp := fun _ => True) ?hr ?hp (fun _ hk => hk) trivial (Below.refl _ _) (Nat.le_refl _) (by simp) ?_; (case hd => rfl); (case hg => rfl); (case hr => first | (go_simp; done) | (go_simp; rfl)); (case hp => exact (Reps.none _ _)); intro v110 w13 ho14 hb hg_ hnew_; clear hg_ hnew_; (first | rw [← Ny109.out] at ho14 | (simp only [Int.reduceToNat] at ho14; rw [← Ny109.out] at ho14)); have _ := AM (Kd.R_below (by (with_reducible repeat (first | apply rA | apply rN | apply rD)); exact (Kd.R_mono (Kd.R_far (p := ⟨gb101, 2, none⟩) (Kd.R_types HO108.out BK101.out (by decide)) (fun _ hk => hk.2) (.slice Ao11 y106.length co11)) (fun _ h_ => h_.1))) hb); have _ := AM (Kd.R_lower ho14 (bZ (bX HB.out))); have _ := AM (blk_below (g := gb101) (o := .cells #[.string a0_0, .int .i64 a0_1, .slice Ao11 y106.length co11, .slice A0_3 l0_3.length c0_3] 26 (0, 0)) (by refine kP (cs := #[.string a0_0, .int .i64 a0_1, .slice A0_2 l0_2.length c0_2, .slice A0_3 l0_3.length c0_3]) 2 ?_; (with_reducible repeat (first | apply kN | apply kD | apply kA)); exact BK101.out) hb); have _ := AM (blk_below (g := gb102) (o := .cells #[.string (⟨#[]⟩ : ByteArray), .int .i64 0, .slice none 0 0, .slice none 0 0] 26 (0, 0)) (by refine kF NB102_101.out ?_; (with_reducible repeat (first | apply kN | apply kD | apply kA)); exact BK102.out) hb); have _ := AM (below_step (bX HB.out) hb); clear HO108 BK101 BK102 HB; rename_i HO108 HO111 BK101 BK102 HB; clear hb ho14; have hcz15 := q4 BK101.out; have hfz15 := fZ BK101.out) | ((with_reducible refine gate_builtin (b := .append) (xs := #[.tmp 8, .tmp 10]) rfl ?_); at_builtin; refine Kd.R_append_rows k36 (w0 := w) w.heap.size rfl (.tmp 8) (.tmp 10) 24 36 (.agg #[(.string ⟨#[]⟩), (.int .i64 0)]) 24 rfl Try.underlying24 info36 rfl (by decide) (by omega) v110 y109 l0_3 _ _ _ (fun _ => True) (fun _ => False) rfl rfl ?aO ?aR (fun _ _ h => h) (fun _ h => h.elim) ?aF ?aB ?aS ?aL ?_; (case aR => repeat (first | exact (cB HR0_3.out HB.out) | (with_reducible first | apply cA | apply cN | apply cD))); (case aB => exact (bX HB.out)); (case aF => exact (fun _ _ => trivial)); (case aO => exact (rX HO111.out)); (case aS => exact (bZ (bX HB.out))); (case aL => have := LMc3.out; omega); intro v113 w16 ho hb hg hat; rw [← Ny112.out] at ho; have _ := AM (blk_grown (g := gb101) (o := .cells #[.string a0_0, .int .i64 a0_1, .slice Ao11 y106.length co11, .slice A0_3 l0_3.length c0_3] 26 (0, 0)) (kX BK101.out) hg (Kd.R_ne HO111.out BK101.out (by decide))); have _ := AM (blk_grown (g := gb102) (o := .cells #[.string (⟨#[]⟩ : ByteArray), .int .i64 0, .slice none 0 0, .slice none 0 0] 26 (0, 0)) (kX BK102.out) hg (Kd.R_ne HO111.out BK102.out (by decide))); have _ := AM (Kd.R_over' (rX HO108.out) (Kd.R_typed (rX HO111.out)) (by decide) hg); have _ := AM (hb); have _ := AM (ho); clear BK101 BK102 HO108 HB HO111; rename_i BK101 BK102 HO108 HB HO114; clear ho hb hg hat; obtain ⟨Ao17, co17, eo17⟩ := Kd.R_slice HO114.out; subst eo17; have hcz18 := q4 BK101.out; have hfz18 := fZ BK101.out; have hcz19 := q4 BK102.out; have hfz19 := fZ BK102.out))
   refine bodyPost_ret (results_cell_row rfl _ _ gb102 26 #[.string a0_0, .int .i64 a0_1, .slice Ao11 y106.length co11, .slice Ao17 y112.length co17] (0, 0) _ rfl (by refine kP (cs := #[.string a0_0, .int .i64 a0_1, .slice Ao11 y106.length co11, .slice none 0 0]) 3 ?_; refine kP (cs := #[.string a0_0, .int .i64 a0_1, .slice none 0 0, .slice none 0 0]) 2 ?_; refine kP (cs := #[.string a0_0, .int .i64 0, .slice none 0 0, .slice none 0 0]) 1 ?_; refine kP (cs := #[.string (⟨#[]⟩ : ByteArray), .int .i64 0, .slice none 0 0, .slice none 0 0]) 0 ?_; refine kF NB102_101.out ?_; (with_reducible repeat (first | apply kN | apply kD | apply kA)); exact BK102.out) Try.underlying26 rfl (by kernel_rfl)) rfl ?_
   exact ⟨_, _, by first | rfl | (simp [*, errW_none, errW_some] <;> rfl), by (with_reducible repeat (first | apply rA | apply rN | apply rD)); exact Kd.R_mono (Kd.R_far (p := ⟨gb102, 3, none⟩) (Kd.R_far (p := ⟨gb102, 2, none⟩) (Kd.R_far (p := ⟨gb102, 1, none⟩) (Kd.R_far (p := ⟨gb102, 0, none⟩) (Kd.R_far (p := ⟨gb101, 3, none⟩) (Kd.R_types (Kd.R_types HO108.out BK101.out (by decide)) BK102.out (by decide)) (fun _ hk => hk.1.2) (.slice Ao17 y112.length co17)) (fun _ hk => hk.2) (.string a0_0)) (fun _ hk => hk.2) (.int .i64 a0_1)) (fun _ hk => hk.2) (.slice Ao11 y106.length co11)) (fun _ hk => hk.2) (.slice Ao17 y112.length co17)) (fun _ hk => trivial), by (with_reducible repeat (first | apply rA | apply rN | apply rD)); exact Kd.R_mono (Kd.R_far (p := ⟨gb102, 3, none⟩) (Kd.R_far (p := ⟨gb102, 2, none⟩) (Kd.R_far (p := ⟨gb102, 1, none⟩) (Kd.R_far (p := ⟨gb102, 0, none⟩) (Kd.R_far (p := ⟨gb101, 3, none⟩) (Kd.R_types (Kd.R_types HO114.out BK101.out (by decide)) BK102.out (by decide)) (fun _ hk => hk.1.2) (.slice Ao17 y112.length co17)) (fun _ hk => hk.2) (.string a0_0)) (fun _ hk => hk.2) (.int .i64 a0_1)) (fun _ hk => hk.2) (.slice Ao11 y106.length co11)) (fun _ hk => hk.2) (.slice Ao17 y112.length co17)) (fun _ hk => trivial), bX HB.out⟩
  rw [if_neg c3] at H
  exact absurd H (by simp)
 rw [if_neg c2] at H
 exact absurd H (by simp)

/-! ### spec_TopicRetain: function 8 -/
abbrev spec_TopicRetain.b0 : Array Bool := #[true, false, true, false, false, false, false, false, false, false, false, false, false, false, false]
abbrev spec_TopicRetain.b1 : Array Bool := #[true, false, true, true, false, false, false, false, false, false, false, false, false, false, false]
abbrev spec_TopicRetain.b2 : Array Bool := #[true, false, true, true, false, true, false, false, false, false, false, false, false, false, false]
abbrev spec_TopicRetain.b3 : Array Bool := #[true, false, true, true, false, true, false, true, false, false, false, false, false, false, false]
abbrev spec_TopicRetain.b4 : Array Bool := #[true, true, true, true, false, true, false, true, false, false, false, false, false, false, false]
abbrev spec_TopicRetain.b5 : Array Bool := #[true, true, true, true, true, true, false, true, false, false, false, false, false, false, false]
mutual
def spec_TopicRetain.j0 : Nat → Int → Bool → ByteArray → Int → List ByteArray → List (S36) → Option (ByteArray × Int × List ByteArray × (List (S36)) × List ByteArray × Int × Int)
  | 0, _, _, _, _, _, _ => none
  | k + 1, x1, x15, x102000, x102001, x102002, x102003 => if x15 = true then ((spec_l07Ill.f 1).bind fun bt105 => (some (bt105.1, bt105.2.1, bt105.2.2.1, bt105.2.2.2.1, bt105.2.2.2.2.1, bt105.2.2.2.2.2.1, bt105.2.2.2.2.2.2))) else ((spec_l01Max.f 0 (wrap64 ((x102002.length : Int) - x1))).bind fun t118 => ((spec_l07Copy.f x102000 x102001 x102002 x102003).bind fun bt119 => (if 0 ≤ t118 then (if t118 ≤ (bt119.2.2.1.length : Int) then (spec_TopicRetain.l0 k t118 0 bt119.1 (wrap64 (x102001 + t118)) (bt119.2.2.1.drop (t118 : Int).toNat) bt119.2.2.2) else (none)) else (none))))
def spec_TopicRetain.l0 : Nat → Int → Int → ByteArray → Int → List ByteArray → List (S36) → Option (ByteArray × Int × List ByteArray × (List (S36)) × List ByteArray × Int × Int)
  | 0, _, _, _, _, _, _ => none
  | k + 1, x5, x7, x128000, x128001, x128002, x128003 => if x7 < (x128003.length : Int) then (if 0 ≤ x7 then ((spec_l01Max.f x128001 ((rd_T36 x128003 x7).f1)).bind fun t132 => (spec_TopicRetain.l0 k x5 (wrap64 (x7 + 1)) x128000 x128001 x128002 (x128003.set (x7 : Int).toNat (⟨(rd_T36 x128003 x7).f0, t132⟩ : S36)))) else (none)) else (some (x128000, x128001, x128002, x128003, ([] : List ByteArray), x5, 0))
end
def spec_TopicRetain.f (k : Nat) (a0_0 : ByteArray) (a0_1 : Int) (l0_2 : List ByteArray) (l0_3 : List (S36)) (a1 : Int) : Option (ByteArray × Int × List ByteArray × (List (S36)) × List ByteArray × Int × Int) := (spec_TopicRight.f k a0_0 a0_1 l0_2 l0_3).bind fun t103 => (if t103 = true then ((spec_l03Is.f a1 0 20).bind fun t104 => (spec_TopicRetain.j0 k a1 (!t104) a0_0 a0_1 l0_2 l0_3)) else (spec_TopicRetain.j0 k a1 true a0_0 a0_1 l0_2 l0_3))
theorem spec_TopicRetain.mono_l : ∀ k, (∀ y0 y1 y2 y3 y4 y5, LeO (spec_TopicRetain.j0 k y0 y1 y2 y3 y4 y5) (spec_TopicRetain.j0 (k + 1) y0 y1 y2 y3 y4 y5)) ∧ (∀ y0 y1 y2 y3 y4 y5, LeO (spec_TopicRetain.l0 k y0 y1 y2 y3 y4 y5) (spec_TopicRetain.l0 (k + 1) y0 y1 y2 y3 y4 y5))
  | 0 => ⟨fun _ _ _ _ _ _ r h => by simp [spec_TopicRetain.j0] at h, fun _ _ _ _ _ _ r h => by simp [spec_TopicRetain.l0] at h⟩
  | k + 1 => by
    obtain ⟨ih0, ih1⟩ := spec_TopicRetain.mono_l k
    refine ⟨?_, ?_⟩
    · intro y0 y1 y2 y3 y4 y5
      unfold spec_TopicRetain.j0
      repeat' first
      | (with_reducible exact ih0 _ _ _ _ _ _)
      | (with_reducible exact ih1 _ _ _ _ _ _)
      | (with_reducible exact spec_TopicRight.mono _ _ _ _ _)
      | (with_reducible exact LeO.refl _)
      | (with_reducible exact LeO.none _)
      | (with_reducible refine LeO.ite ?_ ?_)
      | (with_reducible refine LeO.bind ?_ (fun _ => ?_))
      | exact ih0 _ _ _ _ _ _
      | exact ih1 _ _ _ _ _ _
      | exact spec_TopicRight.mono _ _ _ _ _
      | exact LeO.none _
      | refine LeO.ite ?_ ?_
      | refine LeO.bind ?_ (fun _ => ?_)
    · intro y0 y1 y2 y3 y4 y5
      unfold spec_TopicRetain.l0
      repeat' first
      | (with_reducible exact ih0 _ _ _ _ _ _)
      | (with_reducible exact ih1 _ _ _ _ _ _)
      | (with_reducible exact spec_TopicRight.mono _ _ _ _ _)
      | (with_reducible exact LeO.refl _)
      | (with_reducible exact LeO.none _)
      | (with_reducible refine LeO.ite ?_ ?_)
      | (with_reducible refine LeO.bind ?_ (fun _ => ?_))
      | exact ih0 _ _ _ _ _ _
      | exact ih1 _ _ _ _ _ _
      | exact spec_TopicRight.mono _ _ _ _ _
      | exact LeO.none _
      | refine LeO.ite ?_ ?_
      | refine LeO.bind ?_ (fun _ => ?_)
theorem spec_TopicRetain.mono : ∀ a0 a1 a2 a3 a4 k, LeO (spec_TopicRetain.f k a0 a1 a2 a3 a4) (spec_TopicRetain.f (k + 1) a0 a1 a2 a3 a4) := by
  intro a0 a1 a2 a3 a4 k
  obtain ⟨ih0, ih1⟩ := spec_TopicRetain.mono_l k
  unfold spec_TopicRetain.f
  repeat' first
      | (with_reducible exact ih0 _ _ _ _ _ _)
      | (with_reducible exact ih1 _ _ _ _ _ _)
      | (with_reducible exact spec_TopicRight.mono _ _ _ _ _)
      | (with_reducible exact LeO.refl _)
      | (with_reducible exact LeO.none _)
      | (with_reducible refine LeO.ite ?_ ?_)
      | (with_reducible refine LeO.bind ?_ (fun _ => ?_))
      | exact ih0 _ _ _ _ _ _
      | exact ih1 _ _ _ _ _ _
      | exact spec_TopicRight.mono _ _ _ _ _
      | exact LeO.none _
      | refine LeO.ite ?_ ?_
      | refine LeO.bind ?_ (fun _ => ?_)
def spec_TopicRetain.T10 : Bool × List (List Nat × List Nat) := (true, [([], []), ([0], [0]), ([], []), ([], []), ([3], [3]), ([], []), ([5], [5]), ([], []), ([6, 7], [6, 7]), ([8], [8]), ([9], [9]), ([4, 10], [4, 10]), ([1, 2, 0, 1, 2, 3, 4, 5, 6, 7, 8, 9, 10, 11], [1, 2]), ([12, 0, 1, 2, 3, 4, 5, 6, 7, 8, 9, 10, 11], [12]), ([13, 11, 11, 0, 1, 2, 3, 4, 5, 6, 7, 8, 9, 10, 11], [11, 13])])
def spec_TopicRetain.B10 : List Nat := [0, 1, 0, 0, 8, 0, 32, 0, 224, 480, 992, 2040, 4095, 8191, 16383]
theorem spec_TopicRetain.tab10 : rtab .any (opsOf Try.f8 10) = spec_TopicRetain.T10 := by kernel_rfl
theorem spec_TopicRetain.bits10 : waitsOk spec_TopicRetain.T10.2 spec_TopicRetain.B10 = true := by kernel_rfl
set_option maxHeartbeats 60000000 in
set_option maxRecDepth 100000 in
theorem spec_TopicRetain.calls (k : Nat) (a0_0 : ByteArray) (a0_1 : Int) (A0_2 : Option Addr) (c0_2 : Nat) (l0_2 : List ByteArray) (A0_3 : Option Addr) (c0_3 : Nat) (l0_3 : List (S36)) (a1 : Int) (r1 : ByteArray) (r2 : Int) (r3 : List ByteArray) (r4 : List (S36)) (r5 : List ByteArray) (r6 : Int) (r7 : Int) (w : World) (hr0_2 : Kd.C Kd.string w A0_2 l0_2.length l0_2) (hc0_2 : l0_2.length ≤ c0_2) (hr0_3 : Kd.C k36 w A0_3 l0_3.length l0_3) (hc0_3 : l0_3.length ≤ c0_3) (h : spec_TopicRetain.f k a0_0 a0_1 l0_2 l0_3 a1 = some (r1, r2, r3, r4, r5, r6, r7)) :
    Calls Try.prog 8 #[.agg #[.string a0_0, .int .i64 a0_1, .slice A0_2 l0_2.length c0_2, .slice A0_3 l0_3.length c0_3], .int .i64 a1] w fun e w' => ∃ v2_ v3_ v4_ : Value, e = .returned (.agg #[.string r1, .int .i64 r2, v2_, v3_, v4_, .int .i64 r6, .int .i64 r7]) ∧ Kd.Q Kd.string 9 w' w.heap.size (fun k_ => some k_ ≠ (v4_ : Value).ownBlock) v2_ r3 ∧ Kd.R k36 36 w' w.heap.size (fun _ => True) v3_ r4 ∧ Kd.R Kd.string 9 w' w.heap.size (fun k_ => some k_ ≠ (v2_ : Value).ownBlock) v4_ r5 ∧ Below w.heap.size w w' := by
 have hu26 := Try.underlying26
 have hu30 := Try.underlying30
 have HR0_2 := AM hr0_2
 have HC0_2 := AM hc0_2
 clear hr0_2 hc0_2
 have HR0_3 := AM hr0_3
 have HC0_3 := AM hc0_3
 clear hr0_3 hc0_3
 have HB := AM (Below.refl w.heap.size w)
 have H : ((spec_TopicRight.f k a0_0 a0_1 l0_2 l0_3).bind fun t103 => (if t103 = true then ((spec_l03Is.f a1 0 20).bind fun t104 => (spec_TopicRetain.j0 k a1 (!t104) a0_0 a0_1 l0_2 l0_3)) else (spec_TopicRetain.j0 k a1 true a0_0 a0_1 l0_2 l0_3))) = some (r1, r2, r3, r4, r5, r6, r7) := h
 clear h
 have HC3 := AM H
 clear H
 go_enter Try.func8, Try.ntmps8
 go_upto_region 1 with (first | ((with_reducible refine gate_dst (N := 2) rfl ?_); refine box_event (by rfl) (N := 2) (by rfl) (cs := #[.string a0_0, .int .i64 a0_1, .slice A0_2 l0_2.length c0_2, .slice A0_3 l0_3.length c0_3]) (t := 26) (by first | (go_simp; done) | (go_simp; rfl)) ?_; intro gb101 hg w4 hbox hb; have _ := AM (below_step (bX HB.out) hb); have _ := AM (hbox); have n2_ := AM ((by rw [hg]; exact (bZ (bX HB.out)) : w.heap.size ≤ gb101)); clear HB; rename_i HB BK101; have GW101 := n2_; have GE101 := n2_; clear n2_; clear hb hbox hg) | ((with_reducible refine gate_dst (N := 4) rfl ?_); refine box_event (by rfl) (N := 4) (by rfl) (cs := #[.string (⟨#[]⟩ : ByteArray), .int .i64 0, .slice none 0 0, .slice none 0 0, .slice none 0 0, .int .i64 0, .int .i64 0]) (t := 30) (by first | (go_simp; done) | (go_simp; rfl)) ?_; intro gb102 hg w5 hbox hb; have _ := AM (nB BK101.out hb); have _ := AM (below_step (bX HB.out) hb); have _ := AM (hbox); have n3_ := AM ((by rw [hg]; exact (bZ (bX HB.out)) : w.heap.size ≤ gb102)); have _ := AM (lX hg BK101.out); have _ := AM (lX hg BK101.out).symm; clear BK101 HB; rename_i BK101 HB BK102 NB101_102 NB102_101; have GW102 := n3_; have GE102 := n3_; clear n3_; clear hb hbox hg))
 (try simp only [Act.put, List.setIfInBounds_toArray, List.set_cons_zero, List.set_cons_succ])
 go_cut [15] (fun v15 wc => ∃ (kq : Nat) (x15_2 : Bool), v15 = .bool x15_2 ∧ Aside0 (spec_TopicRetain.j0 kq a1 x15_2 a0_0 a0_1 l0_2 l0_3 = some (r1, r2, r3, r4, r5, r6, r7)) ∧ Aside0 (kq ≤ k) ∧ Aside0 (wc.heap[gb101]? = some (.cells #[.string a0_0, .int .i64 a0_1, (.slice A0_2 l0_2.length c0_2), (.slice A0_3 l0_3.length c0_3)] 26 (0, 0))) ∧ Aside0 (wc.heap[gb102]? = some (.cells #[.string (⟨#[]⟩ : ByteArray), .int .i64 0, (.slice none 0 0), (.slice none 0 0), (.slice none 0 0), .int .i64 0, .int .i64 0] 30 (0, 0))) ∧ Aside0 (Below w.heap.size w wc))
 case first =>
  have H := HC3.out
  clear HC3
  replace H := Option.bind_eq_some_iff.mp H
  obtain ⟨t103, A60, H⟩ := H
  replace H : (if t103 = true then ((spec_l03Is.f a1 0 20).bind fun t104 => (spec_TopicRetain.j0 k a1 (!t104) a0_0 a0_1 l0_2 l0_3)) else (spec_TopicRetain.j0 k a1 true a0_0 a0_1 l0_2 l0_3)) = some (r1, r2, r3, r4, r5, r6, r7) := H
  have A6 := AM A60
  clear A60
  by_cases c7 : t103 = true
  ·
   subst c7
   have H1 : ((spec_l03Is.f a1 0 20).bind fun t104 => (spec_TopicRetain.j0 k a1 (!t104) a0_0 a0_1 l0_2 l0_3)) = some (r1, r2, r3, r4, r5, r6, r7) := by rw [if_pos rfl] at H; exact H
   clear H
   have H := H1
   clear H1
   replace H := Option.bind_eq_some_iff.mp H
   obtain ⟨t104, A80, H⟩ := H
   replace H : (spec_TopicRetain.j0 k a1 (!t104) a0_0 a0_1 l0_2 l0_3) = some (r1, r2, r3, r4, r5, r6, r7) := H
   have A8 := AM A80
   clear A80
   have H' := AM H
   clear H
   have hnb9 := NB101_102.out
   have hnc9 := NB102_101.out
   have hcz10 := q4 BK101.out
   have hfz10 := fZ BK101.out
   go_wp2_with (first | ((with_reducible refine gate_callee (f := 17) rfl ?_); refine goesL_ (some 9) rfl rfl Try.func17 (by kernel_rfl) rfl #[.agg #[.string a0_0, .int .i64 a0_1, .slice A0_2 l0_2.length c0_2, .slice A0_3 l0_3.length c0_3]] rfl (by (try simp only [mA, mB, mC]); first | done | rfl | (simp only [mD, mE]; rfl)) ?_; (with_reducible refine (spec_TopicRight.calls k a0_0 a0_1 _ _ l0_2 _ _ l0_3 true _ ?side1 ?side2 ?side3 ?side4 A6.out).mono ?_); (case side1 => repeat (first | exact (cB HR0_2.out HB.out) | (with_reducible first | apply cA | apply cN | apply cD))); (case side2 => exact HC0_2.out); (case side3 => repeat (first | exact (cB HR0_3.out HB.out) | (with_reducible first | apply cA | apply cN | apply cD))); (case side4 => exact HC0_3.out); rintro e w11 ⟨rfl, hb⟩; refine ⟨_, rfl, ?_⟩; have _ := AM (nB BK101.out hb); have _ := AM (nB BK102.out hb); have _ := AM (below_step (bX HB.out) hb); clear BK101 BK102 HB; rename_i BK101 BK102 HB; (try clear hb); (try clear hk)) | (go_at_call 27; (with_reducible refine (spec_l03Is.calls a1 0 20 t104 _ A8.out).mono ?_); rintro e w' ⟨rfl, ⟨nd, rfl⟩⟩))
   go_meet
   case rel => exact ⟨_, (!t104), (by first | rfl | (simp; done) | (simp [*]; done)), H', ⟨by first | omega | exact Nat.le_refl _⟩, ⟨kX BK101.out⟩, ⟨kX BK102.out⟩, ⟨bX HB.out⟩⟩
  replace c7 := Bool.eq_false_iff.mpr c7
  subst c7
  have H1 : (spec_TopicRetain.j0 k a1 true a0_0 a0_1 l0_2 l0_3) = some (r1, r2, r3, r4, r5, r6, r7) := by rw [if_neg (show ¬ (false = true) by decide)] at H; exact H
  clear H
  have H := H1
  clear H1
  have H' := AM H
  clear H
  have hnb12 := NB101_102.out
  have hnc12 := NB102_101.out
  have hcz13 := q4 BK101.out
  have hfz13 := fZ BK101.out
  go_wp2_with (first | ((with_reducible refine gate_callee (f := 17) rfl ?_); refine goesL_ (some 9) rfl rfl Try.func17 (by kernel_rfl) rfl #[.agg #[.string a0_0, .int .i64 a0_1, .slice A0_2 l0_2.length c0_2, .slice A0_3 l0_3.length c0_3]] rfl (by (try simp only [mA, mB, mC]); first | done | rfl | (simp only [mD, mE]; rfl)) ?_; (with_reducible refine (spec_TopicRight.calls k a0_0 a0_1 _ _ l0_2 _ _ l0_3 false _ ?side1 ?side2 ?side3 ?side4 A6.out).mono ?_); (case side1 => repeat (first | exact (cB HR0_2.out HB.out) | (with_reducible first | apply cA | apply cN | apply cD))); (case side2 => exact HC0_2.out); (case side3 => repeat (first | exact (cB HR0_3.out HB.out) | (with_reducible first | apply cA | apply cN | apply cD))); (case side4 => exact HC0_3.out); rintro e w14 ⟨rfl, hb⟩; refine ⟨_, rfl, ?_⟩; have _ := AM (nB BK101.out hb); have _ := AM (nB BK102.out hb); have _ := AM (below_step (bX HB.out) hb); clear BK101 BK102 HB; rename_i BK101 BK102 HB; (try clear hb); (try clear hk)))
  go_meet
  case rel => exact ⟨_, (true), (by first | rfl | (simp; done) | (simp [*]; done)), H', ⟨by first | omega | exact Nat.le_refl _⟩, ⟨kX BK101.out⟩, ⟨kX BK102.out⟩, ⟨bX HB.out⟩⟩
 case rest =>
  clear HC3
  (try clear c1); (try clear p2); (try clear c7); (try clear c8); (try clear c9); (try clear c12); (try clear hcz10); (try clear hcz13); (try clear hfz10); (try clear hfz13)
  obtain ⟨kq, x15_2, rfl, HA, HJ2, BK101, BK102, HB⟩ := hcut
  cases kq with
  | zero => exact absurd HA.out (by simp [spec_TopicRetain.j0])
  | succ kj2 =>
   have H := HA.out
   clear HA
   simp only [spec_TopicRetain.j0] at H
   by_cases c15 : x15_2 = true
   ·
    subst c15
    have H1 : ((spec_l07Ill.f 1).bind fun bt105 => (some (bt105.1, bt105.2.1, bt105.2.2.1, bt105.2.2.2.1, bt105.2.2.2.2.1, bt105.2.2.2.2.2.1, bt105.2.2.2.2.2.2))) = some (r1, r2, r3, r4, r5, r6, r7) := by rw [if_pos rfl] at H; exact H
    clear H
    have H := H1
    clear H1
    replace H := Option.bind_eq_some_iff.mp H
    obtain ⟨⟨t105, t106, t107, t110, t113, t116, t117⟩, A160, H⟩ := H
    try dsimp only at H
    have A16 := AM A160
    clear A160
    simp only [Option.some.injEq, Prod.mk.injEq] at H
    obtain ⟨rfl, rfl, rfl, rfl, rfl, rfl, rfl⟩ := H
    go_wp2_with (first | ((with_reducible refine gate_callee (f := 28) rfl ?_); refine goesL_ (some 16) rfl rfl Try.func28 (by kernel_rfl) rfl #[.int .i64 1] rfl (by (try simp only [mA, mB, mC]); first | done | rfl | (simp only [mD, mE]; rfl)) ?_; (with_reducible refine (spec_l07Ill.calls 1 t105 t106 t107 t110 t113 t116 t117 _ A16.out).mono ?_); rintro e w17 ⟨v108, v111, v114, rfl, ho0, ho1, ho2, hb⟩; refine ⟨_, rfl, ?_⟩; have _ := AM (Kd.R_lower ho0 (bZ (bX HB.out))); have _ := AM (Kd.R_lower ho1 (bZ (bX HB.out))); have _ := AM (Kd.R_lower ho2 (bZ (bX HB.out))); have _ := AM (nB BK101.out hb); have _ := AM (nB BK102.out hb); have _ := AM (below_step (bX HB.out) hb); clear BK101 BK102 HB; rename_i HO109 HO112 HO115 BK101 BK102 HB; (try clear hb); (try clear hk); (try clear ho0); (try clear ho1); (try clear ho2); have hnb18 := NB102_101.out; have hnc18 := NB101_102.out; have hcz19 := q7 BK102.out; have hfz19 := fZ BK102.out; obtain ⟨Ao20, co20, eo20⟩ := Kd.R_slice HO109.out; subst eo20; obtain ⟨Ao21, co21, eo21⟩ := Kd.R_slice HO112.out; subst eo21; obtain ⟨Ao22, co22, eo22⟩ := Kd.R_slice HO115.out; subst eo22))
    refine bodyPost_ret (results_cell_row rfl _ _ gb102 30 #[.string t105, .int .i64 t106, .slice Ao20 t107.length co20, .slice Ao21 t110.length co21, .slice Ao22 t113.length co22, .int .i64 t116, .int .i64 t117] (0, 0) _ rfl (by refine kP (cs := #[.string t105, .int .i64 t106, .slice Ao20 t107.length co20, .slice Ao21 t110.length co21, .slice Ao22 t113.length co22, .int .i64 t116, .int .i64 0]) 6 ?_; refine kP (cs := #[.string t105, .int .i64 t106, .slice Ao20 t107.length co20, .slice Ao21 t110.length co21, .slice Ao22 t113.length co22, .int .i64 0, .int .i64 0]) 5 ?_; refine kP (cs := #[.string t105, .int .i64 t106, .slice Ao20 t107.length co20, .slice Ao21 t110.length co21, .slice none 0 0, .int .i64 0, .int .i64 0]) 4 ?_; refine kP (cs := #[.string t105, .int .i64 t106, .slice Ao20 t107.length co20, .slice none 0 0, .slice none 0 0, .int .i64 0, .int .i64 0]) 3 ?_; refine kP (cs := #[.string t105, .int .i64 t106, .slice none 0 0, .slice none 0 0, .slice none 0 0, .int .i64 0, .int .i64 0]) 2 ?_; refine kP (cs := #[.string t105, .int .i64 0, .slice none 0 0, .slice none 0 0, .slice none 0 0, .int .i64 0, .int .i64 0]) 1 ?_; refine kP (cs := #[.string (⟨#[]⟩ : ByteArray), .int .i64 0, .slice none 0 0, .slice none 0 0, .slice none 0 0, .int .i64 0, .int .i64 0]) 0 ?_; (with_reducible repeat (first | apply kN | apply kD | apply kA)); exact BK102.out) Try.underlying30 rfl (by kernel_rfl)) rfl ?_
    exact ⟨_, _, _, by first | rfl | (simp [*, errW_none, errW_some] <;> rfl), Kd.Q_of_R (by (with_reducible repeat (first | apply rA | apply rN | apply rD)); exact Rf7 HO109.out BK102.out (by decide) (fun _ hk => hk.1)), by (with_reducible repeat (first | apply rA | apply rN | apply rD)); exact Rf7 HO112.out BK102.out (by decide) (fun _ hk => trivial), by (with_reducible repeat (first | apply rA | apply rN | apply rD)); exact Rf7 HO115.out BK102.out (by decide) (fun _ hk => hk.1), bX HB.out⟩
   replace c15 := Bool.eq_false_iff.mpr c15
   subst c15
   have H1 : ((spec_l01Max.f 0 (wrap64 ((l0_2.length : Int) - a1))).bind fun t118 => ((spec_l07Copy.f a0_0 a0_1 l0_2 l0_3).bind fun bt119 => (if 0 ≤ t118 then (if t118 ≤ (bt119.2.2.1.length : Int) then (spec_TopicRetain.l0 kj2 t118 0 bt119.1 (wrap64 (a0_1 + t118)) (bt119.2.2.1.drop (t118 : Int).toNat) bt119.2.2.2) else (none)) else (none)))) = some (r1, r2, r3, r4, r5, r6, r7) := by rw [if_neg (show ¬ (false = true) by decide)] at H; exact H
   clear H
   have H := H1
   clear H1
   replace H := Option.bind_eq_some_iff.mp H
   obtain ⟨t118, A230, H⟩ := H
   replace H : ((spec_l07Copy.f a0_0 a0_1 l0_2 l0_3).bind fun bt119 => (if 0 ≤ t118 then (if t118 ≤ (bt119.2.2.1.length : Int) then (spec_TopicRetain.l0 kj2 t118 0 bt119.1 (wrap64 (a0_1 + t118)) (bt119.2.2.1.drop (t118 : Int).toNat) bt119.2.2.2) else (none)) else (none))) = some (r1, r2, r3, r4, r5, r6, r7) := H
   have A23 := AM A230
   clear A230
   replace H := Option.bind_eq_some_iff.mp H
   obtain ⟨⟨t119, t120, t121, t124⟩, A240, H⟩ := H
   try dsimp only at H
   have A24 := AM A240
   clear A240
   by_cases c25 : 0 ≤ t118
   ·
    rw [if_pos c25] at H
    have c25b0 := eq_true c25
    have c25b1 : decide (0 ≤ t118) = true := decide_eq_true c25
    clear c25
    by_cases c26 : t118 ≤ (t121.length : Int)
    ·
     rw [if_pos c26] at H
     have c26b0 := eq_true c26
     have c26b1 : decide (t118 ≤ (t121.length : Int)) = true := decide_eq_true c26
     clear c26
     obtain ⟨y128, hy128⟩ : ∃ y_ : List ByteArray, y_ = (t121.drop (t118 : Int).toNat) := ⟨_, rfl⟩
     replace H : (spec_TopicRetain.l0 kj2 t118 0 t119 (wrap64 (a0_1 + t118)) y128 t124) = some (r1, r2, r3, r4, r5, r6, r7) := by first | (rw [hy128]; with_reducible exact H) | (have H2_ := (Option.bind_some _ _).symm.trans H; rw [hy128]; with_reducible exact H2_) | (have H2_ := (Option.bind_some _ _).symm.trans H; with_reducible exact H2_) | with_reducible exact H | (rw [hy128]; exact H) | exact H
     have Ny128 := AM hy128
     clear hy128
     have H' := AM H
     clear H
     have hnb27 := NB101_102.out
     have hnc27 := NB102_101.out
     have hcz28 := q4 BK101.out
     have hfz28 := fZ BK101.out
     go_wp2_with (first | ((with_reducible refine gate_callee (f := 29) rfl ?_); refine goesL_ (some 22) rfl rfl Try.func29 (by kernel_rfl) rfl #[.int .i64 0, .int .i64 (wrap64 ((l0_2.length : Int) - a1))] rfl (by (try simp only [mA, mB, mC]); first | done | rfl | (simp only [mD, mE]; rfl)) ?_; (with_reducible refine (spec_l01Max.calls 0 (wrap64 ((l0_2.length : Int) - a1)) t118 _ A23.out).mono ?_); rintro e w' ⟨rfl, ⟨nd, rfl⟩⟩; refine ⟨_, rfl, ?_⟩; (try (rw [drewN_self wc]; generalize hq_ : World.drewN wc _ = wc; have _ : Aside0 (wc.heap[gb101]? = some (.cells #[.string a0_0, .int .i64 a0_1, .slice A0_2 l0_2.length c0_2, .slice A0_3 l0_3.length c0_3] 26 (0, 0))) := ⟨by rw [← hq_]; exact (kX BK101.out)⟩; have _ : Aside0 (wc.heap[gb102]? = some (.cells #[.string (⟨#[]⟩ : ByteArray), .int .i64 0, .slice none 0 0, .slice none 0 0, .slice none 0 0, .int .i64 0, .int .i64 0] 30 (0, 0))) := ⟨by rw [← hq_]; exact (kX BK102.out)⟩; have _ : Aside0 (Below w.heap.size w wc) := ⟨by rw [← hq_]; exact (bX HB.out)⟩; clear BK101 BK102 HB hq_; rename_i BK101 BK102 HB; have hczu101 := q4 BK101.out; have hfzu101 := fZ BK101.out; have hczu102 := q7 BK102.out; have hfzu102 := fZ BK102.out))) | ((with_reducible refine gate_callee (f := 30) rfl ?_); refine goesL_ (some 24) rfl rfl Try.func30 (by kernel_rfl) rfl #[.agg #[.string a0_0, .int .i64 a0_1, .slice A0_2 l0_2.length c0_2, .slice A0_3 l0_3.length c0_3]] rfl (by (try simp only [mA, mB, mC]); first | done | rfl | (simp only [mD, mE]; rfl)) ?_; (with_reducible refine (spec_l07Copy.calls a0_0 a0_1 _ _ l0_2 _ _ l0_3 t119 t120 t121 t124 _ ?side1 ?side2 ?side3 ?side4 A24.out).mono ?_); (case side1 => repeat (first | exact (cB HR0_2.out HB.out) | (with_reducible first | apply cA | apply cN | apply cD))); (case side2 => exact HC0_2.out); (case side3 => repeat (first | exact (cB HR0_3.out HB.out) | (with_reducible first | apply cA | apply cN | apply cD))); (case side4 => exact HC0_3.out); rintro e w29 ⟨v122, v125, rfl, ho0, ho1, hb⟩; refine ⟨_, rfl, ?_⟩; have _ := AM (Kd.R_lower ho0 (bZ (bX HB.out))); have _ := AM (Kd.R_lower ho1 (bZ (bX HB.out))); have _ := AM (nB BK101.out hb); have _ := AM (nB BK102.out hb); have _ := AM (below_step (bX HB.out) hb); clear BK101 BK102 HB; rename_i HO123 HO126 BK101 BK102 HB; (try clear hb); (try clear hk); (try clear ho0); (try clear ho1)) | ((with_reducible refine gate_dst (N := 6) rfl ?_); refine box_event (by rfl) (N := 6) (by rfl) (cs := #[.string (⟨#[]⟩ : ByteArray), .int .i64 0, .slice none 0 0, .slice none 0 0]) (t := 26) (by first | (go_simp; done) | (go_simp; rfl)) ?_; intro gb127 hg w30 hbox hb; have _ := AM (Kd.R_below (rX HO123.out) hb); have _ := AM (Kd.R_below (rX HO126.out) hb); have _ := AM (nB BK101.out hb); have _ := AM (nB BK102.out hb); have _ := AM (below_step (bX HB.out) hb); have _ := AM (hbox); have n6_ := AM ((by rw [hg]; exact (bZ (bX HB.out)) : w.heap.size ≤ gb127)); have _ := AM (lX hg BK101.out); have _ := AM (lX hg BK101.out).symm; have _ := AM (lX hg BK102.out); have _ := AM (lX hg BK102.out).symm; clear HO123 HO126 BK101 BK102 HB; rename_i HO123 HO126 BK101 BK102 HB BK127 NB101_127 NB127_101 NB102_127 NB127_102; have GW127 := n6_; have GE127 := n6_; clear n6_; clear hb hbox hg; have hnb31 := NB127_101.out; have hnc31 := NB101_127.out; have hnb32 := NB127_102.out; have hnc32 := NB102_127.out; have hcz33 := q4 BK127.out; have hfz33 := fZ BK127.out; obtain ⟨Ao34, co34, eo34⟩ := Kd.R_slice HO123.out; subst eo34; obtain ⟨Ao35, co35, eo35⟩ := Kd.R_slice HO126.out; subst eo35) | ((with_reducible refine gate_store (t := 26) (p := 6) rfl ?_); refine store_event (t := 26) (p := 6) (v := ?vo_w36) (w1 := ((((w30.setCell ⟨gb127, 0, none⟩ (.string t119)).setCell ⟨gb127, 1, none⟩ (.int .i64 t120)).setCell ⟨gb127, 2, none⟩ (.slice Ao34 t121.length co34)).setCell ⟨gb127, 3, none⟩ (.slice Ao35 t124.length co35))) ?hg ?ho ?hn ?hr ?_; (case ho => rfl); (case hg => rfl); (case hn => rfl); (case hr => first | (go_simp; done) | (go_simp; rfl)); intro w36 hw; have _ : Aside0 (Kd.R Kd.string 9 w36 w.heap.size (fun _ => True) (.slice Ao34 t121.length co34) t121) := ⟨(by rw [hw]; exact (by (with_reducible repeat (first | apply rA | apply rN | apply rD)); exact Rf4 HO123.out BK127.out (by decide) (fun _ hk => trivial)))⟩; have _ : Aside0 (Kd.R k36 36 w36 w.heap.size (fun _ => True) (.slice Ao35 t124.length co35) t124) := ⟨(by rw [hw]; exact (by (with_reducible repeat (first | apply rA | apply rN | apply rD)); exact Rf4 HO126.out BK127.out (by decide) (fun _ hk => trivial)))⟩; have _ : Aside0 (w36.heap[gb101]? = some (.cells #[.string a0_0, .int .i64 a0_1, .slice A0_2 l0_2.length c0_2, .slice A0_3 l0_3.length c0_3] 26 (0, 0))) := ⟨(by rw [hw]; exact (by (iterate 4 refine kF NB101_127.out ?_); (with_reducible repeat (first | apply kN | apply kD | apply kA)); exact BK101.out))⟩; have _ : Aside0 (w36.heap[gb102]? = some (.cells #[.string (⟨#[]⟩ : ByteArray), .int .i64 0, .slice none 0 0, .slice none 0 0, .slice none 0 0, .int .i64 0, .int .i64 0] 30 (0, 0))) := ⟨(by rw [hw]; exact (by (iterate 4 refine kF NB102_127.out ?_); (with_reducible repeat (first | apply kN | apply kD | apply kA)); exact BK102.out))⟩; have _ : Aside0 (w36.heap[gb127]? = some (.cells #[.string t119, .int .i64 t120, .slice Ao34 t121.length co34, .slice Ao35 t124.length co35] 26 (0, 0))) := ⟨(by rw [hw]; exact (by refine kP (cs := #[.string t119, .int .i64 t120, .slice Ao34 t121.length co34, .slice none 0 0]) 3 ?_; refine kP (cs := #[.string t119, .int .i64 t120, .slice none 0 0, .slice none 0 0]) 2 ?_; refine kP (cs := #[.string t119, .int .i64 0, .slice none 0 0, .slice none 0 0]) 1 ?_; refine kP (cs := #[.string (⟨#[]⟩ : ByteArray), .int .i64 0, .slice none 0 0, .slice none 0 0]) 0 ?_; (with_reducible repeat (first | apply kN | apply kD | apply kA)); exact BK127.out))⟩; have _ : Aside0 (Below w.heap.size w w36) := ⟨(by rw [hw]; exact (bX HB.out))⟩; clear hw HO123 HO126 BK101 BK102 BK127 HB; rename_i HO123 HO126 BK101 BK102 BK127 HB; have hcz37 := q4 BK127.out; have hfz37 := fZ BK127.out; have q38 : (t118 : Int) ≤ ((t121.length : Int) : Int) := of_decide_eq_true (by assumption); obtain ⟨i038, hi038, _, hsz38, _⟩ := info_parts info9; have hcut38 := cut_from (P := Try.prog) 23 9 .i64 Try.underlying23 hi038 1 hsz38 Ao34 t121.length co34 t118 (of_decide_eq_true (by assumption)) q38; have hr38 := Kd.Q_drop (k := (t118 : Int).toNat) (Kd.Q_of_R HO123.out) (by omega); obtain ⟨A38, hA38⟩ : ∃ A1, A1 = (if co34 = (t118 : Int).toNat then Ao34 else (Ao34 : Option Addr).map (·.add ((t118 : Int).toNat * 1))) := ⟨_, rfl⟩; obtain ⟨c38, hc38⟩ : ∃ c1, c1 = co34 - (t118 : Int).toNat := ⟨_, rfl⟩; have hy38 : y128.length = t121.length - (t118 : Int).toNat := (by rw [Ny128.out, mD]); rw [← Ny128.out] at hr38; rw [← hy38, ← hA38, ← hc38] at hcut38; replace hr38 : Kd.Q Kd.string 9 w36 w.heap.size (fun _ => True) (.slice A38 y128.length c38) y128 := (by rw [hA38, hc38, hy38]; exact hr38); have HE38 : Aside0 ((Value.slice A38 y128.length c38).ownBlock = (.slice Ao34 t121.length co34 : Value).ownBlock) := ⟨by rw [hA38]; split <;> (cases (Ao34 : Option Addr) <;> first | rfl | simp [Value.ownBlock, add_block])⟩; clear hy38 hi038 hsz38 HO123 hA38 hc38; have HO130 := AM hr38; clear hr38; replace q38 := eq_true q38; have hcz39 := q4 BK101.out; have hfz39 := fZ BK101.out))
     go_loopg [7] kj2 (fun kq v7 w' => ∃ (x7_2 : Int) (x128003_2 : List (S36)) (u128003 : Value), v7 = .int .i64 x7_2 ∧ Aside0 (spec_TopicRetain.l0 kq t118 x7_2 t119 (wrap64 (a0_1 + t118)) y128 x128003_2 = some (r1, r2, r3, r4, r5, r6, r7)) ∧ Aside0 (kq ≤ kj2) ∧ Aside0 (Kd.Q Kd.string 9 w' w.heap.size (fun _ => True) (.slice A38 y128.length c38) y128) ∧ Aside0 (Kd.R k36 36 w' w.heap.size (fun _ => True) u128003 x128003_2) ∧ Aside0 (w'.heap[gb101]? = some (.cells #[.string a0_0, .int .i64 a0_1, (.slice A0_2 l0_2.length c0_2), (.slice A0_3 l0_3.length c0_3)] 26 (0, 0))) ∧ Aside0 (w'.heap[gb102]? = some (.cells #[.string (⟨#[]⟩ : ByteArray), .int .i64 0, (.slice none 0 0), (.slice none 0 0), (.slice none 0 0), .int .i64 0, .int .i64 0] 30 (0, 0))) ∧ Aside0 (w'.heap[gb127]? = some (.cells #[.string t119, .int .i64 (wrap64 (a0_1 + t118)), (.slice A38 y128.length c38), u128003] 26 (0, 0))) ∧ Aside0 (Below w.heap.size w w'))
     case atStart => exact ⟨(0), (t124), (.slice Ao35 t124.length co35), (by first | rfl | (simp; done) | (simp [*]; done)), H', ⟨Nat.le_refl _⟩, ⟨by (with_reducible repeat (first | apply Kd.Q_alloc | apply Kd.Q_drewN | apply Kd.Q_drew)); exact Kd.Q_mono (Kd.Q_far (p := ⟨gb127, 1, none⟩) (Kd.Q_far (p := ⟨gb127, 2, none⟩) (Kd.Q_types HO130.out BK127.out (by decide)) (fun _ hk => hk.2) (.slice A38 y128.length c38)) (fun _ hk => hk.2) (.int .i64 (wrap64 (a0_1 + t118)))) (fun _ hk => trivial)⟩, ⟨by (with_reducible repeat (first | apply rA | apply rN | apply rD)); exact Kd.R_mono (Kd.R_far (p := ⟨gb127, 1, none⟩) (Kd.R_far (p := ⟨gb127, 2, none⟩) (Kd.R_types HO126.out BK127.out (by decide)) (fun _ hk => hk.2) (.slice A38 y128.length c38)) (fun _ hk => hk.2) (.int .i64 (wrap64 (a0_1 + t118)))) (fun _ hk => trivial)⟩, ⟨by refine kF NB101_127.out ?_; refine kF NB101_127.out ?_; (with_reducible repeat (first | apply kN | apply kD | apply kA)); exact BK101.out⟩, ⟨by refine kF NB102_127.out ?_; refine kF NB102_127.out ?_; (with_reducible repeat (first | apply kN | apply kD | apply kA)); exact BK102.out⟩, ⟨by refine kP (cs := #[.string t119, .int .i64 t120, .slice A38 y128.length c38, .slice Ao35 t124.length co35]) 1 ?_; refine kP (cs := #[.string t119, .int .i64 t120, .slice Ao34 t121.length co34, .slice Ao35 t124.length co35]) 2 ?_; (with_reducible repeat (first | apply kN | apply kD | apply kA)); exact BK127.out⟩, ⟨bX HB.out⟩⟩
     case round =>
      clear H'
      (try clear c1); (try clear c2); (try clear p2); (try clear c3); (try clear q3); (try clear p6); (try clear c7); (try clear c8); (try clear c9); (try clear c12); (try clear c15); (try clear c17); (try clear c18); (try clear c25); (try clear c25b0); (try clear c25b1); (try clear c26); (try clear c26b0); (try clear c26b1); (try clear c27); (try clear c28); (try clear c29); (try clear c30); (try clear c31); (try clear c32); (try clear c38); (try clear q38); (try clear hcz10); (try clear hcz13); (try clear hcz19); (try clear hcz28); (try clear hcz33); (try clear hcz37); (try clear hcz39); (try clear hfz10); (try clear hfz13); (try clear hfz19); (try clear hfz28); (try clear hfz33); (try clear hfz37); (try clear hfz39)
      obtain ⟨x7_2, x128003_2, u128003, rfl, HA, HK2, HO_128002, HO_128003, BK101, BK102, BK127, HB⟩ := hrel
      cases gk with
      | zero => exact absurd HA.out (by simp [spec_TopicRetain.l0])
      | succ k2 =>
       have H := HA.out
       clear HA
       simp only [spec_TopicRetain.l0] at H
       by_cases c40 : x7_2 < (x128003_2.length : Int)
       ·
        rw [if_pos c40] at H
        have c40b0 : decide (x7_2 < (x128003_2.length : Int)) = true := decide_eq_true c40
        clear c40
        by_cases c41 : 0 ≤ x7_2
        ·
         rw [if_pos c41] at H
         have c41b0 : decide (0 ≤ x7_2) = true := decide_eq_true c41
         clear c41
         replace H := Option.bind_eq_some_iff.mp H
         obtain ⟨t132, A420, H⟩ := H
         replace H : (spec_TopicRetain.l0 k2 t118 (wrap64 (x7_2 + 1)) t119 (wrap64 (a0_1 + t118)) y128 (x128003_2.set (x7_2 : Int).toNat (⟨(rd_T36 x128003_2 x7_2).f0, t132⟩ : S36))) = some (r1, r2, r3, r4, r5, r6, r7) := H
         have A42 := AM A420
         clear A420
         obtain ⟨y133, hy133⟩ : ∃ y_ : List (S36), y_ = (x128003_2.set (x7_2 : Int).toNat (⟨(rd_T36 x128003_2 x7_2).f0, t132⟩ : S36)) := ⟨_, rfl⟩
         replace H : (spec_TopicRetain.l0 k2 t118 (wrap64 (x7_2 + 1)) t119 (wrap64 (a0_1 + t118)) y128 y133) = some (r1, r2, r3, r4, r5, r6, r7) := by first | (rw [hy133]; with_reducible exact H) | (have H2_ := (Option.bind_some _ _).symm.trans H; rw [hy133]; with_reducible exact H2_) | (have H2_ := (Option.bind_some _ _).symm.trans H; with_reducible exact H2_) | with_reducible exact H | (rw [hy133]; exact H) | exact H
         have Ny133 := AM hy133
         clear hy133
         have H' := AM H
         clear H
         have hnb44 := NB127_101.out
         have hnc44 := NB101_127.out
         have hnb45 := NB127_102.out
         have hnc45 := NB102_127.out
         have hcz46 := q4 BK127.out
         have hfz46 := fZ BK127.out
         obtain ⟨Ao47, co47, eo47⟩ := Kd.R_slice HO_128003.out
         subst eo47
         try go_wp2
         have _ := AM (Kd.Q_drew HO_128002.out)
         have _ := AM (rD HO_128003.out)
         have _ := AM (kD BK101.out)
         have _ := AM (kD BK102.out)
         have _ := AM (kD BK127.out)
         have _ := AM (bD HB.out)
         clear HO_128002 HO_128003 BK101 BK102 BK127 HB
         rename_i HO_128002 HO_128003 BK101 BK102 BK127 HB
         have p131 : 0 ≤ (x7_2 : Int) := of_decide_eq_true (by assumption)
         have q131 : x7_2 < (x128003_2.length : Int) := of_decide_eq_true (by assumption)
         obtain ⟨ad131, e131, hx131_0, hx131_1⟩ := at_T36 (Kd.R_reads' HO_128003.out).2.2 x7_2 p131 q131
         cases e131
         replace p131 := eq_true p131
         replace q131 := eq_true q131
         refine start_ (n := 15) (S := fun w' => w'.cell? ⟨gb127, 0, none⟩ = some (.string t119) ∧ w'.cell? ⟨gb127, 1, none⟩ = some (.int .i64 (wrap64 (a0_1 + t118))) ∧ w'.cell? ⟨gb127, 2, none⟩ = some (.slice A38 y128.length c38) ∧ w'.cell? ⟨gb127, 3, none⟩ = some (.slice (some ad131) x128003_2.length co47) ∧ w'.cell? (ad131.add ((x7_2).toNat * 2)) = some (.string ((rd_T36 x128003_2 x7_2).f0)) ∧ w'.cell? ⟨(ad131.add ((x7_2).toNat * 2)).block, (ad131.add ((x7_2).toNat * 2)).off + 1, none⟩ = some (.int .i64 ((rd_T36 x128003_2 x7_2).f1))) (ds := [14]) (upTo 0 15) (by kernel_rfl) rfl rfl ⟨(kC BK127.out 0).trans rfl, (kC BK127.out 1).trans rfl, (kC BK127.out 2).trans rfl, (kC BK127.out 3).trans rfl, hx131_0, hx131_1⟩ (fun hHeld => ?_); refine with_tabW spec_TopicRetain.tab10 spec_TopicRetain.bits10 (fun HT_ HW_ => ?_)
         generalize wr.drew = w48 at HO_128002 HO_128003 BK101 BK102 BK127 HB hx131_0 hx131_1 hHeld ⊢
         refine pF 0 1 15 42 ?_
         refine pF2 2 44 spec_TopicRetain.b0 ?_
         refine pF2 3 45 spec_TopicRetain.b1 ?_
         refine pF2 5 47 spec_TopicRetain.b2 ?_
         refine pF2 7 49 spec_TopicRetain.b3 ?_
         refine pT2 1 43 spec_TopicRetain.b4 ?_ hHeld
         refine pT2 4 46 spec_TopicRetain.b5 ?_ hHeld
         refine pT2 6 48 (upTo 8 15) ?_ hHeld
         refine pF 8 9 15 50 ?_
         refine pF 9 10 15 51 ?_
         refine pT2 10 52 (upTo 11 15) ?_ hHeld
         refine one_ (i := 11) (N := some 53) (upTo 12 15) rfl rfl (one_of HT_.out (by kernel_rfl)) (by decide) (fun K hK => ?_)
         refine goes_ Try.func29 (by kernel_rfl) rfl #[.int .i64 (wrap64 (a0_1 + t118)), .int .i64 ((rd_T36 x128003_2 x7_2).f1)] (by rfl) rfl rfl (by (try simp only [mA, mB, mC]); first | done | rfl | (simp only [mD, mE]; rfl)) ?_
         with_reducible refine (spec_l01Max.calls (wrap64 (a0_1 + t118)) ((rd_T36 x128003_2 x7_2).f1) t132 _ A42.out).mono ?_
         rintro e w' ⟨rfl, ⟨nd, rfl⟩⟩
         refine ⟨_, rfl, ?_⟩
         have p43 : 0 ≤ (x7_2 : Int) := of_decide_eq_true (by assumption)
         have q43 : (x7_2 : Int) < ((x128003_2.length : Int) : Int) := of_decide_eq_true (by assumption)
         obtain ⟨go43, co43, eo43, gb43, gl43, cl43, HG43⟩ := Kd.R_form HO_128003.out (by omega)
         (first | cases eo43 | (injection eo43 with ea_ en_ ec_; (first | subst ea_ | (injection ea_ with ea_; subst ea_)); subst ec_; clear en_))
         have GB43 := AM gb43
         have GG43 := AM HG43
         clear gb43 gl43 HG43
         (first | simp only [add_plain] at hx131_0 | skip)
         (first | simp only [add_plain] at hx131_1 | skip)
         obtain ⟨ce43, hcl43, hM43, hcc43, hfr43⟩ := Kd.R_elem HO_128003.out z36 (x7_2 : Int) p43 q43
         obtain rfl := k36_openM hM43
         have hx43_0 : World.cell? _ ⟨go43, (x7_2 : Int).toNat * 2, none⟩ = some (.string ((rd_T36 x128003_2 x7_2).f0)) := hcc43 0 _ rfl
         have hx43_1 : World.cell? _ ⟨go43, (x7_2 : Int).toNat * 2 + 1, none⟩ = some (.int .i64 ((rd_T36 x128003_2 x7_2).f1)) := hcc43 1 _ rfl
         have hf43_0 : World.frozen? _ ⟨go43, (x7_2 : Int).toNat * 2, none⟩ = false := hfr43 0
         have hf43_1 : World.frozen? _ ⟨go43, (x7_2 : Int).toNat * 2 + 1, none⟩ = false := hfr43 1
         clear hcl43 hcc43 hfr43 hM43
         replace p43 := eq_true p43
         replace q43 := eq_true q43
         obtain ⟨ce49, hcl49, hM49, hcc49, hfr49⟩ := Kd.R_elem HO_128003.out z36 (x7_2 : Int) (of_decide_eq_true (by assumption)) (by have h_ : (x7_2 : Int) < ((x128003_2.length : Int) : Int) := of_decide_eq_true (by assumption); first | exact h_ | (have e_ := (Kd.R_reads' HO_128003.out).1; omega) | simpa using h_)
         obtain rfl := k36_openM hM49
         have HP49 := (Kd.R_seg HO_128003.out (x7_2 : Int) (of_decide_eq_true (by assumption)) (by have h_ : (x7_2 : Int) < ((x128003_2.length : Int) : Int) := of_decide_eq_true (by assumption); first | exact h_ | (have e_ := (Kd.R_reads' HO_128003.out).1; omega) | simpa using h_) (seg := [.int .i64 t132]) (j := 1) hcl49 hcc49 (show 2 ≤ 2 from by decide) (x' := (⟨(rd_T36 x128003_2 x7_2).f0, t132⟩ : S36)) (k36_mkM _ _ _ (⟨(rd_T36 x128003_2 x7_2).f0, t132⟩ : S36) ) (fun _ hk => hk)).1
         rw [← Ny133.out] at HP49
         have HQ49 := AM HP49
         clear hcl49 hcc49 hfr49 hM49 HP49
         refine hK.out _ _ ⟨(kC BK127.out 0).trans rfl, (kC BK127.out 1).trans rfl, (kC BK127.out 2).trans rfl, (kC BK127.out 3).trans rfl, hHeld.2.2.2.2.1, hHeld.2.2.2.2.2⟩ (fun hHeld => ?_)
         clear hK K
         refine norm_ (a' := ?_) ?_ ?_
         rotate_left
         ·
          show Act.put _ (some 53) _ = _
          simp only [Act.put, sA, sB, sC, i64_w, i32_w]
          rfl
         refine pF 12 13 15 54 ?_
         refine pF 13 14 15 55 ?_
         refine last_ (i := 14) (N := none) (upTo 15 15) rfl rfl (one_of HT_.out (by kernel_rfl)) (by decide) (fun K hK => ?_)
         refine skip_ (w1 := ?_) (by rfl) rfl ?_ ?_
         rotate_left
         ·
          go_simp
          rfl
         refine hK.out _ _ ?_
         clear hK K
         refine done_ (done_of HT_.out (by kernel_rfl)) ?_
         try go_wp2
         go_roundg k2
         case measure => have := HJ2.out; have := HK2.out; omega
         case rel => exact ⟨(wrap64 (x7_2 + 1)), (y133), (.slice (some ⟨go43, 0, none⟩) x128003_2.length co47), (by first | rfl | (simp; done) | (simp [*]; done)), H', ⟨by have := HJ2.out; have := HK2.out; omega⟩, ⟨by (with_reducible repeat (first | apply Kd.Q_alloc | apply Kd.Q_drewN | apply Kd.Q_drew)); exact Kd.Q_mono (Kd.Q_far (p := ⟨go43, (x7_2 : Int).toNat * 2 + 1, none⟩) (Kd.Q_types HO_128002.out GG43.out (by decide)) (fun _ hk => hk.2) (.int .i64 t132)) (fun _ hk => trivial)⟩, ⟨rX HQ49.out⟩, ⟨by (with_reducible repeat (first | apply kN | apply kD | apply kA)); refine blk_far ?_ (by have h_ := Kd.R_ne HO_128003.out BK101.out (by decide); intro e_; exact h_ (by rw [e_]; rfl)) _; (with_reducible repeat (first | apply kN | apply kD | apply kA)); exact BK101.out⟩, ⟨by (with_reducible repeat (first | apply kN | apply kD | apply kA)); refine blk_far ?_ (by have h_ := Kd.R_ne HO_128003.out BK102.out (by decide); intro e_; exact h_ (by rw [e_]; rfl)) _; (with_reducible repeat (first | apply kN | apply kD | apply kA)); exact BK102.out⟩, ⟨by (with_reducible repeat (first | apply kN | apply kD | apply kA)); refine blk_far ?_ (by have h_ := Kd.R_ne HO_128003.out BK127.out (by decide); intro e_; exact h_ (by rw [e_]; rfl)) _; (with_reducible repeat (first | apply kN | apply kD | apply kA)); exact BK127.out⟩, ⟨by repeat (first | (with_reducible first | exact HB.out | apply bA | apply bN | apply bD | refine bS ?_ GB43.out | refine bS ?_ GE101.out | refine bS ?_ GE102.out | refine bS ?_ GE127.out) | exact HB.out)⟩⟩
        rw [if_neg c41] at H
        exact absurd H (by simp)
       rw [if_neg c40] at H
       have c40b0 : decide (x7_2 < (x128003_2.length : Int)) = false := decide_eq_false c40
       clear c40
       simp only [Option.some.injEq, Prod.mk.injEq] at H
       obtain ⟨rfl, rfl, rfl, rfl, rfl, rfl, rfl⟩ := H
       have hnb50 := NB127_101.out
       have hnc50 := NB101_127.out
       have hnb51 := NB127_102.out
       have hnc51 := NB102_127.out
       have hcz52 := q4 BK127.out
       have hfz52 := fZ BK127.out
       obtain ⟨Ao53, co53, eo53⟩ := Kd.R_slice HO_128003.out
       subst eo53
       have hnb54 := NB102_101.out
       have hnc54 := NB101_102.out
       have hcz55 := q7 BK102.out
       have hfz55 := fZ BK102.out
       go_wp2
       refine bodyPost_ret (results_cell_row rfl _ _ gb102 30 #[.string t119, .int .i64 (wrap64 (a0_1 + t118)), .slice A38 y128.length c38, .slice Ao53 x128003_2.length co53, .slice none 0 0, .int .i64 t118, .int .i64 0] (0, 0) _ rfl (by refine kP (cs := #[.string t119, .int .i64 (wrap64 (a0_1 + t118)), .slice A38 y128.length c38, .slice Ao53 x128003_2.length co53, .slice none 0 0, .int .i64 t118, .int .i64 0]) 6 ?_; refine kP (cs := #[.string t119, .int .i64 (wrap64 (a0_1 + t118)), .slice A38 y128.length c38, .slice Ao53 x128003_2.length co53, .slice none 0 0, .int .i64 0, .int .i64 0]) 5 ?_; refine kP (cs := #[.string t119, .int .i64 (wrap64 (a0_1 + t118)), .slice A38 y128.length c38, .slice Ao53 x128003_2.length co53, .slice none 0 0, .int .i64 0, .int .i64 0]) 4 ?_; refine kP (cs := #[.string t119, .int .i64 (wrap64 (a0_1 + t118)), .slice A38 y128.length c38, .slice none 0 0, .slice none 0 0, .int .i64 0, .int .i64 0]) 3 ?_; refine kP (cs := #[.string t119, .int .i64 (wrap64 (a0_1 + t118)), .slice none 0 0, .slice none 0 0, .slice none 0 0, .int .i64 0, .int .i64 0]) 2 ?_; refine kP (cs := #[.string t119, .int .i64 0, .slice none 0 0, .slice none 0 0, .slice none 0 0, .int .i64 0, .int .i64 0]) 1 ?_; refine kP (cs := #[.string (⟨#[]⟩ : ByteArray), .int .i64 0, .slice none 0 0, .slice none 0 0, .slice none 0 0, .int .i64 0, .int .i64 0]) 0 ?_; (with_reducible repeat (first | apply kN | apply kD | apply kA)); exact BK102.out) Try.underlying30 rfl (by kernel_rfl)) rfl ?_
       exact ⟨_, _, _, by first | rfl | (simp [*, errW_none, errW_some] <;> rfl), by (with_reducible repeat (first | apply Kd.Q_alloc | apply Kd.Q_drewN | apply Kd.Q_drew)); exact Qf7 HO_128002.out BK102.out (by decide) (fun _ hk => (by simp [Value.ownBlock])), by (with_reducible repeat (first | apply rA | apply rN | apply rD)); exact Rf7 HO_128003.out BK102.out (by decide) (fun _ hk => trivial), by first | exact Kd.R_nil _ _ _ _ _ | exact Kd.N_nil _ _ _ _ _ | exact Kd.V_nil _ _ _ _ _ | exact Kd.Q_nil _ _ _ _ _ | exact Kd.S_nil _ _ _ _ _, bX HB.out⟩
    rw [if_neg c26] at H
    exact absurd H (by simp)
   rw [if_neg c25] at H
   exact absurd H (by simp)

end Go.Proofs.Ytcnilcipcnjmjaa.Q
