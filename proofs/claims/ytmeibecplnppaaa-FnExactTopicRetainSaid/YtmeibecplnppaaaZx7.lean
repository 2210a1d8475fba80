/- Printed by a program of this session (wip/mp.py over the kit's print.py): functions of the translation as plain Lean functions, and that the machine's calls do what these say. -/
import Derived.Test.YtmeibecplnppaaaZx0
import Derived.Test.YtmeibecplnppaaaZx4
import Derived.Test.YtmeibecplnppaaaZx6
namespace Go.Proofs.Ytmeibecplnppaaa.Z
open Go.RowKit Go.Proofs.Ytmeibecplnppaaa.HB Go.Proofs.YtmeibecplnppaaaW.PrintWords Go.Proofs.YtmeibecplnppaaaW.PrintLast Go.Proofs.YtmeibecplnppaaaW.PrintMore
attribute [local go_sem] max2_int min2_int max_two min_two max_three min_three max_four min_four   -- for this text's walks alone
set_option linter.unusedVariables false
set_option linter.unusedSimpArgs false

/-! ### slices_Clone_string_string: function 72 (by hand) -/
def slices_Clone_string_string.f (l0 : List ByteArray) : Option (List ByteArray) := (some (([] : List ByteArray) : List ByteArray)).bind fun y101 => (if y101.length + l0.length < 8796093022208 then (some (y101 ++ l0)) else (none))
set_option maxHeartbeats 60000000 in
set_option maxRecDepth 100000 in
theorem slices_Clone_string_string.calls (A0 : Option Addr) (c0 : Nat) (l0 : List ByteArray) (r : List ByteArray) (w : World) (hr0 : Kd.C Kd.string w A0 l0.length l0) (hc0 : l0.length ≤ c0) (h : slices_Clone_string_string.f l0 = some r) :
    Calls Try.prog 72 #[.slice A0 l0.length c0] w fun e w' => ∃ v0_ : Value, e = .returned (v0_) ∧ Kd.R Kd.string 9 w' w.heap.size (fun _ => True) v0_ r ∧ Below w.heap.size w w' := by
  have HR0 := Aside0.mk hr0
  have HC0 := Aside0.mk hc0
  clear hr0 hc0
  have HB := Aside0.mk (Below.refl w.heap.size w)
  have H : ((some (([] : List ByteArray) : List ByteArray)).bind fun y101 => (if y101.length + l0.length < 8796093022208 then (some (y101 ++ l0)) else (none))) = some r := h
  clear h
  obtain ⟨y101, hy101⟩ : ∃ y_ : List ByteArray, y_ = (([] : List ByteArray)) := ⟨_, rfl⟩
  replace H : (if y101.length + l0.length < 8796093022208 then (some (y101 ++ l0)) else (none)) = some r := by first | (rw [hy101]; with_reducible exact H) | (have H2_ := (Option.bind_some _ _).symm.trans H; rw [hy101]; with_reducible exact H2_) | (have H2_ := (Option.bind_some _ _).symm.trans H; with_reducible exact H2_) | with_reducible exact H | (rw [hy101]; exact H) | exact H
  have Ny101 := Aside0.mk hy101
  clear hy101
  by_cases c2 : y101.length + l0.length < 8796093022208
  · rw [if_pos c2] at H
    have LMc2 := Aside0.mk c2
    clear c2
    obtain ⟨y104, hy104⟩ : ∃ y_ : List ByteArray, y_ = (y101 ++ l0) := ⟨_, rfl⟩
    replace H : (some y104) = some r := by first | (rw [hy104]; with_reducible exact H) | (have H2_ := (Option.bind_some _ _).symm.trans H; rw [hy104]; with_reducible exact H2_) | (have H2_ := (Option.bind_some _ _).symm.trans H; with_reducible exact H2_) | with_reducible exact H | (rw [hy104]; exact H) | exact H
    have Ny104 := Aside0.mk hy104
    clear hy104
    obtain rfl := Option.some.inj H
    have HN := Aside0.mk (fun (h : A0 = none) => (C_none (h ▸ HR0.out) : l0 = []))
    cases A0 with
    | none =>
      obtain rfl := HN.out rfl
      have hq : ∀ w : World, Sem.run Try.prog (binOp .eql 22 (.slice none 0 c0) (.slice none 0 0)) w = .ok (.bool true) w := fun w => Lib.run_eql_slice_nil w 22 9 none 0 c0 0 0 Try.underlying22
      go_enter Try.func72, Try.ntmps72
      go_wp2
      go_ret
      exact ⟨_, rfl, by rw [show y104 = [] from by rw [Ny104.out, Ny101.out]; rfl]; exact Kd.R_nil _ _ _ _ _, HB.out⟩
    | some ad0 =>
      clear HN
      have hq : ∀ w : World, Sem.run Try.prog (binOp .eql 22 (.slice (some ad0) l0.length c0) (.slice none 0 0)) w = .ok (.bool false) w := fun w => Lib.run_eql_slice_nil w 22 9 (some ad0) l0.length c0 0 0 Try.underlying22
      go_enter Try.func72, Try.ntmps72
      go_wp2_with (first | ((with_reducible refine gate_dst (N := 5) rfl ?_); refine Kd.R_lit Kd.string _ 9 ?hg (N := 5) ?hd (xs := ([] : List ByteArray)) (inner := []) (ok := fun _ => True) (okp := fun _ => True) ?hr ?hp (fun _ hk => hk) trivial (Below.refl _ _) (Nat.le_refl _) (by simp) ?_; (case hd => rfl); (case hg => rfl); (case hr => first | (go_simp; done) | (go_simp; rfl)); (case hp => exact (Reps.none _ _)); intro v102 w3 ho4 hb hg_ hnew_; clear hg_ hnew_; (first | rw [← Ny101.out] at ho4 | (simp only [Int.reduceToNat] at ho4; rw [← Ny101.out] at ho4)); have n0_ := Aside0.mk (Kd.R_lower ho4 (below_size (by repeat (first | (with_reducible first | exact HB.out | apply below_alloc | apply pw_below_drewN | apply below_drew1) | exact HB.out)))); have n1_ := Aside0.mk (below_step (by repeat (first | (with_reducible first | exact HB.out | apply below_alloc | apply pw_below_drewN | apply below_drew1) | exact HB.out)) hb); clear HB; have HO103 := n0_; have HB := n1_; clear n0_ n1_; clear hb ho4) | ((with_reducible refine gate_builtin (b := .append) (xs := #[.tmp 5, .tmp 6]) rfl ?_); at_builtin; refine Kd.R_append_rows Kd.string (w0 := w) w.heap.size rfl (.tmp 5) (.tmp 6) 22 9 (.string ⟨#[]⟩) 16 rfl Try.underlying22 info9 rfl (by decide) (by omega) v102 y101 l0 _ _ _ (fun _ => True) (fun _ => False) rfl rfl ?aO ?aR (fun _ _ h => h) (fun _ h => h.elim) ?aF ?aB ?aS ?aL ?_; (case aR => repeat (first | exact (Kd.C_below HR0.out HB.out) | (with_reducible refine Kd.C_alloc ?_ _) | (with_reducible refine Kd.C_drewN ?_ _) | (with_reducible refine Kd.C_drew ?_))); (case aB => exact (by repeat (first | (with_reducible first | exact HB.out | apply below_alloc | apply pw_below_drewN | apply below_drew1) | exact HB.out))); (case aF => exact (fun _ _ => trivial)); (case aO => exact (by (with_reducible repeat (first | apply Kd.R_alloc | apply Kd.R_drewN | apply Kd.R_drew)); exact HO103.out)); (case aS => exact (below_size (by repeat (first | (with_reducible first | exact HB.out | apply below_alloc | apply pw_below_drewN | apply below_drew1) | exact HB.out)))); (case aL => have := LMc2.out; omega); intro v105 w5 ho hb hg hat; rw [← Ny104.out] at ho; have n0_ := Aside0.mk (hb); have n1_ := Aside0.mk (ho); clear HB; clear HO103; have HB := n0_; have HO106 := n1_; clear n0_ n1_; clear ho hb hg hat))
      go_ret
      exact ⟨_, by first | rfl | (simp [errW_none, errW_some] <;> rfl) | (simp [*, errW_none, errW_some] <;> rfl), by (with_reducible repeat (first | apply Kd.R_alloc | apply Kd.R_drewN | apply Kd.R_drew)); exact HO106.out, by repeat (first | (with_reducible first | exact HB.out | apply below_alloc | apply pw_below_drewN | apply below_drew1) | exact HB.out)⟩
  · rw [if_neg c2] at H
    exact absurd H (by simp)


/-! ### impl_Group: function 73 (by hand) -/
def impl_Group.f (l0 : List (S52)) : Option ((List (S52))) := (some (([] : List (S52)) : List (S52))).bind fun y101 => (if y101.length + l0.length < 5864062014805 then (some (y101 ++ l0)) else (none))
set_option maxHeartbeats 60000000 in
set_option maxRecDepth 100000 in
theorem impl_Group.calls (A0 : Option Addr) (c0 : Nat) (l0 : List (S52)) (r : List (S52)) (w : World) (hr0 : Kd.C k52 w A0 l0.length l0) (hc0 : l0.length ≤ c0) (h : impl_Group.f l0 = some r) :
    Calls Try.prog 73 #[.slice A0 l0.length c0] w fun e w' => ∃ v0_ : Value, e = .returned (v0_) ∧ Kd.R k52 52 w' w.heap.size (fun _ => True) v0_ r ∧ Below w.heap.size w w' := by
  have HR0 := Aside0.mk hr0
  have HC0 := Aside0.mk hc0
  clear hr0 hc0
  have HB := Aside0.mk (Below.refl w.heap.size w)
  have H : ((some (([] : List (S52)) : List (S52))).bind fun y101 => (if y101.length + l0.length < 5864062014805 then (some (y101 ++ l0)) else (none))) = some r := h
  clear h
  obtain ⟨y101, hy101⟩ : ∃ y_ : List (S52), y_ = (([] : List (S52))) := ⟨_, rfl⟩
  replace H : (if y101.length + l0.length < 5864062014805 then (some (y101 ++ l0)) else (none)) = some r := by first | (rw [hy101]; with_reducible exact H) | (have H2_ := (Option.bind_some _ _).symm.trans H; rw [hy101]; with_reducible exact H2_) | (have H2_ := (Option.bind_some _ _).symm.trans H; with_reducible exact H2_) | with_reducible exact H | (rw [hy101]; exact H) | exact H
  have Ny101 := Aside0.mk hy101
  clear hy101
  by_cases c2 : y101.length + l0.length < 5864062014805
  · rw [if_pos c2] at H
    have LMc2 := Aside0.mk c2
    clear c2
    obtain ⟨y104, hy104⟩ : ∃ y_ : List (S52), y_ = (y101 ++ l0) := ⟨_, rfl⟩
    replace H : (some y104) = some r := by first | (rw [hy104]; with_reducible exact H) | (have H2_ := (Option.bind_some _ _).symm.trans H; rw [hy104]; with_reducible exact H2_) | (have H2_ := (Option.bind_some _ _).symm.trans H; with_reducible exact H2_) | with_reducible exact H | (rw [hy104]; exact H) | exact H
    have Ny104 := Aside0.mk hy104
    clear hy104
    obtain rfl := Option.some.inj H
    have HN := Aside0.mk (fun (h : A0 = none) => (C_none (h ▸ HR0.out) : l0 = []))
    cases A0 with
    | none =>
      obtain rfl := HN.out rfl
      have hq : ∀ w : World, Sem.run Try.prog (binOp .eql 28 (.slice none 0 c0) (.slice none 0 0)) w = .ok (.bool true) w := fun w => Lib.run_eql_slice_nil w 28 52 none 0 c0 0 0 Try.underlying28
      go_enter Try.func73, Try.ntmps73
      go_wp2
      go_ret
      exact ⟨_, rfl, by rw [show y104 = [] from by rw [Ny104.out, Ny101.out]; rfl]; exact Kd.R_nil _ _ _ _ _, HB.out⟩
    | some ad0 =>
      clear HN
      have hq : ∀ w : World, Sem.run Try.prog (binOp .eql 28 (.slice (some ad0) l0.length c0) (.slice none 0 0)) w = .ok (.bool false) w := fun w => Lib.run_eql_slice_nil w 28 52 (some ad0) l0.length c0 0 0 Try.underlying28
      go_enter Try.func73, Try.ntmps73
      go_wp2_with (first | ((with_reducible refine gate_dst (N := 5) rfl ?_); refine Kd.R_lit k52 _ 52 ?hg (N := 5) ?hd (xs := ([] : List (S52))) (inner := []) (ok := fun _ => True) (okp := fun _ => True) ?hr ?hp (fun _ hk => hk) trivial (Below.refl _ _) (Nat.le_refl _) (by simp) ?_; (case hd => rfl); (case hg => rfl); (case hr => first | (go_simp; done) | (go_simp; rfl)); (case hp => exact (Reps.none _ _)); intro v102 w3 ho4 hb hg_ hnew_; clear hg_ hnew_; (first | rw [← Ny101.out] at ho4 | (simp only [Int.reduceToNat] at ho4; rw [← Ny101.out] at ho4)); have n0_ := Aside0.mk (Kd.R_lower ho4 (below_size (by repeat (first | (with_reducible first | exact HB.out | apply below_alloc | apply pw_below_drewN | apply below_drew1) | exact HB.out)))); have n1_ := Aside0.mk (below_step (by repeat (first | (with_reducible first | exact HB.out | apply below_alloc | apply pw_below_drewN | apply below_drew1) | exact HB.out)) hb); clear HB; have HO103 := n0_; have HB := n1_; clear n0_ n1_; clear hb ho4) | ((with_reducible refine gate_builtin (b := .append) (xs := #[.tmp 5, .tmp 6]) rfl ?_); at_builtin; refine Kd.R_append_rows k52 (w0 := w) w.heap.size rfl (.tmp 5) (.tmp 6) 28 52 (.agg #[(.string ⟨#[]⟩), (.int .i64 0)]) 24 rfl Try.underlying28 info52 rfl (by decide) (by omega) v102 y101 l0 _ _ _ (fun _ => True) (fun _ => False) rfl rfl ?aO ?aR (fun _ _ h => h) (fun _ h => h.elim) ?aF ?aB ?aS ?aL ?_; (case aR => repeat (first | exact (Kd.C_below HR0.out HB.out) | (with_reducible refine Kd.C_alloc ?_ _) | (with_reducible refine Kd.C_drewN ?_ _) | (with_reducible refine Kd.C_drew ?_))); (case aB => exact (by repeat (first | (with_reducible first | exact HB.out | apply below_alloc | apply pw_below_drewN | apply below_drew1) | exact HB.out))); (case aF => exact (fun _ _ => trivial)); (case aO => exact (by (with_reducible repeat (first | apply Kd.R_alloc | apply Kd.R_drewN | apply Kd.R_drew)); exact HO103.out)); (case aS => exact (below_size (by repeat (first | (with_reducible first | exact HB.out | apply below_alloc | apply pw_below_drewN | apply below_drew1) | exact HB.out)))); (case aL => have := LMc2.out; omega); intro v105 w5 ho hb hg hat; rw [← Ny104.out] at ho; have n0_ := Aside0.mk (hb); have n1_ := Aside0.mk (ho); clear HB; clear HO103; have HB := n0_; have HO106 := n1_; clear n0_ n1_; clear ho hb hg hat))
      go_ret
      exact ⟨_, by first | rfl | (simp [errW_none, errW_some] <;> rfl) | (simp [*, errW_none, errW_some] <;> rfl), by (with_reducible repeat (first | apply Kd.R_alloc | apply Kd.R_drewN | apply Kd.R_drew)); exact HO106.out, by repeat (first | (with_reducible first | exact HB.out | apply below_alloc | apply pw_below_drewN | apply below_drew1) | exact HB.out)⟩
  · rw [if_neg c2] at H
    exact absurd H (by simp)


/-! ### impl_cloneTopic: function 50 -/
abbrev impl_cloneTopic.b0 : Array Bool := #[true, false, false, true, false, false, false, false, false, false]
abbrev impl_cloneTopic.b1 : Array Bool := #[true, true, false, true, false, false, false, false, false, false]
abbrev impl_cloneTopic.b2 : Array Bool := #[true, true, false, true, true, false, false, false, false, false]
abbrev impl_cloneTopic.b3 : Array Bool := #[true, true, true, true, true, false, true, false, false, false]
def impl_cloneTopic.f (a0_0 : ByteArray) (a0_1 : Int) (l0_2 : List ByteArray) (l0_3 : List (S52)) : Option (ByteArray × Int × List ByteArray × (List (S52))) := (slices_Clone_string_string.f l0_2).bind fun t103 => ((impl_Group.f l0_3).bind fun t106 => (some (a0_0, a0_1, t103, t106)))
def impl_cloneTopic.T1 : Bool × List (List Nat × List Nat) := (true, [([], []), ([0], [0]), ([1], [1]), ([], []), ([3], [3]), ([4, 2], [4]), ([0, 1, 2, 3, 4], []), ([6, 2, 5, 0, 1, 2, 3, 4], [2, 6]), ([0, 1, 2, 3, 4, 5, 6, 7], []), ([8, 5, 7, 0, 1, 2, 3, 4, 5, 6, 7], [5, 8])])
def impl_cloneTopic.B1 : List Nat := [0, 1, 3, 0, 8, 31, 31, 127, 255, 511]
theorem impl_cloneTopic.tab1 : rtab .any (opsOf Try.f50 1) = impl_cloneTopic.T1 := by kernel_rfl
theorem impl_cloneTopic.bits1 : waitsOk impl_cloneTopic.T1.2 impl_cloneTopic.B1 = true := by kernel_rfl
set_option maxHeartbeats 60000000 in
set_option maxRecDepth 100000 in
theorem impl_cloneTopic.calls (a0_0 : ByteArray) (a0_1 : Int) (A0_2 : Option Addr) (c0_2 : Nat) (l0_2 : List ByteArray) (A0_3 : Option Addr) (c0_3 : Nat) (l0_3 : List (S52)) (r1 : ByteArray) (r2 : Int) (r3 : List ByteArray) (r4 : List (S52)) (w : World) (hr0_2 : Kd.C Kd.string w A0_2 l0_2.length l0_2) (hc0_2 : l0_2.length ≤ c0_2) (hr0_3 : Kd.C k52 w A0_3 l0_3.length l0_3) (hc0_3 : l0_3.length ≤ c0_3) (h : impl_cloneTopic.f a0_0 a0_1 l0_2 l0_3 = some (r1, r2, r3, r4)) :
    Calls Try.prog 50 #[.agg #[.string a0_0, .int .i64 a0_1, .slice A0_2 l0_2.length c0_2, .slice A0_3 l0_3.length c0_3]] w fun e w' => ∃ v2_ v3_ : Value, e = .returned (.agg #[.string r1, .int .i64 r2, v2_, v3_]) ∧ Kd.R Kd.string 9 w' w.heap.size (fun _ => True) v2_ r3 ∧ Kd.R k52 52 w' w.heap.size (fun _ => True) v3_ r4 ∧ Below w.heap.size w w' := by
 have hu30 := Try.underlying30
 have HR0_2 := AM hr0_2
 have HC0_2 := AM hc0_2
 clear hr0_2 hc0_2
 have HR0_3 := AM hr0_3
 have HC0_3 := AM hc0_3
 clear hr0_3 hc0_3
 have HB := AM (Below.refl w.heap.size w)
 have H : ((slices_Clone_string_string.f l0_2).bind fun t103 => ((impl_Group.f l0_3).bind fun t106 => (some (a0_0, a0_1, t103, t106)))) = some (r1, r2, r3, r4) := h
 clear h
 replace H := Option.bind_eq_some_iff.mp H
 obtain ⟨t103, A20, H⟩ := H
 replace H : ((impl_Group.f l0_3).bind fun t106 => (some (a0_0, a0_1, t103, t106))) = some (r1, r2, r3, r4) := H
 have A2 := AM A20
 clear A20
 replace H := Option.bind_eq_some_iff.mp H
 obtain ⟨t106, A30, H⟩ := H
 replace H : (some (a0_0, a0_1, t103, t106)) = some (r1, r2, r3, r4) := H
 have A3 := AM A30
 clear A30
 simp only [Option.some.injEq, Prod.mk.injEq] at H
 obtain ⟨rfl, rfl, rfl, rfl⟩ := H
 go_enter Try.func50, Try.ntmps50
 try go_wp2_with (first | ((with_reducible refine gate_dst (N := 1) rfl ?_); refine box_event (by rfl) (N := 1) (by rfl) (cs := #[.string a0_0, .int .i64 a0_1, .slice A0_2 l0_2.length c0_2, .slice A0_3 l0_3.length c0_3]) (t := 30) (by first | (go_simp; done) | (go_simp; rfl)) ?_; intro gb101 hg w4 hbox hb; have n0_ := AM (below_step (by repeat (first | (with_reducible first | exact HB.out | apply bA | apply bN | apply bD) | exact HB.out)) hb); have n1_ := AM (hbox); have n2_ := AM ((by rw [hg]; exact (bZ (by repeat (first | (with_reducible first | exact HB.out | apply bA | apply bN | apply bD) | exact HB.out))) : w.heap.size ≤ gb101)); have n3_ := n2_; clear HB; have HB := n0_; have BK101 := n1_; have GW101 := n2_; have GE101 := n3_; clear n0_ n1_ n2_ n3_; clear hb hbox hg) | ((with_reducible refine gate_dst (N := 2) rfl ?_); refine box_event (by rfl) (N := 2) (by rfl) (cs := #[.string (⟨#[]⟩ : ByteArray), .int .i64 0, .slice none 0 0, .slice none 0 0]) (t := 30) (by first | (go_simp; done) | (go_simp; rfl)) ?_; intro gb102 hg w5 hbox hb; have n0_ := AM (blk_below (g := gb101) (o := .cells #[.string a0_0, .int .i64 a0_1, .slice A0_2 l0_2.length c0_2, .slice A0_3 l0_3.length c0_3] 30 (0, 0)) (by (with_reducible repeat (first | apply kN | apply kD | apply kA)); exact BK101.out) hb); have n1_ := AM (below_step (by repeat (first | (with_reducible first | exact HB.out | apply bA | apply bN | apply bD | refine bS ?_ GE101.out) | exact HB.out)) hb); have n2_ := AM (hbox); have n3_ := AM ((by rw [hg]; exact (bZ (by repeat (first | (with_reducible first | exact HB.out | apply bA | apply bN | apply bD | refine bS ?_ GE101.out) | exact HB.out))) : w.heap.size ≤ gb102)); have n4_ := n3_; have n5_ := AM ((by rw [hg]; exact Nat.ne_of_lt (blk_lt (g := gb101) (o := .cells #[.string a0_0, .int .i64 a0_1, .slice A0_2 l0_2.length c0_2, .slice A0_3 l0_3.length c0_3] 30 (0, 0)) (by (with_reducible repeat (first | apply kN | apply kD | apply kA)); exact BK101.out)) : gb101 ≠ gb102)); have n6_ := AM ((by rw [hg]; exact Nat.ne_of_gt (blk_lt (g := gb101) (o := .cells #[.string a0_0, .int .i64 a0_1, .slice A0_2 l0_2.length c0_2, .slice A0_3 l0_3.length c0_3] 30 (0, 0)) (by (with_reducible repeat (first | apply kN | apply kD | apply kA)); exact BK101.out)) : gb102 ≠ gb101)); clear BK101; clear HB; have BK101 := n0_; have HB := n1_; have BK102 := n2_; have GW102 := n3_; have GE102 := n4_; have NB101_102 := n5_; have NB102_101 := n6_; clear n0_ n1_ n2_ n3_ n4_ n5_ n6_; clear hb hbox hg))
 have n0_ := AM (kD BK101.out)
 have n1_ := AM (kD BK102.out)
 have n2_ := AM (bD HB.out)
 clear BK101
 clear BK102
 clear HB
 have BK101 := n0_
 have BK102 := n1_
 have HB := n2_
 clear n0_ n1_ n2_
 refine start_ (n := 10) (S := fun w' => w'.cell? ⟨gb101, 0, none⟩ = some (.string a0_0) ∧ w'.cell? ⟨gb101, 1, none⟩ = some (.int .i64 a0_1) ∧ w'.cell? ⟨gb101, 2, none⟩ = some (.slice A0_2 l0_2.length c0_2) ∧ w'.cell? ⟨gb101, 3, none⟩ = some (.slice A0_3 l0_3.length c0_3)) (ds := [7, 9]) (upTo 0 10) (by kernel_rfl) rfl rfl ⟨(kC BK101.out 0).trans rfl, (kC BK101.out 1).trans rfl, (kC BK101.out 2).trans rfl, (kC BK101.out 3).trans rfl⟩ (fun hHeld => ?_); refine with_tabW impl_cloneTopic.tab1 impl_cloneTopic.bits1 (fun HT_ HW_ => ?_)
 generalize w5.drew = w6 at BK101 BK102 HB hHeld ⊢
 refine pF 0 1 10 3 ?_
 refine pF2 3 6 impl_cloneTopic.b0 ?_
 refine pT2 1 4 impl_cloneTopic.b1 ?_ hHeld
 refine pT2 4 7 impl_cloneTopic.b2 ?_ hHeld
 refine one_ (i := 2) (N := some 5) (upTo 5 10) rfl rfl (one_of HT_.out (by kernel_rfl)) (by decide) (fun K hK => ?_)
 refine goes_ Try.func72 (by kernel_rfl) rfl #[.slice A0_2 l0_2.length c0_2] (by rfl) rfl rfl (by (try simp only [mA, mB, mC]); first | done | rfl | (simp only [mD, mE]; rfl)) ?_
 with_reducible refine (slices_Clone_string_string.calls _ _ l0_2 t103 _ ?side1 ?side2 A2.out).mono ?_
 (case side1 => repeat (first | exact (cB HR0_2.out HB.out) | (with_reducible refine cA ?_ _) | (with_reducible refine cN ?_ _) | (with_reducible refine cD ?_)))
 (case side2 => exact HC0_2.out)
 rintro e w7 ⟨v104, rfl, ho0, hb⟩
 refine ⟨_, rfl, ?_⟩
 have n0_ := AM (Kd.R_lower ho0 (bZ (by repeat (first | (with_reducible first | exact HB.out | apply bA | apply bN | apply bD | refine bS ?_ GE101.out | refine bS ?_ GE102.out) | exact HB.out))))
 have n1_ := AM (blk_below (g := gb101) (o := .cells #[.string a0_0, .int .i64 a0_1, .slice A0_2 l0_2.length c0_2, .slice A0_3 l0_3.length c0_3] 30 (0, 0)) (by (with_reducible repeat (first | apply kN | apply kD | apply kA)); exact BK101.out) hb)
 have n2_ := AM (blk_below (g := gb102) (o := .cells #[.string (⟨#[]⟩ : ByteArray), .int .i64 0, .slice none 0 0, .slice none 0 0] 30 (0, 0)) (by (with_reducible repeat (first | apply kN | apply kD | apply kA)); exact BK102.out) hb)
 have n3_ := AM (below_step (by repeat (first | (with_reducible first | exact HB.out | apply bA | apply bN | apply bD | refine bS ?_ GE101.out | refine bS ?_ GE102.out) | exact HB.out)) hb)
 clear BK101
 clear BK102
 clear HB
 have HO105 := n0_
 have BK101 := n1_
 have BK102 := n2_
 have HB := n3_
 clear n0_ n1_ n2_ n3_
 (try clear hb)
 (try clear hb2)
 (try clear hk)
 (try clear hi)
 (try clear ho0)
 refine hK.out _ _ ⟨(kC BK101.out 0).trans rfl, (kC BK101.out 1).trans rfl, (kC BK101.out 2).trans rfl, (kC BK101.out 3).trans rfl⟩ (fun hHeld => ?_)
 clear hK K
 refine norm_ (a' := ?_) ?_ ?_
 rotate_left
 ·
  show Act.put _ (some 5) _ = _
  simp only [Act.put, sA, sB, sC, i64_w, i32_w]
  rfl
 refine pF2 6 9 impl_cloneTopic.b3 ?_
 refine one_ (i := 5) (N := some 8) (upTo 7 10) rfl rfl (one_of HT_.out (by kernel_rfl)) (by decide) (fun K hK => ?_)
 refine goes_ Try.func73 (by kernel_rfl) rfl #[.slice A0_3 l0_3.length c0_3] (by rfl) rfl rfl (by (try simp only [mA, mB, mC]); first | done | rfl | (simp only [mD, mE]; rfl)) ?_
 with_reducible refine (impl_Group.calls _ _ l0_3 t106 _ ?side1 ?side2 A3.out).mono ?_
 (case side1 => repeat (first | exact (cB HR0_3.out HB.out) | (with_reducible refine cA ?_ _) | (with_reducible refine cN ?_ _) | (with_reducible refine cD ?_)))
 (case side2 => exact HC0_3.out)
 rintro e w8 ⟨v107, rfl, ho0, hb⟩
 refine ⟨_, rfl, ?_⟩
 have n0_ := AM (Kd.R_below (by (with_reducible repeat (first | apply rA | apply rN | apply rD)); exact HO105.out) hb)
 have n1_ := AM (Kd.R_lower ho0 (bZ (by repeat (first | (with_reducible first | exact HB.out | apply bA | apply bN | apply bD | refine bS ?_ GE101.out | refine bS ?_ GE102.out) | exact HB.out))))
 have n2_ := AM (blk_below (g := gb101) (o := .cells #[.string a0_0, .int .i64 a0_1, .slice A0_2 l0_2.length c0_2, .slice A0_3 l0_3.length c0_3] 30 (0, 0)) (by (with_reducible repeat (first | apply kN | apply kD | apply kA)); exact BK101.out) hb)
 have n3_ := AM (blk_below (g := gb102) (o := .cells #[.string (⟨#[]⟩ : ByteArray), .int .i64 0, .slice none 0 0, .slice none 0 0] 30 (0, 0)) (by (with_reducible repeat (first | apply kN | apply kD | apply kA)); exact BK102.out) hb)
 have n4_ := AM (below_step (by repeat (first | (with_reducible first | exact HB.out | apply bA | apply bN | apply bD | refine bS ?_ GE101.out | refine bS ?_ GE102.out) | exact HB.out)) hb)
 clear HO105
 clear BK101
 clear BK102
 clear HB
 have HO105 := n0_
 have HO108 := n1_
 have BK101 := n2_
 have BK102 := n3_
 have HB := n4_
 clear n0_ n1_ n2_ n3_ n4_
 (try clear hb)
 (try clear hb2)
 (try clear hk)
 (try clear hi)
 (try clear ho0)
 obtain ⟨Ao9, co9, eo9⟩ := Kd.R_slice HO105.out
 (first | subst eo9 | (injection eo9 with f1_ f2_ f3_; have f4_ := f1_.symm; have f5_ := f3_.symm; clear f1_ f2_ f3_; subst f4_; subst f5_))
 obtain ⟨Ao11, co11, eo11⟩ := Kd.R_slice HO108.out
 (first | subst eo11 | (injection eo11 with f1_ f2_ f3_; have f4_ := f1_.symm; have f5_ := f3_.symm; clear f1_ f2_ f3_; subst f4_; subst f5_))
 refine hK.out _ _ ⟨(kC BK101.out 0).trans rfl, (kC BK101.out 1).trans rfl, (kC BK101.out 2).trans rfl, (kC BK101.out 3).trans rfl⟩ (fun hHeld => ?_)
 clear hK K
 refine norm_ (a' := ?_) ?_ ?_
 rotate_left
 ·
  show Act.put _ (some 8) _ = _
  simp only [Act.put, sA, sB, sC, i64_w, i32_w]
  rfl
 refine last_ (i := 7) (N := none) (upTo 8 10) rfl rfl (one_of HT_.out (by kernel_rfl)) (by decide) (fun K hK => ?_)
 have hs10 : w8.cell? ⟨gb101, 2, none⟩ = some (.slice A0_2 l0_2.length c0_2) := (kC BK101.out 2).trans rfl
 have hfs10 := fZ BK101.out 2
 have hns10_1 := NB102_101.out
 have hms10_1 := NB101_102.out
 refine skip_ (w1 := ?_) (by rfl) rfl ?_ ?_
 rotate_left
 ·
  go_simp
  rfl
 refine hK.out _ _ ?_
 clear hK K
 refine pF 8 9 10 10 ?_
 refine last_ (i := 9) (N := none) (upTo 10 10) rfl rfl (one_of HT_.out (by kernel_rfl)) (by decide) (fun K hK => ?_)
 have hs12 : w8.cell? ⟨gb101, 3, none⟩ = some (.slice A0_3 l0_3.length c0_3) := (kC BK101.out 3).trans rfl
 have hfs12 := fZ BK101.out 3
 have hns12_1 := NB102_101.out
 have hms12_1 := NB101_102.out
 refine skip_ (w1 := ?_) (by rfl) rfl ?_ ?_
 rotate_left
 ·
  go_simp
  rfl
 refine hK.out _ _ ?_
 clear hK K
 refine done_ (done_of HT_.out (by kernel_rfl)) ?_
 have hnb13 := NB101_102.out
 have hnc13 := NB102_101.out
 have hcz14_0 : w8.cell? ⟨gb101, 0, none⟩ = some (.string a0_0) := (kC BK101.out 0).trans rfl
 have hcz14_1 : w8.cell? ⟨gb101, 1, none⟩ = some (.int .i64 a0_1) := (kC BK101.out 1).trans rfl
 have hcz14_2 : w8.cell? ⟨gb101, 2, none⟩ = some (.slice A0_2 l0_2.length c0_2) := (kC BK101.out 2).trans rfl
 have hcz14_3 : w8.cell? ⟨gb101, 3, none⟩ = some (.slice A0_3 l0_3.length c0_3) := (kC BK101.out 3).trans rfl
 have hfz14_0 := fZ BK101.out 0
 have hfz14_1 := fZ BK101.out 1
 have hfz14_2 := fZ BK101.out 2
 have hfz14_3 := fZ BK101.out 3
 have hcz15_0 : w8.cell? ⟨gb102, 0, none⟩ = some (.string (⟨#[]⟩ : ByteArray)) := (kC BK102.out 0).trans rfl
 have hcz15_1 : w8.cell? ⟨gb102, 1, none⟩ = some (.int .i64 0) := (kC BK102.out 1).trans rfl
 have hcz15_2 : w8.cell? ⟨gb102, 2, none⟩ = some (.slice none 0 0) := (kC BK102.out 2).trans rfl
 have hcz15_3 : w8.cell? ⟨gb102, 3, none⟩ = some (.slice none 0 0) := (kC BK102.out 3).trans rfl
 have hfz15_0 := fZ BK102.out 0
 have hfz15_1 := fZ BK102.out 1
 have hfz15_2 := fZ BK102.out 2
 have hfz15_3 := fZ BK102.out 3
 try go_wp2
 refine bodyPost_ret (results_cell_row rfl _ _ gb102 30 #[.string a0_0, .int .i64 a0_1, .slice Ao9 t103.length co9, .slice Ao11 t106.length co11] (0, 0) _ rfl (by (with_reducible repeat (first | apply kN | apply kD | apply kA)); refine blk_put (cs := #[.string a0_0, .int .i64 a0_1, .slice Ao9 t103.length co9, .slice none 0 0]) ?_ 3 _ rfl; (with_reducible repeat (first | apply kN | apply kD | apply kA)); refine blk_put (cs := #[.string a0_0, .int .i64 a0_1, .slice none 0 0, .slice none 0 0]) ?_ 2 _ rfl; (with_reducible repeat (first | apply kN | apply kD | apply kA)); refine blk_put (cs := #[.string a0_0, .int .i64 0, .slice none 0 0, .slice none 0 0]) ?_ 1 _ rfl; (with_reducible repeat (first | apply kN | apply kD | apply kA)); refine blk_put (cs := #[.string (⟨#[]⟩ : ByteArray), .int .i64 0, .slice none 0 0, .slice none 0 0]) ?_ 0 _ rfl; (with_reducible repeat (first | apply kN | apply kD | apply kA)); refine blk_far ?_ NB102_101.out _; (with_reducible repeat (first | apply kN | apply kD | apply kA)); refine blk_far ?_ NB102_101.out _; (with_reducible repeat (first | apply kN | apply kD | apply kA)); exact BK102.out) Try.underlying30 rfl (by kernel_rfl)) rfl ?_
 exact ⟨_, _, by first | rfl | (simp [*, errW_none, errW_some] <;> rfl), by (with_reducible repeat (first | apply rA | apply rN | apply rD)); exact Kd.R_mono (Kd.R_far (p := ⟨gb102, 3, none⟩) (Kd.R_far (p := ⟨gb102, 2, none⟩) (Kd.R_far (p := ⟨gb102, 1, none⟩) (Kd.R_far (p := ⟨gb102, 0, none⟩) (Kd.R_far (p := ⟨gb101, 3, none⟩) (Kd.R_far (p := ⟨gb101, 2, none⟩) (Kd.R_types (Kd.R_types HO105.out BK101.out (by decide)) BK102.out (by decide)) (fun _ hk => hk.1.2) (.slice Ao9 t103.length co9)) (fun _ hk => hk.1.2) (.slice Ao11 t106.length co11)) (fun _ hk => hk.2) (.string a0_0)) (fun _ hk => hk.2) (.int .i64 a0_1)) (fun _ hk => hk.2) (.slice Ao9 t103.length co9)) (fun _ hk => hk.2) (.slice Ao11 t106.length co11)) (fun _ hk => trivial), by (with_reducible repeat (first | apply rA | apply rN | apply rD)); exact Kd.R_mono (Kd.R_far (p := ⟨gb102, 3, none⟩) (Kd.R_far (p := ⟨gb102, 2, none⟩) (Kd.R_far (p := ⟨gb102, 1, none⟩) (Kd.R_far (p := ⟨gb102, 0, none⟩) (Kd.R_far (p := ⟨gb101, 3, none⟩) (Kd.R_far (p := ⟨gb101, 2, none⟩) (Kd.R_types (Kd.R_types HO108.out BK101.out (by decide)) BK102.out (by decide)) (fun _ hk => hk.1.2) (.slice Ao9 t103.length co9)) (fun _ hk => hk.1.2) (.slice Ao11 t106.length co11)) (fun _ hk => hk.2) (.string a0_0)) (fun _ hk => hk.2) (.int .i64 a0_1)) (fun _ hk => hk.2) (.slice Ao9 t103.length co9)) (fun _ hk => hk.2) (.slice Ao11 t106.length co11)) (fun _ hk => trivial), by repeat (first | (with_reducible first | exact HB.out | apply bA | apply bN | apply bD | refine bS ?_ GE101.out | refine bS ?_ GE102.out) | exact HB.out)⟩

/-! ### impl_Topic_retain: function 51 (by hand) -/
theorem put_T52 {W : World} {base go co : Nat} {ok : Nat → Prop} {n : Nat} {l : List S52} (h : Kd.R k52 52 W base ok (.slice (some ⟨go, 0, none⟩) n co) l) (x : Int) (h0 : 0 ≤ x) (h1 : x < l.length) (m : Int) :
    Kd.R k52 52 (W.setCell ⟨go, x.toNat * 2 + 1, none⟩ (.int .i64 m)) base ok (.slice (some ⟨go, 0, none⟩) n co) (l.set x.toNat ⟨(rd_T52 l x).f0, m⟩) := by
  have hn := (Kd.R_reads' h).1
  obtain ⟨ce, hcl, hM, hcc, hfr⟩ := Kd.R_elem h z52 x h0 (by omega)
  obtain rfl := k52_openM hM
  exact (Kd.R_seg h x h0 (by omega) (seg := [.int .i64 m]) (j := 1) hcl hcc (show 2 ≤ 2 from by decide) (x' := (⟨(rd_T52 l x).f0, m⟩ : S52)) (k52_mkM _ _ _ (⟨(rd_T52 l x).f0, m⟩ : S52)) (fun _ hk => hk)).1
theorem keep_row {w w1 : World} {g go : Nat} {r : Option Nat} (h : KeepBut w w1 g r) (hr : r = some go) (j : Nat) (u : Value) : KeepBut w (w1.setCell ⟨go, j, none⟩ u) g r := by
  exact ⟨by simpa [World.setCell] using h.1, fun i hi h1 h2 => (Below.heap_setCell w1 ⟨go, j, none⟩ u i (fun e => h2 (by rw [hr, e]))).trans (h.2 i hi h1 h2)⟩
def impl_Topic_retain.l0 : Nat → Int → List S52 → Int → Int → Option (List S52)
  | 0, _, _, _, _ => none
  | k + 1, b, l, n, i => if i < n then (if 0 ≤ i then (if i < (l.length : Int) then impl_Topic_retain.l0 k b (l.set i.toNat ⟨(rd_T52 l i).f0, if (rd_T52 l i).f1 < b then b else (rd_T52 l i).f1⟩) n (wrap64 (i + 1)) else none) else none) else some l
def impl_Topic_retain.n (s2 : List ByteArray) (a1 : Int) : Int := if 0 < wrap64 ((s2.length : Int) - a1) then wrap64 ((s2.length : Int) - a1) else 0
def impl_Topic_retain.f (k : Nat) (s0 : ByteArray) (s1 : Int) (s2 : List ByteArray) (s3 : List S52) (a1 : Int) : Option (Int × Int × List ByteArray × List S52) :=
  if 0 ≤ impl_Topic_retain.n s2 a1 then if impl_Topic_retain.n s2 a1 ≤ (s2.length : Int) then (impl_Topic_retain.l0 k (wrap64 (s1 + impl_Topic_retain.n s2 a1)) s3 (s3.length : Int) 0).bind fun l => some (impl_Topic_retain.n s2 a1, wrap64 (s1 + impl_Topic_retain.n s2 a1), s2.drop (impl_Topic_retain.n s2 a1).toNat, l) else none else none
theorem impl_Topic_retain.mono_l : ∀ k b l n i, LeO (impl_Topic_retain.l0 k b l n i) (impl_Topic_retain.l0 (k + 1) b l n i)
  | 0, _, _, _, _ => fun r h => by simp [impl_Topic_retain.l0] at h
  | k + 1, b, l, n, i => by
    have ih := impl_Topic_retain.mono_l k
    unfold impl_Topic_retain.l0
    exact LeO.ite (LeO.ite (LeO.ite (ih _ _ _ _) (LeO.none _)) (LeO.none _)) (LeO.refl _)
theorem impl_Topic_retain.mono : ∀ s0 s1 s2 s3 a1 k, LeO (impl_Topic_retain.f k s0 s1 s2 s3 a1) (impl_Topic_retain.f (k + 1) s0 s1 s2 s3 a1) := by
  intro s0 s1 s2 s3 a1 k
  unfold impl_Topic_retain.f
  exact LeO.ite (LeO.ite (LeO.bind (impl_Topic_retain.mono_l _ _ _ _ _) (fun _ => LeO.refl _)) (LeO.none _)) (LeO.none _)
set_option maxHeartbeats 4000000 in
set_option maxRecDepth 100000 in
theorem impl_Topic_retain.calls (k g : Nat) (s0 : ByteArray) (s1 : Int) (v2 v3 : Value) (s2 : List ByteArray) (s3 : List S52) (a1 : Int) (r1 s1' : Int) (s2' : List ByteArray) (s3' : List S52) (w0 w : World)
    (hG : w.heap[g]? = some (.cells #[.string s0, .int .i64 s1, v2, v3] 30 (0, 0))) (hg : w0.heap.size ≤ g) (hB : Below w0.heap.size w0 w)
    (h2 : Kd.R Kd.string 9 w w0.heap.size (fun _ => True) v2 s2) (h3 : Kd.R k52 52 w w0.heap.size (fun _ => True) v3 s3) (h : impl_Topic_retain.f k s0 s1 s2 s3 a1 = some (r1, s1', s2', s3')) :
    Calls Try.prog 51 #[.pointer (some ⟨g, 0, none⟩), .int .i64 a1] w fun e w' => ∃ v2', e = .returned (.int .i64 r1) ∧ w'.heap[g]? = some (.cells #[.string s0, .int .i64 s1', v2', v3] 30 (0, 0)) ∧ Kd.Q Kd.string 9 w' w0.heap.size (fun _ => True) v2' s2' ∧ Kd.R k52 52 w' w0.heap.size (fun _ => True) v3 s3' ∧ Below w0.heap.size w0 w' ∧ KeepBut w w' g v3.ownBlock := by
  obtain ⟨A2, c2, rfl⟩ := Kd.R_slice h2
  obtain ⟨A3, c3, rfl⟩ := Kd.R_slice h3
  have hu30 := Try.underlying30
  have BK := Aside0.mk hG
  have HB := Aside0.mk hB
  have HO2 := Aside0.mk h2
  have HO3 := Aside0.mk h3
  have GE := Aside0.mk hg
  have HX : ∃ n, n = impl_Topic_retain.n s2 a1 ∧ 0 ≤ n ∧ n ≤ (s2.length : Int) ∧ impl_Topic_retain.l0 k (wrap64 (s1 + n)) s3 (s3.length : Int) 0 = some s3' ∧ r1 = n ∧ s1' = wrap64 (s1 + n) ∧ s2' = s2.drop n.toNat := by
    unfold impl_Topic_retain.f at h
    by_cases p : 0 ≤ impl_Topic_retain.n s2 a1
    · rw [if_pos p] at h
      by_cases q : impl_Topic_retain.n s2 a1 ≤ (s2.length : Int)
      · rw [if_pos q] at h
        obtain ⟨l, h1, h2⟩ := Option.bind_eq_some_iff.mp h
        injection h2 with h2
        simp only [Prod.mk.injEq] at h2
        obtain ⟨rfl, rfl, rfl, rfl⟩ := h2
        exact ⟨_, rfl, p, q, h1, rfl, rfl, rfl⟩
      · rw [if_neg q] at h; cases h
    · rw [if_neg p] at h; cases h
  obtain ⟨_, hn, p, q, hl, rfl, rfl, rfl⟩ := HX
  have HL := Aside0.mk hl
  have hcz_0 : w.cell? ⟨g, 0, none⟩ = some (.string s0) := (blk_cell BK.out 0).trans rfl
  have hcz_1 : w.cell? ⟨g, 1, none⟩ = some (.int .i64 s1) := (blk_cell BK.out 1).trans rfl
  have hcz_2 : w.cell? ⟨g, 2, none⟩ = some (.slice A2 s2.length c2) := (blk_cell BK.out 2).trans rfl
  have hcz_3 : w.cell? ⟨g, 3, none⟩ = some (.slice A3 s3.length c3) := (blk_cell BK.out 3).trans rfl
  have hfz_0 := blk_frozen BK.out 0
  have hfz_1 := blk_frozen BK.out 1
  have hfz_2 := blk_frozen BK.out 2
  have hfz_3 := blk_frozen BK.out 3
  clear hG hB h2 h3 hg h hl
  obtain ⟨i0, hi0, _, hsz, _⟩ := info_parts info9
  have hcut := cut_from (P := Try.prog) 22 9 .i64 Try.underlying22 hi0 1 hsz A2 s2.length c2 r1 p q
  have hr := Kd.Q_drop (k := r1.toNat) (Kd.Q_of_R HO2.out) (by omega)
  obtain ⟨A4, hA4⟩ : ∃ A1, A1 = (if c2 = r1.toNat then A2 else (A2 : Option Addr).map (·.add (r1.toNat * 1))) := ⟨_, rfl⟩
  obtain ⟨c4, hc4⟩ : ∃ c1, c1 = c2 - r1.toNat := ⟨_, rfl⟩
  have hy : (s2.drop r1.toNat).length = s2.length - r1.toNat := by simp
  rw [← hA4, ← hc4, ← hy] at hcut
  replace hr : Kd.Q Kd.string 9 w w0.heap.size (fun _ => True) (.slice A4 (s2.drop r1.toNat).length c4) (s2.drop r1.toNat) := by rw [hA4, hc4, hy]; exact hr
  have HO4 := Aside0.mk hr
  clear hy hi0 hsz HO2 hA4 hc4 hr
  generalize s2.drop r1.toNat = y4 at *
  have P1 := Aside0.mk p
  have P2 := Aside0.mk q
  clear p q
  unfold impl_Topic_retain.n at hn
  replace hn := hn.symm
  go_enter Try.func51, Try.ntmps51
  go_wp2_with (first | (go_at_call 71; (with_reducible refine (impl_size_string.calls A2 c2 s2 _ _ rfl).mono ?_); rintro e w' ⟨rfl, ⟨nd, rfl⟩⟩))
  go_loopg [37] k (fun kq v37 w' => ∃ (x : Int) (l2 : List S52), v37 = .int .i64 x ∧ Aside0 (impl_Topic_retain.l0 kq (wrap64 (s1 + r1)) l2 (s3.length : Int) x = some s3') ∧ Aside0 (kq ≤ k) ∧ Aside0 (Kd.Q Kd.string 9 w' w0.heap.size (fun _ => True) (.slice A4 y4.length c4) y4) ∧ Aside0 (Kd.R k52 52 w' w0.heap.size (fun _ => True) (.slice A3 s3.length c3) l2) ∧ Aside0 (w'.heap[g]? = some (.cells #[.string s0, .int .i64 (wrap64 (s1 + r1)), .slice A4 y4.length c4, .slice A3 s3.length c3] 30 (0, 0))) ∧ Aside0 (Below w0.heap.size w0 w') ∧ Aside0 (KeepBut w w' g (.slice A3 s3.length c3 : Value).ownBlock))
  case atStart => exact ⟨0, s3, by first | rfl | (simp; done) | (simp [*]; done), HL, ⟨Nat.le_refl _⟩, ⟨by (with_reducible repeat (first | apply Kd.Q_alloc | apply Kd.Q_drewN | apply Kd.Q_drew)); exact Kd.Q_mono (Kd.Q_far (p := ⟨g, 1, none⟩) (Kd.Q_far (p := ⟨g, 2, none⟩) (Kd.Q_types HO4.out BK.out (by decide)) (fun _ hk => hk.2) (.slice A4 y4.length c4)) (fun _ hk => hk.2) (.int .i64 (wrap64 (s1 + r1)))) (fun _ hk => trivial)⟩, ⟨by (with_reducible repeat (first | apply Kd.R_alloc | apply Kd.R_drewN | apply Kd.R_drew)); exact Kd.R_mono (Kd.R_far (p := ⟨g, 1, none⟩) (Kd.R_far (p := ⟨g, 2, none⟩) (Kd.R_types HO3.out BK.out (by decide)) (fun _ hk => hk.2) (.slice A4 y4.length c4)) (fun _ hk => hk.2) (.int .i64 (wrap64 (s1 + r1)))) (fun _ hk => trivial)⟩, ⟨by (with_reducible repeat (first | refine blk_drewN ?_ _ | refine blk_drew ?_ | refine blk_alloc ?_ _)); refine blk_put (cs := #[.string s0, .int .i64 s1, .slice A4 y4.length c4, .slice A3 s3.length c3]) ?_ 1 _ rfl; (with_reducible repeat (first | refine blk_drewN ?_ _ | refine blk_drew ?_ | refine blk_alloc ?_ _)); refine blk_put (cs := #[.string s0, .int .i64 s1, .slice A2 s2.length c2, .slice A3 s3.length c3]) ?_ 2 _ rfl; (with_reducible repeat (first | refine blk_drewN ?_ _ | refine blk_drew ?_ | refine blk_alloc ?_ _)); exact BK.out⟩, ⟨by repeat (first | (with_reducible first | exact HB.out | apply below_alloc | apply pw_below_drewN | apply below_drew1 | refine below_set ?_ GE.out) | exact HB.out)⟩, ⟨by (with_reducible repeat (first | apply KeepBut.set_ | apply keep_drewN | apply keep_drew)); exact KeepBut.refl _ _ _⟩⟩
  case round =>
    clear HL hcz_0 hcz_1 hcz_2 hcz_3 hfz_0 hfz_1 hfz_2 hfz_3 hcut
    obtain ⟨x, l2, rfl, HA, HK1, HO4, HO3, BK, HB, HK⟩ := hrel
    have hln := (Kd.R_reads' HO3.out).1
    cases gk with
    | zero => exact absurd HA.out (by simp [impl_Topic_retain.l0])
    | succ k1 =>
      have H := HA.out
      clear HA
      simp only [impl_Topic_retain.l0] at H
      have hcz_0 : wr.cell? ⟨g, 0, none⟩ = some (.string s0) := (blk_cell BK.out 0).trans rfl
      have hcz_1 : wr.cell? ⟨g, 1, none⟩ = some (.int .i64 (wrap64 (s1 + r1))) := (blk_cell BK.out 1).trans rfl
      have hcz_2 : wr.cell? ⟨g, 2, none⟩ = some (.slice A4 y4.length c4) := (blk_cell BK.out 2).trans rfl
      have hcz_3 : wr.cell? ⟨g, 3, none⟩ = some (.slice A3 s3.length c3) := (blk_cell BK.out 3).trans rfl
      have hfz_0 := blk_frozen BK.out 0
      have hfz_1 := blk_frozen BK.out 1
      have hfz_2 := blk_frozen BK.out 2
      have hfz_3 := blk_frozen BK.out 3
      by_cases e1 : x < (s3.length : Int)
      · rw [if_pos e1] at H
        have e1b : decide (x < (s3.length : Int)) = true := decide_eq_true e1
        by_cases e2 : 0 ≤ x
        · have e3 : x < (l2.length : Int) := by omega
          rw [if_pos e2, if_pos e3] at H
          obtain ⟨m, hm⟩ : ∃ m, (if (rd_T52 l2 x).f1 < wrap64 (s1 + r1) then wrap64 (s1 + r1) else (rd_T52 l2 x).f1) = m := ⟨_, rfl⟩
          rw [hm] at H
          have H' := Aside0.mk H
          clear H
          have e2b : decide (0 ≤ x) = true := decide_eq_true e2
          obtain ⟨go, co, eo, gb, gl, cl, HG⟩ := Kd.R_form HO3.out (by omega)
          injection eo with ea en ec
          subst ea
          subst ec
          clear en
          have GB := Aside0.mk gb
          obtain ⟨ce, hcl, hM, hcc, hfr⟩ := Kd.R_elem HO3.out z52 x e2 (by omega)
          obtain rfl := k52_openM hM
          have hx0 : wr.cell? ⟨go, x.toNat * 2, none⟩ = some (.string (rd_T52 l2 x).f0) := hcc 0 _ rfl
          have hx1 : wr.cell? ⟨go, x.toNat * 2 + 1, none⟩ = some (.int .i64 (rd_T52 l2 x).f1) := hcc 1 _ rfl
          have hf1 : wr.frozen? ⟨go, x.toNat * 2 + 1, none⟩ = false := hfr 1
          have NG := Aside0.mk (Kd.R_ne HO3.out BK.out (by decide))
          have HQ := Aside0.mk (HG)
          have E3 := Aside0.mk e3
          have E2 := Aside0.mk e2
          have HLN := Aside0.mk hln
          have p_ := eq_true e2
          have q_ := eq_true e1
          clear hM hcl hcc hfr e1 e2 e3 gb gl hln HG
          go_wp2
          go_still_tail 20, (by kernel_rfl)
          have n1_ := Aside0.mk (Kd.Q_drew HO4.out)
          have n2_ := Aside0.mk (Kd.R_drew HO3.out)
          have n3_ := Aside0.mk (blk_drew BK.out)
          have n4_ := Aside0.mk (below_drew1 HB.out)
          have n5_ := Aside0.mk (keep_drew HK.out)
          have n6_ : wr.drew.cell? ⟨go, x.toNat * 2 + 1, none⟩ = some (.int .i64 (rd_T52 l2 x).f1) := hx1
          have n7_ : wr.drew.frozen? ⟨go, x.toNat * 2 + 1, none⟩ = false := hf1
          have n8_ : Aside0 (wr.drew.heap[go]? = some (.cells cl 52 (0, 0))) := ⟨blk_drew HQ.out⟩
          clear HO4 HO3 BK HB HK hx1 hf1 hx0 hcz_0 hcz_1 hcz_2 hcz_3 hfz_0 hfz_1 hfz_2 hfz_3 HQ
          have HO4 := n1_; have HO3 := n2_; have BK := n3_; have HB := n4_; have HK := n5_; have HQ := n8_
          clear n1_ n2_ n3_ n4_ n5_ n8_
          change wpList _ _ _ _ _ wr.drew
          generalize wr.drew = w2 at HO4 HO3 BK HB HK HQ n6_ n7_ ⊢
          go_wp2
          go_roundg k1
          case measure => have := HK1.out; omega
          case rel => exact ⟨wrap64 (x + 1), _, by first | rfl | (simp; done) | (simp [*]; done), H', ⟨by have := HK1.out; omega⟩, ⟨by (with_reducible repeat (first | apply Kd.Q_alloc | apply Kd.Q_drewN | apply Kd.Q_drew)); exact Kd.Q_mono (Kd.Q_far (p := ⟨go, x.toNat * 2 + 1, none⟩) (Kd.Q_types HO4.out HQ.out (by decide)) (fun _ hk => hk.2) (.int .i64 m)) (fun _ hk => trivial)⟩, ⟨by (with_reducible repeat (first | apply Kd.R_alloc | apply Kd.R_drewN | apply Kd.R_drew)); exact put_T52 HO3.out x E2.out E3.out m⟩, ⟨by (with_reducible repeat (first | refine blk_drewN ?_ _ | refine blk_drew ?_ | refine blk_alloc ?_ _)); refine blk_far BK.out (by have h_ := NG.out; intro e_; exact h_ (by rw [e_]; rfl)) _⟩, ⟨by repeat (first | (with_reducible first | exact HB.out | apply below_alloc | apply pw_below_drewN | apply below_drew1 | refine below_set ?_ GB.out) | exact HB.out)⟩, ⟨by (with_reducible repeat (first | apply keep_drewN | apply keep_drew)); exact keep_row HK.out rfl _ _⟩⟩
        · rw [if_neg e2] at H
          cases H
      · rw [if_neg e1] at H
        have e1b : decide (x < (s3.length : Int)) = false := decide_eq_false e1
        obtain rfl := Option.some.inj H
        clear H e1 hln
        go_wp2
        go_ret
        refine ⟨?_, .slice A4 y4.length c4, ?_, ?_, ?_, ?_, ?_⟩
        · exact rfl
        · (with_reducible repeat (first | refine blk_drewN ?_ _ | refine blk_drew ?_ | refine blk_alloc ?_ _)); exact BK.out
        · (with_reducible repeat (first | apply Kd.Q_alloc | apply Kd.Q_drewN | apply Kd.Q_drew)); exact HO4.out
        · (with_reducible repeat (first | apply Kd.R_alloc | apply Kd.R_drewN | apply Kd.R_drew)); exact HO3.out
        · repeat (first | (with_reducible first | exact HB.out | apply below_alloc | apply pw_below_drewN | apply below_drew1) | exact HB.out)
        · (with_reducible repeat (first | apply keep_drewN | apply keep_drew)); exact HK.out


/-! ### impl_TopicRetain: function 21 (by hand) -/
def impl_TopicRetain.f (k : Nat) (a0_0 : ByteArray) (a0_1 : Int) (l0_2 : List ByteArray) (l0_3 : List S52) (a1 : Int) : Option (ByteArray × Int × List ByteArray × List S52 × List ByteArray × Int × Int) :=
  (impl_isTopic.f k a0_0 a0_1 l0_2 l0_3).bind fun t => if t = true then (impl_within.f a1 0 20).bind fun m => if m = true then (impl_cloneTopic.f a0_0 a0_1 l0_2 l0_3).bind fun c => (impl_Topic_retain.f k c.1 c.2.1 c.2.2.1 c.2.2.2 a1).bind fun p => some (c.1, p.2.1, p.2.2.1, p.2.2.2, [], p.1, 0) else some (⟨#[]⟩, 0, [], [], [], 0, 1) else some (⟨#[]⟩, 0, [], [], [], 0, 1)
theorem impl_TopicRetain.mono : ∀ a0 a1 a2 a3 a4 k, LeO (impl_TopicRetain.f k a0 a1 a2 a3 a4) (impl_TopicRetain.f (k + 1) a0 a1 a2 a3 a4) := by
  intro a0 a1 a2 a3 a4 k
  unfold impl_TopicRetain.f
  repeat' first
      | (with_reducible exact impl_isTopic.mono _ _ _ _ _)
      | (with_reducible exact impl_Topic_retain.mono _ _ _ _ _ _)
      | (with_reducible exact LeO.refl _)
      | (with_reducible refine LeO.ite ?_ ?_)
      | (with_reducible refine LeO.bind ?_ (fun _ => ?_))
set_option maxHeartbeats 4000000 in
set_option maxRecDepth 100000 in
theorem impl_TopicRetain.calls (k : Nat) (a0_0 : ByteArray) (a0_1 : Int) (A0_2 : Option Addr) (c0_2 : Nat) (l0_2 : List ByteArray) (A0_3 : Option Addr) (c0_3 : Nat) (l0_3 : List (S52)) (a1 : Int) (r1 : ByteArray) (r2 : Int) (r3 : List ByteArray) (r4 : List (S52)) (r5 : List ByteArray) (r6 : Int) (r7 : Int) (w : World) (hr0_2 : Kd.C Kd.string w A0_2 l0_2.length l0_2) (hc0_2 : l0_2.length ≤ c0_2) (hr0_3 : Kd.C k52 w A0_3 l0_3.length l0_3) (hc0_3 : l0_3.length ≤ c0_3) (h : impl_TopicRetain.f k a0_0 a0_1 l0_2 l0_3 a1 = some (r1, r2, r3, r4, r5, r6, r7)) :
    Calls Try.prog 21 #[.agg #[.string a0_0, .int .i64 a0_1, .slice A0_2 l0_2.length c0_2, .slice A0_3 l0_3.length c0_3], .int .i64 a1] w fun e w' => ∃ v2_ v3_ v4_ : Value, e = .returned (.agg #[.string r1, .int .i64 r2, v2_, v3_, v4_, .int .i64 r6, .int .i64 r7]) ∧ Kd.Q Kd.string 9 w' w.heap.size (fun k_ => some k_ ≠ (v4_ : Value).ownBlock) v2_ r3 ∧ Kd.R k52 52 w' w.heap.size (fun _ => True) v3_ r4 ∧ Kd.R Kd.string 9 w' w.heap.size (fun k_ => some k_ ≠ (v2_ : Value).ownBlock) v4_ r5 ∧ Below w.heap.size w w' := by
  have hu30 := Try.underlying30
  have hu38 := Try.underlying38
  have HR0_2 := Aside0.mk hr0_2
  have HC0_2 := Aside0.mk hc0_2
  have HR0_3 := Aside0.mk hr0_3
  have HC0_3 := Aside0.mk hc0_3
  have HX : Aside0 (∃ t, impl_isTopic.f k a0_0 a0_1 l0_2 l0_3 = some t ∧ (if t = true then (impl_within.f a1 0 20).bind fun m => if m = true then (impl_cloneTopic.f a0_0 a0_1 l0_2 l0_3).bind fun c => (impl_Topic_retain.f k c.1 c.2.1 c.2.2.1 c.2.2.2 a1).bind fun p => some (c.1, p.2.1, p.2.2.1, p.2.2.2, [], p.1, 0) else some (⟨#[]⟩, 0, [], [], [], 0, 1) else some (⟨#[]⟩, 0, [], [], [], 0, 1)) = some (r1, r2, r3, r4, r5, r6, r7)) := ⟨by have := h; unfold impl_TopicRetain.f at this; exact Option.bind_eq_some_iff.mp this⟩
  clear hr0_2 hc0_2 hr0_3 hc0_3 h
  have HB := Aside0.mk (Below.refl w.heap.size w)
  obtain ⟨t, h1, h2⟩ := HX.out
  have A1 := Aside0.mk h1
  have HH := Aside0.mk h2
  clear HX h1 h2
  cases t with
  | false =>
    have E1 : Aside0 ((⟨#[]⟩, 0, [], [], [], 0, 1) = (r1, r2, r3, r4, r5, r6, r7)) := ⟨by have := HH.out; rw [if_neg (by decide)] at this; exact Option.some.inj this⟩
    clear HH
    go_enter Try.func21, Try.ntmps21
    go_wp2_with (first | ((with_reducible refine gate_dst (N := 2) rfl ?_); refine box_event (by rfl) (N := 2) (by rfl) (cs := #[.string a0_0, .int .i64 a0_1, .slice A0_2 l0_2.length c0_2, .slice A0_3 l0_3.length c0_3]) (t := 30) (by first | (go_simp; done) | (go_simp; rfl)) ?_; intro gb101 hg w5 hbox hb; have n0_ := Aside0.mk (below_step (by repeat (first | (with_reducible first | exact HB.out | apply below_alloc | apply pw_below_drewN | apply below_drew1) | exact HB.out)) hb); have n1_ := Aside0.mk (hbox); have n2_ := Aside0.mk ((by rw [hg]; exact (below_size (by repeat (first | (with_reducible first | exact HB.out | apply below_alloc | apply pw_below_drewN | apply below_drew1) | exact HB.out))) : w.heap.size ≤ gb101)); clear HB; have HB := n0_; have BK101 := n1_; have GE101 := n2_; clear n0_ n1_ n2_; clear hb hbox hg) | ((with_reducible refine gate_dst (N := 4) rfl ?_); refine box_event (by rfl) (N := 4) (by rfl) (cs := #[.string (⟨#[]⟩ : ByteArray), .int .i64 0, .slice none 0 0, .slice none 0 0, .slice none 0 0, .int .i64 0, .int .i64 0]) (t := 38) (by first | (go_simp; done) | (go_simp; rfl)) ?_; intro gb102 hg w6 hbox hb; have n0_ := Aside0.mk (blk_below (g := gb101) (o := .cells #[.string a0_0, .int .i64 a0_1, .slice A0_2 l0_2.length c0_2, .slice A0_3 l0_3.length c0_3] 30 (0, 0)) (by (with_reducible repeat (first | refine blk_drewN ?_ _ | refine blk_drew ?_ | refine blk_alloc ?_ _)); exact BK101.out) hb); have n1_ := Aside0.mk (below_step (by repeat (first | (with_reducible first | exact HB.out | apply below_alloc | apply pw_below_drewN | apply below_drew1) | exact HB.out)) hb); have n2_ := Aside0.mk (hbox); have n3_ := Aside0.mk ((by rw [hg]; exact (below_size (by repeat (first | (with_reducible first | exact HB.out | apply below_alloc | apply pw_below_drewN | apply below_drew1) | exact HB.out))) : w.heap.size ≤ gb102)); clear BK101 HB; have BK101 := n0_; have HB := n1_; have BK102 := n2_; have GE102 := n3_; clear n0_ n1_ n2_ n3_; clear hb hbox hg; have hcz2_0 : w6.cell? ⟨gb102, 0, none⟩ = some (.string (⟨#[]⟩ : ByteArray)) := (blk_cell BK102.out 0).trans rfl; have hfz2_0 := blk_frozen BK102.out 0; have hcz2_1 : w6.cell? ⟨gb102, 1, none⟩ = some (.int .i64 0) := (blk_cell BK102.out 1).trans rfl; have hfz2_1 := blk_frozen BK102.out 1; have hcz2_2 : w6.cell? ⟨gb102, 2, none⟩ = some (.slice none 0 0) := (blk_cell BK102.out 2).trans rfl; have hfz2_2 := blk_frozen BK102.out 2; have hcz2_3 : w6.cell? ⟨gb102, 3, none⟩ = some (.slice none 0 0) := (blk_cell BK102.out 3).trans rfl; have hfz2_3 := blk_frozen BK102.out 3; have hcz2_4 : w6.cell? ⟨gb102, 4, none⟩ = some (.slice none 0 0) := (blk_cell BK102.out 4).trans rfl; have hfz2_4 := blk_frozen BK102.out 4; have hcz2_5 : w6.cell? ⟨gb102, 5, none⟩ = some (.int .i64 0) := (blk_cell BK102.out 5).trans rfl; have hfz2_5 := blk_frozen BK102.out 5; have hcz2_6 : w6.cell? ⟨gb102, 6, none⟩ = some (.int .i64 0) := (blk_cell BK102.out 6).trans rfl; have hfz2_6 := blk_frozen BK102.out 6; have hcz1_0 : w6.cell? ⟨gb101, 0, none⟩ = some (.string a0_0) := (blk_cell BK101.out 0).trans rfl; have hfz1_0 := blk_frozen BK101.out 0; have hcz1_1 : w6.cell? ⟨gb101, 1, none⟩ = some (.int .i64 a0_1) := (blk_cell BK101.out 1).trans rfl; have hfz1_1 := blk_frozen BK101.out 1; have hcz1_2 : w6.cell? ⟨gb101, 2, none⟩ = some (.slice A0_2 l0_2.length c0_2) := (blk_cell BK101.out 2).trans rfl; have hfz1_2 := blk_frozen BK101.out 2; have hcz1_3 : w6.cell? ⟨gb101, 3, none⟩ = some (.slice A0_3 l0_3.length c0_3) := (blk_cell BK101.out 3).trans rfl; have hfz1_3 := blk_frozen BK101.out 3) | (go_at_call 42; (with_reducible refine (impl_isTopic.calls k a0_0 a0_1 A0_2 c0_2 l0_2 A0_3 c0_3 l0_3 false _ ?side1 ?side2 ?side3 ?side4 A1.out).mono ?_); (case side1 => repeat (first | exact (Kd.C_below HR0_2.out HB.out) | (with_reducible refine Kd.C_alloc ?_ _) | (with_reducible refine Kd.C_drewN ?_ _) | (with_reducible refine Kd.C_drew ?_))); (case side2 => exact HC0_2.out); (case side3 => repeat (first | exact (Kd.C_below HR0_3.out HB.out) | (with_reducible refine Kd.C_alloc ?_ _) | (with_reducible refine Kd.C_drewN ?_ _) | (with_reducible refine Kd.C_drew ?_))); (case side4 => exact HC0_3.out); rintro e w7 ⟨rfl, hb⟩; have n_ := Aside0.mk (blk_below (g := gb101) (o := .cells #[.string a0_0, .int .i64 a0_1, .slice A0_2 l0_2.length c0_2, .slice A0_3 l0_3.length c0_3] 30 (0, 0)) (by (with_reducible repeat (first | refine blk_drewN ?_ _ | refine blk_drew ?_ | refine blk_alloc ?_ _)); exact BK101.out) hb); clear BK101; have BK101 := n_; clear n_; have n_ := Aside0.mk (blk_below (g := gb102) (o := .cells #[.string (⟨#[]⟩ : ByteArray), .int .i64 0, .slice none 0 0, .slice none 0 0, .slice none 0 0, .int .i64 0, .int .i64 0] 38 (0, 0)) (by (with_reducible repeat (first | refine blk_drewN ?_ _ | refine blk_drew ?_ | refine blk_alloc ?_ _)); exact BK102.out) hb); clear BK102; have BK102 := n_; clear n_; have n_ := Aside0.mk (below_step (by repeat (first | (with_reducible first | exact HB.out | apply below_alloc | apply pw_below_drewN | apply below_drew1) | exact HB.out)) hb); clear HB; have HB := n_; clear n_ hb; have hcz4_0 : w7.cell? ⟨gb102, 0, none⟩ = some (.string (⟨#[]⟩ : ByteArray)) := (blk_cell BK102.out 0).trans rfl; have hfz4_0 := blk_frozen BK102.out 0; have hcz4_1 : w7.cell? ⟨gb102, 1, none⟩ = some (.int .i64 0) := (blk_cell BK102.out 1).trans rfl; have hfz4_1 := blk_frozen BK102.out 1; have hcz4_2 : w7.cell? ⟨gb102, 2, none⟩ = some (.slice none 0 0) := (blk_cell BK102.out 2).trans rfl; have hfz4_2 := blk_frozen BK102.out 2; have hcz4_3 : w7.cell? ⟨gb102, 3, none⟩ = some (.slice none 0 0) := (blk_cell BK102.out 3).trans rfl; have hfz4_3 := blk_frozen BK102.out 3; have hcz4_4 : w7.cell? ⟨gb102, 4, none⟩ = some (.slice none 0 0) := (blk_cell BK102.out 4).trans rfl; have hfz4_4 := blk_frozen BK102.out 4; have hcz4_5 : w7.cell? ⟨gb102, 5, none⟩ = some (.int .i64 0) := (blk_cell BK102.out 5).trans rfl; have hfz4_5 := blk_frozen BK102.out 5; have hcz4_6 : w7.cell? ⟨gb102, 6, none⟩ = some (.int .i64 0) := (blk_cell BK102.out 6).trans rfl; have hfz4_6 := blk_frozen BK102.out 6; have hcz3_0 : w7.cell? ⟨gb101, 0, none⟩ = some (.string a0_0) := (blk_cell BK101.out 0).trans rfl; have hfz3_0 := blk_frozen BK101.out 0; have hcz3_1 : w7.cell? ⟨gb101, 1, none⟩ = some (.int .i64 a0_1) := (blk_cell BK101.out 1).trans rfl; have hfz3_1 := blk_frozen BK101.out 1; have hcz3_2 : w7.cell? ⟨gb101, 2, none⟩ = some (.slice A0_2 l0_2.length c0_2) := (blk_cell BK101.out 2).trans rfl; have hfz3_2 := blk_frozen BK101.out 2; have hcz3_3 : w7.cell? ⟨gb101, 3, none⟩ = some (.slice A0_3 l0_3.length c0_3) := (blk_cell BK101.out 3).trans rfl; have hfz3_3 := blk_frozen BK101.out 3))
    refine bodyPost_ret (results_cell_row rfl _ _ gb102 38 #[.string (⟨#[]⟩ : ByteArray), .int .i64 0, .slice none 0 0, .slice none 0 0, .slice none 0 0, .int .i64 0, .int .i64 1] (0, 0) _ rfl (by (with_reducible repeat (first | refine blk_drewN ?_ _ | refine blk_drew ?_ | refine blk_alloc ?_ _)); refine blk_put (cs := #[.string (⟨#[]⟩ : ByteArray), .int .i64 0, .slice none 0 0, .slice none 0 0, .slice none 0 0, .int .i64 0, .int .i64 0]) ?_ 6 _ rfl; (with_reducible repeat (first | refine blk_drewN ?_ _ | refine blk_drew ?_ | refine blk_alloc ?_ _)); refine blk_put (cs := #[.string (⟨#[]⟩ : ByteArray), .int .i64 0, .slice none 0 0, .slice none 0 0, .slice none 0 0, .int .i64 0, .int .i64 0]) ?_ 5 _ rfl; (with_reducible repeat (first | refine blk_drewN ?_ _ | refine blk_drew ?_ | refine blk_alloc ?_ _)); refine blk_put (cs := #[.string (⟨#[]⟩ : ByteArray), .int .i64 0, .slice none 0 0, .slice none 0 0, .slice none 0 0, .int .i64 0, .int .i64 0]) ?_ 4 _ rfl; (with_reducible repeat (first | refine blk_drewN ?_ _ | refine blk_drew ?_ | refine blk_alloc ?_ _)); refine blk_put (cs := #[.string (⟨#[]⟩ : ByteArray), .int .i64 0, .slice none 0 0, .slice none 0 0, .slice none 0 0, .int .i64 0, .int .i64 0]) ?_ 3 _ rfl; (with_reducible repeat (first | refine blk_drewN ?_ _ | refine blk_drew ?_ | refine blk_alloc ?_ _)); refine blk_put (cs := #[.string (⟨#[]⟩ : ByteArray), .int .i64 0, .slice none 0 0, .slice none 0 0, .slice none 0 0, .int .i64 0, .int .i64 0]) ?_ 2 _ rfl; (with_reducible repeat (first | refine blk_drewN ?_ _ | refine blk_drew ?_ | refine blk_alloc ?_ _)); refine blk_put (cs := #[.string (⟨#[]⟩ : ByteArray), .int .i64 0, .slice none 0 0, .slice none 0 0, .slice none 0 0, .int .i64 0, .int .i64 0]) ?_ 1 _ rfl; (with_reducible repeat (first | refine blk_drewN ?_ _ | refine blk_drew ?_ | refine blk_alloc ?_ _)); refine blk_put (cs := #[.string (⟨#[]⟩ : ByteArray), .int .i64 0, .slice none 0 0, .slice none 0 0, .slice none 0 0, .int .i64 0, .int .i64 0]) ?_ 0 _ rfl; (with_reducible repeat (first | refine blk_drewN ?_ _ | refine blk_drew ?_ | refine blk_alloc ?_ _)); exact BK102.out) Try.underlying38 rfl (by kernel_rfl)) rfl ?_
    obtain ⟨rfl, rfl, rfl, rfl, rfl, rfl, rfl⟩ : (⟨#[]⟩ : ByteArray) = r1 ∧ 0 = r2 ∧ [] = r3 ∧ [] = r4 ∧ [] = r5 ∧ 0 = r6 ∧ 1 = r7 := by simpa using E1.out
    exact ⟨_, _, _, rfl, Kd.Q_nil _ _ _ _ _, Kd.R_nil _ _ _ _ _, Kd.R_nil _ _ _ _ _, by repeat (first | (with_reducible first | exact HB.out | apply below_alloc | apply pw_below_drewN | apply below_drew1 | refine below_set ?_ GE102.out) | exact HB.out)⟩
  | true =>
    have HX : Aside0 (∃ m, impl_within.f a1 0 20 = some m ∧ (if m = true then (impl_cloneTopic.f a0_0 a0_1 l0_2 l0_3).bind fun c => (impl_Topic_retain.f k c.1 c.2.1 c.2.2.1 c.2.2.2 a1).bind fun p => some (c.1, p.2.1, p.2.2.1, p.2.2.2, [], p.1, 0) else some (⟨#[]⟩, 0, [], [], [], 0, 1)) = some (r1, r2, r3, r4, r5, r6, r7)) := ⟨by have := HH.out; rw [if_pos rfl] at this; exact Option.bind_eq_some_iff.mp this⟩
    clear HH
    obtain ⟨m, h1, h2⟩ := HX.out
    have A2 := Aside0.mk h1
    have HH := Aside0.mk h2
    clear HX h1 h2
    cases m with
    | false =>
      have E1 : Aside0 ((⟨#[]⟩, 0, [], [], [], 0, 1) = (r1, r2, r3, r4, r5, r6, r7)) := ⟨by have := HH.out; rw [if_neg (by decide)] at this; exact Option.some.inj this⟩
      clear HH
      go_enter Try.func21, Try.ntmps21
      go_wp2_with (first | ((with_reducible refine gate_dst (N := 2) rfl ?_); refine box_event (by rfl) (N := 2) (by rfl) (cs := #[.string a0_0, .int .i64 a0_1, .slice A0_2 l0_2.length c0_2, .slice A0_3 l0_3.length c0_3]) (t := 30) (by first | (go_simp; done) | (go_simp; rfl)) ?_; intro gb101 hg w5 hbox hb; have n0_ := Aside0.mk (below_step (by repeat (first | (with_reducible first | exact HB.out | apply below_alloc | apply pw_below_drewN | apply below_drew1) | exact HB.out)) hb); have n1_ := Aside0.mk (hbox); have n2_ := Aside0.mk ((by rw [hg]; exact (below_size (by repeat (first | (with_reducible first | exact HB.out | apply below_alloc | apply pw_below_drewN | apply below_drew1) | exact HB.out))) : w.heap.size ≤ gb101)); clear HB; have HB := n0_; have BK101 := n1_; have GE101 := n2_; clear n0_ n1_ n2_; clear hb hbox hg) | ((with_reducible refine gate_dst (N := 4) rfl ?_); refine box_event (by rfl) (N := 4) (by rfl) (cs := #[.string (⟨#[]⟩ : ByteArray), .int .i64 0, .slice none 0 0, .slice none 0 0, .slice none 0 0, .int .i64 0, .int .i64 0]) (t := 38) (by first | (go_simp; done) | (go_simp; rfl)) ?_; intro gb102 hg w6 hbox hb; have n0_ := Aside0.mk (blk_below (g := gb101) (o := .cells #[.string a0_0, .int .i64 a0_1, .slice A0_2 l0_2.length c0_2, .slice A0_3 l0_3.length c0_3] 30 (0, 0)) (by (with_reducible repeat (first | refine blk_drewN ?_ _ | refine blk_drew ?_ | refine blk_alloc ?_ _)); exact BK101.out) hb); have n1_ := Aside0.mk (below_step (by repeat (first | (with_reducible first | exact HB.out | apply below_alloc | apply pw_below_drewN | apply below_drew1) | exact HB.out)) hb); have n2_ := Aside0.mk (hbox); have n3_ := Aside0.mk ((by rw [hg]; exact (below_size (by repeat (first | (with_reducible first | exact HB.out | apply below_alloc | apply pw_below_drewN | apply below_drew1) | exact HB.out))) : w.heap.size ≤ gb102)); clear BK101 HB; have BK101 := n0_; have HB := n1_; have BK102 := n2_; have GE102 := n3_; clear n0_ n1_ n2_ n3_; clear hb hbox hg; have hcz2_0 : w6.cell? ⟨gb102, 0, none⟩ = some (.string (⟨#[]⟩ : ByteArray)) := (blk_cell BK102.out 0).trans rfl; have hfz2_0 := blk_frozen BK102.out 0; have hcz2_1 : w6.cell? ⟨gb102, 1, none⟩ = some (.int .i64 0) := (blk_cell BK102.out 1).trans rfl; have hfz2_1 := blk_frozen BK102.out 1; have hcz2_2 : w6.cell? ⟨gb102, 2, none⟩ = some (.slice none 0 0) := (blk_cell BK102.out 2).trans rfl; have hfz2_2 := blk_frozen BK102.out 2; have hcz2_3 : w6.cell? ⟨gb102, 3, none⟩ = some (.slice none 0 0) := (blk_cell BK102.out 3).trans rfl; have hfz2_3 := blk_frozen BK102.out 3; have hcz2_4 : w6.cell? ⟨gb102, 4, none⟩ = some (.slice none 0 0) := (blk_cell BK102.out 4).trans rfl; have hfz2_4 := blk_frozen BK102.out 4; have hcz2_5 : w6.cell? ⟨gb102, 5, none⟩ = some (.int .i64 0) := (blk_cell BK102.out 5).trans rfl; have hfz2_5 := blk_frozen BK102.out 5; have hcz2_6 : w6.cell? ⟨gb102, 6, none⟩ = some (.int .i64 0) := (blk_cell BK102.out 6).trans rfl; have hfz2_6 := blk_frozen BK102.out 6; have hcz1_0 : w6.cell? ⟨gb101, 0, none⟩ = some (.string a0_0) := (blk_cell BK101.out 0).trans rfl; have hfz1_0 := blk_frozen BK101.out 0; have hcz1_1 : w6.cell? ⟨gb101, 1, none⟩ = some (.int .i64 a0_1) := (blk_cell BK101.out 1).trans rfl; have hfz1_1 := blk_frozen BK101.out 1; have hcz1_2 : w6.cell? ⟨gb101, 2, none⟩ = some (.slice A0_2 l0_2.length c0_2) := (blk_cell BK101.out 2).trans rfl; have hfz1_2 := blk_frozen BK101.out 2; have hcz1_3 : w6.cell? ⟨gb101, 3, none⟩ = some (.slice A0_3 l0_3.length c0_3) := (blk_cell BK101.out 3).trans rfl; have hfz1_3 := blk_frozen BK101.out 3) | (go_at_call 42; (with_reducible refine (impl_isTopic.calls k a0_0 a0_1 A0_2 c0_2 l0_2 A0_3 c0_3 l0_3 true _ ?side1 ?side2 ?side3 ?side4 A1.out).mono ?_); (case side1 => repeat (first | exact (Kd.C_below HR0_2.out HB.out) | (with_reducible refine Kd.C_alloc ?_ _) | (with_reducible refine Kd.C_drewN ?_ _) | (with_reducible refine Kd.C_drew ?_))); (case side2 => exact HC0_2.out); (case side3 => repeat (first | exact (Kd.C_below HR0_3.out HB.out) | (with_reducible refine Kd.C_alloc ?_ _) | (with_reducible refine Kd.C_drewN ?_ _) | (with_reducible refine Kd.C_drew ?_))); (case side4 => exact HC0_3.out); rintro e w7 ⟨rfl, hb⟩; have n_ := Aside0.mk (blk_below (g := gb101) (o := .cells #[.string a0_0, .int .i64 a0_1, .slice A0_2 l0_2.length c0_2, .slice A0_3 l0_3.length c0_3] 30 (0, 0)) (by (with_reducible repeat (first | refine blk_drewN ?_ _ | refine blk_drew ?_ | refine blk_alloc ?_ _)); exact BK101.out) hb); clear BK101; have BK101 := n_; clear n_; have n_ := Aside0.mk (blk_below (g := gb102) (o := .cells #[.string (⟨#[]⟩ : ByteArray), .int .i64 0, .slice none 0 0, .slice none 0 0, .slice none 0 0, .int .i64 0, .int .i64 0] 38 (0, 0)) (by (with_reducible repeat (first | refine blk_drewN ?_ _ | refine blk_drew ?_ | refine blk_alloc ?_ _)); exact BK102.out) hb); clear BK102; have BK102 := n_; clear n_; have n_ := Aside0.mk (below_step (by repeat (first | (with_reducible first | exact HB.out | apply below_alloc | apply pw_below_drewN | apply below_drew1) | exact HB.out)) hb); clear HB; have HB := n_; clear n_ hb; have hcz4_0 : w7.cell? ⟨gb102, 0, none⟩ = some (.string (⟨#[]⟩ : ByteArray)) := (blk_cell BK102.out 0).trans rfl; have hfz4_0 := blk_frozen BK102.out 0; have hcz4_1 : w7.cell? ⟨gb102, 1, none⟩ = some (.int .i64 0) := (blk_cell BK102.out 1).trans rfl; have hfz4_1 := blk_frozen BK102.out 1; have hcz4_2 : w7.cell? ⟨gb102, 2, none⟩ = some (.slice none 0 0) := (blk_cell BK102.out 2).trans rfl; have hfz4_2 := blk_frozen BK102.out 2; have hcz4_3 : w7.cell? ⟨gb102, 3, none⟩ = some (.slice none 0 0) := (blk_cell BK102.out 3).trans rfl; have hfz4_3 := blk_frozen BK102.out 3; have hcz4_4 : w7.cell? ⟨gb102, 4, none⟩ = some (.slice none 0 0) := (blk_cell BK102.out 4).trans rfl; have hfz4_4 := blk_frozen BK102.out 4; have hcz4_5 : w7.cell? ⟨gb102, 5, none⟩ = some (.int .i64 0) := (blk_cell BK102.out 5).trans rfl; have hfz4_5 := blk_frozen BK102.out 5; have hcz4_6 : w7.cell? ⟨gb102, 6, none⟩ = some (.int .i64 0) := (blk_cell BK102.out 6).trans rfl; have hfz4_6 := blk_frozen BK102.out 6; have hcz3_0 : w7.cell? ⟨gb101, 0, none⟩ = some (.string a0_0) := (blk_cell BK101.out 0).trans rfl; have hfz3_0 := blk_frozen BK101.out 0; have hcz3_1 : w7.cell? ⟨gb101, 1, none⟩ = some (.int .i64 a0_1) := (blk_cell BK101.out 1).trans rfl; have hfz3_1 := blk_frozen BK101.out 1; have hcz3_2 : w7.cell? ⟨gb101, 2, none⟩ = some (.slice A0_2 l0_2.length c0_2) := (blk_cell BK101.out 2).trans rfl; have hfz3_2 := blk_frozen BK101.out 2; have hcz3_3 : w7.cell? ⟨gb101, 3, none⟩ = some (.slice A0_3 l0_3.length c0_3) := (blk_cell BK101.out 3).trans rfl; have hfz3_3 := blk_frozen BK101.out 3) | (go_at_call 49; (with_reducible refine (impl_within.calls a1 0 20 false _ A2.out).mono ?_); rintro e w' ⟨rfl, ⟨nd, rfl⟩⟩))
      refine bodyPost_ret (results_cell_row rfl _ _ gb102 38 #[.string (⟨#[]⟩ : ByteArray), .int .i64 0, .slice none 0 0, .slice none 0 0, .slice none 0 0, .int .i64 0, .int .i64 1] (0, 0) _ rfl (by (with_reducible repeat (first | refine blk_drewN ?_ _ | refine blk_drew ?_ | refine blk_alloc ?_ _)); refine blk_put (cs := #[.string (⟨#[]⟩ : ByteArray), .int .i64 0, .slice none 0 0, .slice none 0 0, .slice none 0 0, .int .i64 0, .int .i64 0]) ?_ 6 _ rfl; (with_reducible repeat (first | refine blk_drewN ?_ _ | refine blk_drew ?_ | refine blk_alloc ?_ _)); refine blk_put (cs := #[.string (⟨#[]⟩ : ByteArray), .int .i64 0, .slice none 0 0, .slice none 0 0, .slice none 0 0, .int .i64 0, .int .i64 0]) ?_ 5 _ rfl; (with_reducible repeat (first | refine blk_drewN ?_ _ | refine blk_drew ?_ | refine blk_alloc ?_ _)); refine blk_put (cs := #[.string (⟨#[]⟩ : ByteArray), .int .i64 0, .slice none 0 0, .slice none 0 0, .slice none 0 0, .int .i64 0, .int .i64 0]) ?_ 4 _ rfl; (with_reducible repeat (first | refine blk_drewN ?_ _ | refine blk_drew ?_ | refine blk_alloc ?_ _)); refine blk_put (cs := #[.string (⟨#[]⟩ : ByteArray), .int .i64 0, .slice none 0 0, .slice none 0 0, .slice none 0 0, .int .i64 0, .int .i64 0]) ?_ 3 _ rfl; (with_reducible repeat (first | refine blk_drewN ?_ _ | refine blk_drew ?_ | refine blk_alloc ?_ _)); refine blk_put (cs := #[.string (⟨#[]⟩ : ByteArray), .int .i64 0, .slice none 0 0, .slice none 0 0, .slice none 0 0, .int .i64 0, .int .i64 0]) ?_ 2 _ rfl; (with_reducible repeat (first | refine blk_drewN ?_ _ | refine blk_drew ?_ | refine blk_alloc ?_ _)); refine blk_put (cs := #[.string (⟨#[]⟩ : ByteArray), .int .i64 0, .slice none 0 0, .slice none 0 0, .slice none 0 0, .int .i64 0, .int .i64 0]) ?_ 1 _ rfl; (with_reducible repeat (first | refine blk_drewN ?_ _ | refine blk_drew ?_ | refine blk_alloc ?_ _)); refine blk_put (cs := #[.string (⟨#[]⟩ : ByteArray), .int .i64 0, .slice none 0 0, .slice none 0 0, .slice none 0 0, .int .i64 0, .int .i64 0]) ?_ 0 _ rfl; (with_reducible repeat (first | refine blk_drewN ?_ _ | refine blk_drew ?_ | refine blk_alloc ?_ _)); exact BK102.out) Try.underlying38 rfl (by kernel_rfl)) rfl ?_
      obtain ⟨rfl, rfl, rfl, rfl, rfl, rfl, rfl⟩ : (⟨#[]⟩ : ByteArray) = r1 ∧ 0 = r2 ∧ [] = r3 ∧ [] = r4 ∧ [] = r5 ∧ 0 = r6 ∧ 1 = r7 := by simpa using E1.out
      exact ⟨_, _, _, rfl, Kd.Q_nil _ _ _ _ _, Kd.R_nil _ _ _ _ _, Kd.R_nil _ _ _ _ _, by repeat (first | (with_reducible first | exact HB.out | apply below_alloc | apply pw_below_drewN | apply below_drew1 | refine below_set ?_ GE102.out) | exact HB.out)⟩
    | true =>
      have HX : Aside0 (∃ c0 d1 e2 e3 p0 p1 p2 p3, impl_cloneTopic.f a0_0 a0_1 l0_2 l0_3 = some (c0, d1, e2, e3) ∧ impl_Topic_retain.f k c0 d1 e2 e3 a1 = some (p0, p1, p2, p3) ∧ (c0, p1, p2, p3, [], p0, 0) = (r1, r2, r3, r4, r5, r6, r7)) := ⟨by
        have := HH.out; rw [if_pos rfl] at this
        obtain ⟨⟨c0, d1, e2, e3⟩, h1, h2⟩ := Option.bind_eq_some_iff.mp this
        obtain ⟨⟨p0, p1, p2, p3⟩, h3, h4⟩ := Option.bind_eq_some_iff.mp h2
        exact ⟨c0, d1, e2, e3, p0, p1, p2, p3, h1, h3, Option.some.inj h4⟩⟩
      clear HH
      obtain ⟨c0, d1, e2, e3, p0, p1, p2, p3, h1, h2, h3⟩ := HX.out
      have A3 := Aside0.mk h1
      have A4 := Aside0.mk h2
      simp only [Prod.mk.injEq] at h3
      obtain ⟨rfl, rfl, rfl, rfl, rfl, rfl, rfl⟩ := h3
      clear HX h1 h2
      go_enter Try.func21, Try.ntmps21
      go_wp2_with (first | ((with_reducible refine gate_dst (N := 2) rfl ?_); refine box_event (by rfl) (N := 2) (by rfl) (cs := #[.string a0_0, .int .i64 a0_1, .slice A0_2 l0_2.length c0_2, .slice A0_3 l0_3.length c0_3]) (t := 30) (by first | (go_simp; done) | (go_simp; rfl)) ?_; intro gb101 hg w5 hbox hb; have n0_ := Aside0.mk (below_step (by repeat (first | (with_reducible first | exact HB.out | apply below_alloc | apply pw_below_drewN | apply below_drew1) | exact HB.out)) hb); have n1_ := Aside0.mk (hbox); have n2_ := Aside0.mk ((by rw [hg]; exact (below_size (by repeat (first | (with_reducible first | exact HB.out | apply below_alloc | apply pw_below_drewN | apply below_drew1) | exact HB.out))) : w.heap.size ≤ gb101)); clear HB; have HB := n0_; have BK101 := n1_; have GE101 := n2_; clear n0_ n1_ n2_; clear hb hbox hg) | ((with_reducible refine gate_dst (N := 4) rfl ?_); refine box_event (by rfl) (N := 4) (by rfl) (cs := #[.string (⟨#[]⟩ : ByteArray), .int .i64 0, .slice none 0 0, .slice none 0 0, .slice none 0 0, .int .i64 0, .int .i64 0]) (t := 38) (by first | (go_simp; done) | (go_simp; rfl)) ?_; intro gb102 hg w6 hbox hb; have n0_ := Aside0.mk (blk_below (g := gb101) (o := .cells #[.string a0_0, .int .i64 a0_1, .slice A0_2 l0_2.length c0_2, .slice A0_3 l0_3.length c0_3] 30 (0, 0)) (by (with_reducible repeat (first | refine blk_drewN ?_ _ | refine blk_drew ?_ | refine blk_alloc ?_ _)); exact BK101.out) hb); have n1_ := Aside0.mk (below_step (by repeat (first | (with_reducible first | exact HB.out | apply below_alloc | apply pw_below_drewN | apply below_drew1) | exact HB.out)) hb); have n2_ := Aside0.mk (hbox); have n3_ := Aside0.mk ((by rw [hg]; exact (below_size (by repeat (first | (with_reducible first | exact HB.out | apply below_alloc | apply pw_below_drewN | apply below_drew1) | exact HB.out))) : w.heap.size ≤ gb102)); clear BK101 HB; have BK101 := n0_; have HB := n1_; have BK102 := n2_; have GE102 := n3_; clear n0_ n1_ n2_ n3_; clear hb hbox hg; have hcz2_0 : w6.cell? ⟨gb102, 0, none⟩ = some (.string (⟨#[]⟩ : ByteArray)) := (blk_cell BK102.out 0).trans rfl; have hfz2_0 := blk_frozen BK102.out 0; have hcz2_1 : w6.cell? ⟨gb102, 1, none⟩ = some (.int .i64 0) := (blk_cell BK102.out 1).trans rfl; have hfz2_1 := blk_frozen BK102.out 1; have hcz2_2 : w6.cell? ⟨gb102, 2, none⟩ = some (.slice none 0 0) := (blk_cell BK102.out 2).trans rfl; have hfz2_2 := blk_frozen BK102.out 2; have hcz2_3 : w6.cell? ⟨gb102, 3, none⟩ = some (.slice none 0 0) := (blk_cell BK102.out 3).trans rfl; have hfz2_3 := blk_frozen BK102.out 3; have hcz2_4 : w6.cell? ⟨gb102, 4, none⟩ = some (.slice none 0 0) := (blk_cell BK102.out 4).trans rfl; have hfz2_4 := blk_frozen BK102.out 4; have hcz2_5 : w6.cell? ⟨gb102, 5, none⟩ = some (.int .i64 0) := (blk_cell BK102.out 5).trans rfl; have hfz2_5 := blk_frozen BK102.out 5; have hcz2_6 : w6.cell? ⟨gb102, 6, none⟩ = some (.int .i64 0) := (blk_cell BK102.out 6).trans rfl; have hfz2_6 := blk_frozen BK102.out 6; have hcz1_0 : w6.cell? ⟨gb101, 0, none⟩ = some (.string a0_0) := (blk_cell BK101.out 0).trans rfl; have hfz1_0 := blk_frozen BK101.out 0; have hcz1_1 : w6.cell? ⟨gb101, 1, none⟩ = some (.int .i64 a0_1) := (blk_cell BK101.out 1).trans rfl; have hfz1_1 := blk_frozen BK101.out 1; have hcz1_2 : w6.cell? ⟨gb101, 2, none⟩ = some (.slice A0_2 l0_2.length c0_2) := (blk_cell BK101.out 2).trans rfl; have hfz1_2 := blk_frozen BK101.out 2; have hcz1_3 : w6.cell? ⟨gb101, 3, none⟩ = some (.slice A0_3 l0_3.length c0_3) := (blk_cell BK101.out 3).trans rfl; have hfz1_3 := blk_frozen BK101.out 3) | (go_at_call 42; (with_reducible refine (impl_isTopic.calls k a0_0 a0_1 A0_2 c0_2 l0_2 A0_3 c0_3 l0_3 true _ ?side1 ?side2 ?side3 ?side4 A1.out).mono ?_); (case side1 => repeat (first | exact (Kd.C_below HR0_2.out HB.out) | (with_reducible refine Kd.C_alloc ?_ _) | (with_reducible refine Kd.C_drewN ?_ _) | (with_reducible refine Kd.C_drew ?_))); (case side2 => exact HC0_2.out); (case side3 => repeat (first | exact (Kd.C_below HR0_3.out HB.out) | (with_reducible refine Kd.C_alloc ?_ _) | (with_reducible refine Kd.C_drewN ?_ _) | (with_reducible refine Kd.C_drew ?_))); (case side4 => exact HC0_3.out); rintro e w7 ⟨rfl, hb⟩; have n_ := Aside0.mk (blk_below (g := gb101) (o := .cells #[.string a0_0, .int .i64 a0_1, .slice A0_2 l0_2.length c0_2, .slice A0_3 l0_3.length c0_3] 30 (0, 0)) (by (with_reducible repeat (first | refine blk_drewN ?_ _ | refine blk_drew ?_ | refine blk_alloc ?_ _)); exact BK101.out) hb); clear BK101; have BK101 := n_; clear n_; have n_ := Aside0.mk (blk_below (g := gb102) (o := .cells #[.string (⟨#[]⟩ : ByteArray), .int .i64 0, .slice none 0 0, .slice none 0 0, .slice none 0 0, .int .i64 0, .int .i64 0] 38 (0, 0)) (by (with_reducible repeat (first | refine blk_drewN ?_ _ | refine blk_drew ?_ | refine blk_alloc ?_ _)); exact BK102.out) hb); clear BK102; have BK102 := n_; clear n_; have n_ := Aside0.mk (below_step (by repeat (first | (with_reducible first | exact HB.out | apply below_alloc | apply pw_below_drewN | apply below_drew1) | exact HB.out)) hb); clear HB; have HB := n_; clear n_ hb; have hcz4_0 : w7.cell? ⟨gb102, 0, none⟩ = some (.string (⟨#[]⟩ : ByteArray)) := (blk_cell BK102.out 0).trans rfl; have hfz4_0 := blk_frozen BK102.out 0; have hcz4_1 : w7.cell? ⟨gb102, 1, none⟩ = some (.int .i64 0) := (blk_cell BK102.out 1).trans rfl; have hfz4_1 := blk_frozen BK102.out 1; have hcz4_2 : w7.cell? ⟨gb102, 2, none⟩ = some (.slice none 0 0) := (blk_cell BK102.out 2).trans rfl; have hfz4_2 := blk_frozen BK102.out 2; have hcz4_3 : w7.cell? ⟨gb102, 3, none⟩ = some (.slice none 0 0) := (blk_cell BK102.out 3).trans rfl; have hfz4_3 := blk_frozen BK102.out 3; have hcz4_4 : w7.cell? ⟨gb102, 4, none⟩ = some (.slice none 0 0) := (blk_cell BK102.out 4).trans rfl; have hfz4_4 := blk_frozen BK102.out 4; have hcz4_5 : w7.cell? ⟨gb102, 5, none⟩ = some (.int .i64 0) := (blk_cell BK102.out 5).trans rfl; have hfz4_5 := blk_frozen BK102.out 5; have hcz4_6 : w7.cell? ⟨gb102, 6, none⟩ = some (.int .i64 0) := (blk_cell BK102.out 6).trans rfl; have hfz4_6 := blk_frozen BK102.out 6; have hcz3_0 : w7.cell? ⟨gb101, 0, none⟩ = some (.string a0_0) := (blk_cell BK101.out 0).trans rfl; have hfz3_0 := blk_frozen BK101.out 0; have hcz3_1 : w7.cell? ⟨gb101, 1, none⟩ = some (.int .i64 a0_1) := (blk_cell BK101.out 1).trans rfl; have hfz3_1 := blk_frozen BK101.out 1; have hcz3_2 : w7.cell? ⟨gb101, 2, none⟩ = some (.slice A0_2 l0_2.length c0_2) := (blk_cell BK101.out 2).trans rfl; have hfz3_2 := blk_frozen BK101.out 2; have hcz3_3 : w7.cell? ⟨gb101, 3, none⟩ = some (.slice A0_3 l0_3.length c0_3) := (blk_cell BK101.out 3).trans rfl; have hfz3_3 := blk_frozen BK101.out 3) | (go_at_call 49; (with_reducible refine (impl_within.calls a1 0 20 true _ A2.out).mono ?_); rintro e w' ⟨rfl, ⟨nd, rfl⟩⟩) | (go_at_call 50; (with_reducible refine (impl_cloneTopic.calls a0_0 a0_1 A0_2 c0_2 l0_2 A0_3 c0_3 l0_3 c0 d1 e2 e3 _ ?side1 ?side2 ?side3 ?side4 A3.out).mono ?_); (case side1 => repeat (first | exact (Kd.C_below HR0_2.out HB.out) | (with_reducible refine Kd.C_alloc ?_ _) | (with_reducible refine Kd.C_drewN ?_ _) | (with_reducible refine Kd.C_drew ?_))); (case side2 => exact HC0_2.out); (case side3 => repeat (first | exact (Kd.C_below HR0_3.out HB.out) | (with_reducible refine Kd.C_alloc ?_ _) | (with_reducible refine Kd.C_drewN ?_ _) | (with_reducible refine Kd.C_drew ?_))); (case side4 => exact HC0_3.out); rintro e w8 ⟨v8, v9, rfl, ho2, ho3, hb⟩; obtain ⟨A8, c8, rfl⟩ := Kd.R_slice ho2; obtain ⟨A9, c9, rfl⟩ := Kd.R_slice ho3; have HO2 := Aside0.mk (Kd.R_lower ho2 (below_size (by repeat (first | (with_reducible first | exact HB.out | apply below_alloc | apply pw_below_drewN | apply below_drew1) | exact HB.out)))); have HO3 := Aside0.mk (Kd.R_lower ho3 (below_size (by repeat (first | (with_reducible first | exact HB.out | apply below_alloc | apply pw_below_drewN | apply below_drew1) | exact HB.out)))); clear ho2 ho3; have n_ := Aside0.mk (blk_below (g := gb101) (o := .cells #[.string a0_0, .int .i64 a0_1, .slice A0_2 l0_2.length c0_2, .slice A0_3 l0_3.length c0_3] 30 (0, 0)) (by (with_reducible repeat (first | refine blk_drewN ?_ _ | refine blk_drew ?_ | refine blk_alloc ?_ _)); exact BK101.out) hb); clear BK101; have BK101 := n_; clear n_; have n_ := Aside0.mk (blk_below (g := gb102) (o := .cells #[.string (⟨#[]⟩ : ByteArray), .int .i64 0, .slice none 0 0, .slice none 0 0, .slice none 0 0, .int .i64 0, .int .i64 0] 38 (0, 0)) (by (with_reducible repeat (first | refine blk_drewN ?_ _ | refine blk_drew ?_ | refine blk_alloc ?_ _)); exact BK102.out) hb); clear BK102; have BK102 := n_; clear n_; have n_ := Aside0.mk (below_step (by repeat (first | (with_reducible first | exact HB.out | apply below_alloc | apply pw_below_drewN | apply below_drew1) | exact HB.out)) hb); clear HB; have HB := n_; clear n_ hb; have hcz6_0 : w8.cell? ⟨gb102, 0, none⟩ = some (.string (⟨#[]⟩ : ByteArray)) := (blk_cell BK102.out 0).trans rfl; have hfz6_0 := blk_frozen BK102.out 0; have hcz6_1 : w8.cell? ⟨gb102, 1, none⟩ = some (.int .i64 0) := (blk_cell BK102.out 1).trans rfl; have hfz6_1 := blk_frozen BK102.out 1; have hcz6_2 : w8.cell? ⟨gb102, 2, none⟩ = some (.slice none 0 0) := (blk_cell BK102.out 2).trans rfl; have hfz6_2 := blk_frozen BK102.out 2; have hcz6_3 : w8.cell? ⟨gb102, 3, none⟩ = some (.slice none 0 0) := (blk_cell BK102.out 3).trans rfl; have hfz6_3 := blk_frozen BK102.out 3; have hcz6_4 : w8.cell? ⟨gb102, 4, none⟩ = some (.slice none 0 0) := (blk_cell BK102.out 4).trans rfl; have hfz6_4 := blk_frozen BK102.out 4; have hcz6_5 : w8.cell? ⟨gb102, 5, none⟩ = some (.int .i64 0) := (blk_cell BK102.out 5).trans rfl; have hfz6_5 := blk_frozen BK102.out 5; have hcz6_6 : w8.cell? ⟨gb102, 6, none⟩ = some (.int .i64 0) := (blk_cell BK102.out 6).trans rfl; have hfz6_6 := blk_frozen BK102.out 6; have hcz5_0 : w8.cell? ⟨gb101, 0, none⟩ = some (.string a0_0) := (blk_cell BK101.out 0).trans rfl; have hfz5_0 := blk_frozen BK101.out 0; have hcz5_1 : w8.cell? ⟨gb101, 1, none⟩ = some (.int .i64 a0_1) := (blk_cell BK101.out 1).trans rfl; have hfz5_1 := blk_frozen BK101.out 1; have hcz5_2 : w8.cell? ⟨gb101, 2, none⟩ = some (.slice A0_2 l0_2.length c0_2) := (blk_cell BK101.out 2).trans rfl; have hfz5_2 := blk_frozen BK101.out 2; have hcz5_3 : w8.cell? ⟨gb101, 3, none⟩ = some (.slice A0_3 l0_3.length c0_3) := (blk_cell BK101.out 3).trans rfl; have hfz5_3 := blk_frozen BK101.out 3) | ((with_reducible refine gate_dst (N := 5) rfl ?_); refine box_event (by rfl) (N := 5) (by rfl) (cs := #[.string (⟨#[]⟩ : ByteArray), .int .i64 0, .slice none 0 0, .slice none 0 0]) (t := 30) (by first | (go_simp; done) | (go_simp; rfl)) ?_; intro gb103 hg w9 hbox hb; have n_ := Aside0.mk (blk_below (g := gb101) (o := .cells #[.string a0_0, .int .i64 a0_1, .slice A0_2 l0_2.length c0_2, .slice A0_3 l0_3.length c0_3] 30 (0, 0)) (by (with_reducible repeat (first | refine blk_drewN ?_ _ | refine blk_drew ?_ | refine blk_alloc ?_ _)); exact BK101.out) hb); clear BK101; have BK101 := n_; clear n_; have n_ := Aside0.mk (blk_below (g := gb102) (o := .cells #[.string (⟨#[]⟩ : ByteArray), .int .i64 0, .slice none 0 0, .slice none 0 0, .slice none 0 0, .int .i64 0, .int .i64 0] 38 (0, 0)) (by (with_reducible repeat (first | refine blk_drewN ?_ _ | refine blk_drew ?_ | refine blk_alloc ?_ _)); exact BK102.out) hb); clear BK102; have BK102 := n_; clear n_; have n2_ := Aside0.mk (Kd.R_below (by (with_reducible repeat (first | apply Kd.R_alloc | apply Kd.R_drewN | apply Kd.R_drew)); exact HO2.out) hb); have n3_ := Aside0.mk (Kd.R_below (by (with_reducible repeat (first | apply Kd.R_alloc | apply Kd.R_drewN | apply Kd.R_drew)); exact HO3.out) hb); clear HO2 HO3; have HO2 := n2_; have HO3 := n3_; clear n2_ n3_; have n1_ := Aside0.mk (below_step (by repeat (first | (with_reducible first | exact HB.out | apply below_alloc | apply pw_below_drewN | apply below_drew1) | exact HB.out)) hb); have n2_ := Aside0.mk hbox; have n3_ := Aside0.mk ((by rw [hg]; exact (below_size (by repeat (first | (with_reducible first | exact HB.out | apply below_alloc | apply pw_below_drewN | apply below_drew1) | exact HB.out)))) : w.heap.size ≤ gb103); have NB : Aside0 (gb102 ≠ gb103) := ⟨fun e_ => by have h_ := BK102.out; rw [e_, hbox] at h_; injection h_ with h_; injection h_ with _ h_; exact absurd h_ (by decide)⟩; clear HB; have HB := n1_; have BK103 := n2_; have GE103 := n3_; clear n1_ n2_ n3_ hb hbox hg; have hcz7_0 : w9.cell? ⟨gb102, 0, none⟩ = some (.string (⟨#[]⟩ : ByteArray)) := (blk_cell BK102.out 0).trans rfl; have hfz7_0 := blk_frozen BK102.out 0; have hcz7_1 : w9.cell? ⟨gb102, 1, none⟩ = some (.int .i64 0) := (blk_cell BK102.out 1).trans rfl; have hfz7_1 := blk_frozen BK102.out 1; have hcz7_2 : w9.cell? ⟨gb102, 2, none⟩ = some (.slice none 0 0) := (blk_cell BK102.out 2).trans rfl; have hfz7_2 := blk_frozen BK102.out 2; have hcz7_3 : w9.cell? ⟨gb102, 3, none⟩ = some (.slice none 0 0) := (blk_cell BK102.out 3).trans rfl; have hfz7_3 := blk_frozen BK102.out 3; have hcz7_4 : w9.cell? ⟨gb102, 4, none⟩ = some (.slice none 0 0) := (blk_cell BK102.out 4).trans rfl; have hfz7_4 := blk_frozen BK102.out 4; have hcz7_5 : w9.cell? ⟨gb102, 5, none⟩ = some (.int .i64 0) := (blk_cell BK102.out 5).trans rfl; have hfz7_5 := blk_frozen BK102.out 5; have hcz7_6 : w9.cell? ⟨gb102, 6, none⟩ = some (.int .i64 0) := (blk_cell BK102.out 6).trans rfl; have hfz7_6 := blk_frozen BK102.out 6; have hcz8_0 : w9.cell? ⟨gb103, 0, none⟩ = some (.string (⟨#[]⟩ : ByteArray)) := (blk_cell BK103.out 0).trans rfl; have hfz8_0 := blk_frozen BK103.out 0; have hcz8_1 : w9.cell? ⟨gb103, 1, none⟩ = some (.int .i64 0) := (blk_cell BK103.out 1).trans rfl; have hfz8_1 := blk_frozen BK103.out 1; have hcz8_2 : w9.cell? ⟨gb103, 2, none⟩ = some (.slice none 0 0) := (blk_cell BK103.out 2).trans rfl; have hfz8_2 := blk_frozen BK103.out 2; have hcz8_3 : w9.cell? ⟨gb103, 3, none⟩ = some (.slice none 0 0) := (blk_cell BK103.out 3).trans rfl; have hfz8_3 := blk_frozen BK103.out 3) | (go_at_call 51; (with_reducible refine (impl_Topic_retain.calls k gb103 c0 d1 (.slice A8 e2.length c8) (.slice A9 e3.length c9) e2 e3 a1 p0 p1 p2 p3 w _ ?side1 GE103.out ?side2 ?side3 ?side4 A4.out).mono ?_); (case side1 => (with_reducible repeat (first | refine blk_drewN ?_ _ | refine blk_drew ?_ | refine blk_alloc ?_ _)); refine blk_put (cs := #[.string c0, .int .i64 d1, .slice A8 e2.length c8, .slice none 0 0]) ?_ 3 _ rfl; (with_reducible repeat (first | refine blk_drewN ?_ _ | refine blk_drew ?_ | refine blk_alloc ?_ _)); refine blk_put (cs := #[.string c0, .int .i64 d1, .slice none 0 0, .slice none 0 0]) ?_ 2 _ rfl; (with_reducible repeat (first | refine blk_drewN ?_ _ | refine blk_drew ?_ | refine blk_alloc ?_ _)); refine blk_put (cs := #[.string c0, .int .i64 0, .slice none 0 0, .slice none 0 0]) ?_ 1 _ rfl; (with_reducible repeat (first | refine blk_drewN ?_ _ | refine blk_drew ?_ | refine blk_alloc ?_ _)); refine blk_put (cs := #[.string (⟨#[]⟩ : ByteArray), .int .i64 0, .slice none 0 0, .slice none 0 0]) ?_ 0 _ rfl; (with_reducible repeat (first | refine blk_drewN ?_ _ | refine blk_drew ?_ | refine blk_alloc ?_ _)); exact BK103.out); (case side2 => exact (by repeat (first | (with_reducible first | exact HB.out | apply below_alloc | apply pw_below_drewN | apply below_drew1 | refine below_set ?_ GE103.out) | exact HB.out))); (case side3 => (with_reducible repeat (first | apply Kd.R_alloc | apply Kd.R_drewN | apply Kd.R_drew)); exact Kd.R_mono (Kd.R_far (p := ⟨gb103, 3, none⟩) (Kd.R_far (p := ⟨gb103, 2, none⟩) (Kd.R_far (p := ⟨gb103, 1, none⟩) (Kd.R_far (p := ⟨gb103, 0, none⟩) (Kd.R_types HO2.out BK103.out (by decide)) (fun _ hk => hk.2) (.string c0)) (fun _ hk => hk.2) (.int .i64 d1)) (fun _ hk => hk.2) (.slice A8 e2.length c8)) (fun _ hk => hk.2) (.slice A9 e3.length c9)) (fun _ _ => trivial)); (case side4 => (with_reducible repeat (first | apply Kd.R_alloc | apply Kd.R_drewN | apply Kd.R_drew)); exact Kd.R_mono (Kd.R_far (p := ⟨gb103, 3, none⟩) (Kd.R_far (p := ⟨gb103, 2, none⟩) (Kd.R_far (p := ⟨gb103, 1, none⟩) (Kd.R_far (p := ⟨gb103, 0, none⟩) (Kd.R_types HO3.out BK103.out (by decide)) (fun _ hk => hk.2) (.string c0)) (fun _ hk => hk.2) (.int .i64 d1)) (fun _ hk => hk.2) (.slice A8 e2.length c8)) (fun _ hk => hk.2) (.slice A9 e3.length c9)) (fun _ _ => trivial)); rintro e w10 ⟨v10, rfl, hG, hQ, hR, hb, hk⟩; obtain ⟨A10, c10, rfl, _⟩ := Kd.Q_slice hQ; have hw_ := blk_far (p := ⟨gb103, 3, none⟩) (blk_far (p := ⟨gb103, 2, none⟩) (blk_far (p := ⟨gb103, 1, none⟩) (blk_far (p := ⟨gb103, 0, none⟩) BK102.out NB.out (.string c0)) NB.out (.int .i64 d1)) NB.out (.slice A8 e2.length c8)) NB.out (.slice A9 e3.length c9); have n2_ := Aside0.mk ((hk.2 gb102 (blk_lt hw_) NB.out (Kd.R_ne HO3.out BK102.out (by decide))).trans hw_); clear hw_ hk BK101 BK102 BK103 HO2 HO3 HB; have BK102 := n2_; have BK103 := Aside0.mk hG; have HO2 := Aside0.mk hQ; have HO3 := Aside0.mk hR; have HB := Aside0.mk hb; clear n2_ hG hR hQ hb; have hcz9_0 : w10.cell? ⟨gb103, 0, none⟩ = some (.string c0) := (blk_cell BK103.out 0).trans rfl; have hfz9_0 := blk_frozen BK103.out 0; have hcz9_1 : w10.cell? ⟨gb103, 1, none⟩ = some (.int .i64 p1) := (blk_cell BK103.out 1).trans rfl; have hfz9_1 := blk_frozen BK103.out 1; have hcz9_2 : w10.cell? ⟨gb103, 2, none⟩ = some (.slice A10 p2.length c10) := (blk_cell BK103.out 2).trans rfl; have hfz9_2 := blk_frozen BK103.out 2; have hcz9_3 : w10.cell? ⟨gb103, 3, none⟩ = some (.slice A9 e3.length c9) := (blk_cell BK103.out 3).trans rfl; have hfz9_3 := blk_frozen BK103.out 3; have hcz10_0 : w10.cell? ⟨gb102, 0, none⟩ = some (.string (⟨#[]⟩ : ByteArray)) := (blk_cell BK102.out 0).trans rfl; have hfz10_0 := blk_frozen BK102.out 0; have hcz10_1 : w10.cell? ⟨gb102, 1, none⟩ = some (.int .i64 0) := (blk_cell BK102.out 1).trans rfl; have hfz10_1 := blk_frozen BK102.out 1; have hcz10_2 : w10.cell? ⟨gb102, 2, none⟩ = some (.slice none 0 0) := (blk_cell BK102.out 2).trans rfl; have hfz10_2 := blk_frozen BK102.out 2; have hcz10_3 : w10.cell? ⟨gb102, 3, none⟩ = some (.slice none 0 0) := (blk_cell BK102.out 3).trans rfl; have hfz10_3 := blk_frozen BK102.out 3; have hcz10_4 : w10.cell? ⟨gb102, 4, none⟩ = some (.slice none 0 0) := (blk_cell BK102.out 4).trans rfl; have hfz10_4 := blk_frozen BK102.out 4; have hcz10_5 : w10.cell? ⟨gb102, 5, none⟩ = some (.int .i64 0) := (blk_cell BK102.out 5).trans rfl; have hfz10_5 := blk_frozen BK102.out 5; have hcz10_6 : w10.cell? ⟨gb102, 6, none⟩ = some (.int .i64 0) := (blk_cell BK102.out 6).trans rfl; have hfz10_6 := blk_frozen BK102.out 6))
      refine bodyPost_ret (results_cell_row rfl _ _ gb102 38 #[.string c0, .int .i64 p1, .slice A10 p2.length c10, .slice A9 e3.length c9, .slice none 0 0, .int .i64 p0, .int .i64 0] (0, 0) _ rfl (by (with_reducible repeat (first | refine blk_drewN ?_ _ | refine blk_drew ?_ | refine blk_alloc ?_ _)); refine blk_put (cs := #[.string c0, .int .i64 p1, .slice A10 p2.length c10, .slice A9 e3.length c9, .slice none 0 0, .int .i64 p0, .int .i64 0]) ?_ 6 _ rfl; (with_reducible repeat (first | refine blk_drewN ?_ _ | refine blk_drew ?_ | refine blk_alloc ?_ _)); refine blk_put (cs := #[.string c0, .int .i64 p1, .slice A10 p2.length c10, .slice A9 e3.length c9, .slice none 0 0, .int .i64 0, .int .i64 0]) ?_ 5 _ rfl; (with_reducible repeat (first | refine blk_drewN ?_ _ | refine blk_drew ?_ | refine blk_alloc ?_ _)); refine blk_put (cs := #[.string c0, .int .i64 p1, .slice A10 p2.length c10, .slice A9 e3.length c9, .slice none 0 0, .int .i64 0, .int .i64 0]) ?_ 4 _ rfl; (with_reducible repeat (first | refine blk_drewN ?_ _ | refine blk_drew ?_ | refine blk_alloc ?_ _)); refine blk_put (cs := #[.string c0, .int .i64 p1, .slice A10 p2.length c10, .slice none 0 0, .slice none 0 0, .int .i64 0, .int .i64 0]) ?_ 3 _ rfl; (with_reducible repeat (first | refine blk_drewN ?_ _ | refine blk_drew ?_ | refine blk_alloc ?_ _)); refine blk_put (cs := #[.string c0, .int .i64 p1, .slice none 0 0, .slice none 0 0, .slice none 0 0, .int .i64 0, .int .i64 0]) ?_ 2 _ rfl; (with_reducible repeat (first | refine blk_drewN ?_ _ | refine blk_drew ?_ | refine blk_alloc ?_ _)); refine blk_put (cs := #[.string c0, .int .i64 0, .slice none 0 0, .slice none 0 0, .slice none 0 0, .int .i64 0, .int .i64 0]) ?_ 1 _ rfl; (with_reducible repeat (first | refine blk_drewN ?_ _ | refine blk_drew ?_ | refine blk_alloc ?_ _)); refine blk_put (cs := #[.string (⟨#[]⟩ : ByteArray), .int .i64 0, .slice none 0 0, .slice none 0 0, .slice none 0 0, .int .i64 0, .int .i64 0]) ?_ 0 _ rfl; (with_reducible repeat (first | refine blk_drewN ?_ _ | refine blk_drew ?_ | refine blk_alloc ?_ _)); exact BK102.out) Try.underlying38 rfl (by kernel_rfl)) rfl ?_
      exact ⟨_, _, _, rfl, by (with_reducible repeat (first | apply Kd.Q_alloc | apply Kd.Q_drewN | apply Kd.Q_drew)); exact Kd.Q_mono (Kd.Q_far (p := ⟨gb102, 6, none⟩) (Kd.Q_far (p := ⟨gb102, 5, none⟩) (Kd.Q_far (p := ⟨gb102, 4, none⟩) (Kd.Q_far (p := ⟨gb102, 3, none⟩) (Kd.Q_far (p := ⟨gb102, 2, none⟩) (Kd.Q_far (p := ⟨gb102, 1, none⟩) (Kd.Q_far (p := ⟨gb102, 0, none⟩) (Kd.Q_types HO2.out BK102.out (by decide)) (fun _ hk => hk.2) (.string c0)) (fun _ hk => hk.2) (.int .i64 p1)) (fun _ hk => hk.2) (.slice A10 p2.length c10)) (fun _ hk => hk.2) (.slice A9 e3.length c9)) (fun _ hk => hk.2) (.slice none 0 0)) (fun _ hk => hk.2) (.int .i64 p0)) (fun _ hk => hk.2) (.int .i64 0)) (fun _ hk => by simp [Value.ownBlock]), by (with_reducible repeat (first | apply Kd.R_alloc | apply Kd.R_drewN | apply Kd.R_drew)); exact Kd.R_mono (Kd.R_far (p := ⟨gb102, 6, none⟩) (Kd.R_far (p := ⟨gb102, 5, none⟩) (Kd.R_far (p := ⟨gb102, 4, none⟩) (Kd.R_far (p := ⟨gb102, 3, none⟩) (Kd.R_far (p := ⟨gb102, 2, none⟩) (Kd.R_far (p := ⟨gb102, 1, none⟩) (Kd.R_far (p := ⟨gb102, 0, none⟩) (Kd.R_types HO3.out BK102.out (by decide)) (fun _ hk => hk.2) (.string c0)) (fun _ hk => hk.2) (.int .i64 p1)) (fun _ hk => hk.2) (.slice A10 p2.length c10)) (fun _ hk => hk.2) (.slice A9 e3.length c9)) (fun _ hk => hk.2) (.slice none 0 0)) (fun _ hk => hk.2) (.int .i64 p0)) (fun _ hk => hk.2) (.int .i64 0)) (fun _ _ => trivial), Kd.R_nil _ _ _ _ _, by repeat (first | (with_reducible first | exact HB.out | apply below_alloc | apply pw_below_drewN | apply below_drew1 | refine below_set ?_ GE102.out) | exact HB.out)⟩


end Go.Proofs.Ytmeibecplnppaaa.Z
