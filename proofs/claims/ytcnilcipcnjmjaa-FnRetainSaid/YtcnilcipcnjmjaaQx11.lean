/- Printed by a program of this session (wip/mp.py over the kit's print.py): functions of the translation as plain Lean functions, and that the machine's calls do what these say. -/
import Derived.Test.YtcnilcipcnjmjaaQx0
import Derived.Test.YtcnilcipcnjmjaaQx1
import Derived.Test.YtcnilcipcnjmjaaQx3
namespace Go.Proofs.Ytcnilcipcnjmjaa.Q
open Go.RowKit Go.Proofs.Ytcnilcipcnjmjaa.HB Go.Proofs.YtcnilcipcnjmjaaW.PrintWords Go.Proofs.YtcnilcipcnjmjaaW.PrintLast Go.Proofs.YtcnilcipcnjmjaaW.PrintMore
attribute [local go_sem] max2_int min2_int max_two min_two max_three min_three max_four min_four   -- for this text's walks alone
set_option linter.unusedVariables false
set_option linter.unusedSimpArgs false

attribute [local go_sem high] eqA36
/-! ### slices_Clone_string_string: function 46 (by hand) -/
def slices_Clone_string_string.f (l0 : List ByteArray) : Option (List ByteArray) := (some (([] : List ByteArray) : List ByteArray)).bind fun y101 => (if y101.length + l0.length < 8796093022208 then (some (y101 ++ l0)) else (none))
set_option maxHeartbeats 60000000 in
set_option maxRecDepth 100000 in
theorem slices_Clone_string_string.calls (A0 : Option Addr) (c0 : Nat) (l0 : List ByteArray) (r : List ByteArray) (w : World) (hr0 : Kd.C Kd.string w A0 l0.length l0) (hc0 : l0.length ≤ c0) (h : slices_Clone_string_string.f l0 = some r) :
    Calls Try.prog 46 #[.slice A0 l0.length c0] w fun e w' => ∃ v0_ : Value, e = .returned (v0_) ∧ Kd.R Kd.string 9 w' w.heap.size (fun _ => True) v0_ r ∧ Below w.heap.size w w' := by
  have HR0 := Aside0.mk hr0
  have HC0 := Aside0.mk hc0
  clear hr0 hc0
  have HB := Aside0.mk (Below.refl w.heap.size w)
  have H : ((some (([] : List ByteArray) : List ByteArray)).bind fun y101 => (if y101.length + l0.length < 8796093022208 then (some (y101 ++ l0)) else (none))) = some r := h
  clear h
  obtain ⟨y101, hy101⟩ : ∃ y_ : List ByteArray, y_ = (([] : List ByteArray)) := ⟨_, rfl⟩
  replace H : (if y101.length + l0.length < 8796093022208 then (some (y101 ++ l0)) else (none)) = some r := by first | (rw [hy101]; with_reducible exact H) | (have H2_ := (Option.bind_some _ _).symm.trans H; rw [hy101]; with_reducible exact H2_) | (have H2_ := (Option.bind_some _ _).symm.trans H; with_reducible exact H2_) | with_reducible exact H | (rw [hy101]; exact H) | exact H
  have Ny101 := Aside0.mk hy101
  clear hy101
  by_cases c2 : y101.length + l0.length < 8796093022208
  · rw [if_pos c2] at H
    have LMc2 := Aside0.mk c2
    clear c2
    obtain ⟨y104, hy104⟩ : ∃ y_ : List ByteArray, y_ = (y101 ++ l0) := ⟨_, rfl⟩
    replace H : (some y104) = some r := by first | (rw [hy104]; with_reducible exact H) | (have H2_ := (Option.bind_some _ _).symm.trans H; rw [hy104]; with_reducible exact H2_) | (have H2_ := (Option.bind_some _ _).symm.trans H; with_reducible exact H2_) | with_reducible exact H | (rw [hy104]; exact H) | exact H
    have Ny104 := Aside0.mk hy104
    clear hy104
    obtain rfl := Option.some.inj H
    have HN := Aside0.mk (fun (h : A0 = none) => (C_none (h ▸ HR0.out) : l0 = []))
    cases A0 with
    | none =>
      obtain rfl := HN.out rfl
      have hq : ∀ w : World, Sem.run Try.prog (binOp .eql 23 (.slice none 0 c0) (.slice none 0 0)) w = .ok (.bool true) w := fun w => Lib.run_eql_slice_nil w 23 9 none 0 c0 0 0 Try.underlying23
      go_enter Try.func46, Try.ntmps46
      go_wp2
      go_ret
      exact ⟨_, rfl, by rw [show y104 = [] from by rw [Ny104.out, Ny101.out]; rfl]; exact Kd.R_nil _ _ _ _ _, HB.out⟩
    | some ad0 =>
      clear HN
      have hq : ∀ w : World, Sem.run Try.prog (binOp .eql 23 (.slice (some ad0) l0.length c0) (.slice none 0 0)) w = .ok (.bool false) w := fun w => Lib.run_eql_slice_nil w 23 9 (some ad0) l0.length c0 0 0 Try.underlying23
      go_enter Try.func46, Try.ntmps46
      go_wp2_with (first | ((with_reducible refine gate_dst (N := 5) rfl ?_); refine Kd.R_lit Kd.string _ 9 ?hg (N := 5) ?hd (xs := ([] : List ByteArray)) (inner := []) (ok := fun _ => True) (okp := fun _ => True) ?hr ?hp (fun _ hk => hk) trivial (Below.refl _ _) (Nat.le_refl _) (by simp) ?_; (case hd => rfl); (case hg => rfl); (case hr => first | (go_simp; done) | (go_simp; rfl)); (case hp => exact (Reps.none _ _)); intro v102 w3 ho4 hb hg_ hnew_; clear hg_ hnew_; (first | rw [← Ny101.out] at ho4 | (simp only [Int.reduceToNat] at ho4; rw [← Ny101.out] at ho4)); have _ := Aside0.mk (Kd.R_lower ho4 (below_size (by repeat (first | (with_reducible first | exact HB.out | apply below_alloc | apply pw_below_drewN | apply below_drew1) | exact HB.out)))); have _ := Aside0.mk (below_step (by repeat (first | (with_reducible first | exact HB.out | apply below_alloc | apply pw_below_drewN | apply below_drew1) | exact HB.out)) hb); clear HB; rename_i HO103 HB; clear hb ho4) | ((with_reducible refine gate_builtin (b := .append) (xs := #[.tmp 5, .tmp 6]) rfl ?_); at_builtin; refine Kd.R_append_rows Kd.string (w0 := w) w.heap.size rfl (.tmp 5) (.tmp 6) 23 9 (.string ⟨#[]⟩) 16 rfl Try.underlying23 info9 rfl (by decide) (by omega) v102 y101 l0 _ _ _ (fun _ => True) (fun _ => False) rfl rfl ?aO ?aR (fun _ _ h => h) (fun _ h => h.elim) ?aF ?aB ?aS ?aL ?_; (case aR => repeat (first | exact (Kd.C_below HR0.out HB.out) | (with_reducible refine Kd.C_alloc ?_ _) | (with_reducible refine Kd.C_drewN ?_ _) | (with_reducible refine Kd.C_drew ?_))); (case aB => exact (by repeat (first | (with_reducible first | exact HB.out | apply below_alloc | apply pw_below_drewN | apply below_drew1) | exact HB.out))); (case aF => exact (fun _ _ => trivial)); (case aO => exact (by (with_reducible repeat (first | apply Kd.R_alloc | apply Kd.R_drewN | apply Kd.R_drew)); exact HO103.out)); (case aS => exact (below_size (by repeat (first | (with_reducible first | exact HB.out | apply below_alloc | apply pw_below_drewN | apply below_drew1) | exact HB.out)))); (case aL => have := LMc2.out; omega); intro v105 w5 ho hb hg hat; rw [← Ny104.out] at ho; have _ := Aside0.mk (hb); have _ := Aside0.mk (ho); clear HB HO103; rename_i HB HO106; clear ho hb hg hat))
      go_ret
      exact ⟨_, by first | rfl | (simp [errW_none, errW_some] <;> rfl) | (simp [*, errW_none, errW_some] <;> rfl), by (with_reducible repeat (first | apply Kd.R_alloc | apply Kd.R_drewN | apply Kd.R_drew)); exact HO106.out, by repeat (first | (with_reducible first | exact HB.out | apply below_alloc | apply pw_below_drewN | apply below_drew1) | exact HB.out)⟩
  · rw [if_neg c2] at H
    exact absurd H (by simp)


/-! ### impl_Group: function 47 (by hand) -/
def impl_Group.f (l0 : List (S36)) : Option ((List (S36))) := (some (([] : List (S36)) : List (S36))).bind fun y101 => (if y101.length + l0.length < 5864062014805 then (some (y101 ++ l0)) else (none))
set_option maxHeartbeats 60000000 in
set_option maxRecDepth 100000 in
theorem impl_Group.calls (A0 : Option Addr) (c0 : Nat) (l0 : List (S36)) (r : List (S36)) (w : World) (hr0 : Kd.C k36 w A0 l0.length l0) (hc0 : l0.length ≤ c0) (h : impl_Group.f l0 = some r) :
    Calls Try.prog 47 #[.slice A0 l0.length c0] w fun e w' => ∃ v0_ : Value, e = .returned (v0_) ∧ Kd.R k36 36 w' w.heap.size (fun _ => True) v0_ r ∧ Below w.heap.size w w' := by
  have HR0 := Aside0.mk hr0
  have HC0 := Aside0.mk hc0
  clear hr0 hc0
  have HB := Aside0.mk (Below.refl w.heap.size w)
  have H : ((some (([] : List (S36)) : List (S36))).bind fun y101 => (if y101.length + l0.length < 5864062014805 then (some (y101 ++ l0)) else (none))) = some r := h
  clear h
  obtain ⟨y101, hy101⟩ : ∃ y_ : List (S36), y_ = (([] : List (S36))) := ⟨_, rfl⟩
  replace H : (if y101.length + l0.length < 5864062014805 then (some (y101 ++ l0)) else (none)) = some r := by first | (rw [hy101]; with_reducible exact H) | (have H2_ := (Option.bind_some _ _).symm.trans H; rw [hy101]; with_reducible exact H2_) | (have H2_ := (Option.bind_some _ _).symm.trans H; with_reducible exact H2_) | with_reducible exact H | (rw [hy101]; exact H) | exact H
  have Ny101 := Aside0.mk hy101
  clear hy101
  by_cases c2 : y101.length + l0.length < 5864062014805
  · rw [if_pos c2] at H
    have LMc2 := Aside0.mk c2
    clear c2
    obtain ⟨y104, hy104⟩ : ∃ y_ : List (S36), y_ = (y101 ++ l0) := ⟨_, rfl⟩
    replace H : (some y104) = some r := by first | (rw [hy104]; with_reducible exact H) | (have H2_ := (Option.bind_some _ _).symm.trans H; rw [hy104]; with_reducible exact H2_) | (have H2_ := (Option.bind_some _ _).symm.trans H; with_reducible exact H2_) | with_reducible exact H | (rw [hy104]; exact H) | exact H
    have Ny104 := Aside0.mk hy104
    clear hy104
    obtain rfl := Option.some.inj H
    have HN := Aside0.mk (fun (h : A0 = none) => (C_none (h ▸ HR0.out) : l0 = []))
    cases A0 with
    | none =>
      obtain rfl := HN.out rfl
      have hq : ∀ w : World, Sem.run Try.prog (binOp .eql 24 (.slice none 0 c0) (.slice none 0 0)) w = .ok (.bool true) w := fun w => Lib.run_eql_slice_nil w 24 36 none 0 c0 0 0 Try.underlying24
      go_enter Try.func47, Try.ntmps47
      go_wp2
      go_ret
      exact ⟨_, rfl, by rw [show y104 = [] from by rw [Ny104.out, Ny101.out]; rfl]; exact Kd.R_nil _ _ _ _ _, HB.out⟩
    | some ad0 =>
      clear HN
      have hq : ∀ w : World, Sem.run Try.prog (binOp .eql 24 (.slice (some ad0) l0.length c0) (.slice none 0 0)) w = .ok (.bool false) w := fun w => Lib.run_eql_slice_nil w 24 36 (some ad0) l0.length c0 0 0 Try.underlying24
      go_enter Try.func47, Try.ntmps47
      go_wp2_with (first | ((with_reducible refine gate_dst (N := 5) rfl ?_); refine Kd.R_lit k36 _ 36 ?hg (N := 5) ?hd (xs := ([] : List (S36))) (inner := []) (ok := fun _ => True) (okp := fun _ => True) ?hr ?hp (fun _ hk => hk) trivial (Below.refl _ _) (Nat.le_refl _) (by simp) ?_; (case hd => rfl); (case hg => rfl); (case hr => first | (go_simp; done) | (go_simp; rfl)); (case hp => exact (Reps.none _ _)); intro v102 w3 ho4 hb hg_ hnew_; clear hg_ hnew_; (first | rw [← Ny101.out] at ho4 | (simp only [Int.reduceToNat] at ho4; rw [← Ny101.out] at ho4)); have _ := Aside0.mk (Kd.R_lower ho4 (below_size (by repeat (first | (with_reducible first | exact HB.out | apply below_alloc | apply pw_below_drewN | apply below_drew1) | exact HB.out)))); have _ := Aside0.mk (below_step (by repeat (first | (with_reducible first | exact HB.out | apply below_alloc | apply pw_below_drewN | apply below_drew1) | exact HB.out)) hb); clear HB; rename_i HO103 HB; clear hb ho4) | ((with_reducible refine gate_builtin (b := .append) (xs := #[.tmp 5, .tmp 6]) rfl ?_); at_builtin; refine Kd.R_append_rows k36 (w0 := w) w.heap.size rfl (.tmp 5) (.tmp 6) 24 36 (.agg #[(.string ⟨#[]⟩), (.int .i64 0)]) 24 rfl Try.underlying24 info36 rfl (by decide) (by omega) v102 y101 l0 _ _ _ (fun _ => True) (fun _ => False) rfl rfl ?aO ?aR (fun _ _ h => h) (fun _ h => h.elim) ?aF ?aB ?aS ?aL ?_; (case aR => repeat (first | exact (Kd.C_below HR0.out HB.out) | (with_reducible refine Kd.C_alloc ?_ _) | (with_reducible refine Kd.C_drewN ?_ _) | (with_reducible refine Kd.C_drew ?_))); (case aB => exact (by repeat (first | (with_reducible first | exact HB.out | apply below_alloc | apply pw_below_drewN | apply below_drew1) | exact HB.out))); (case aF => exact (fun _ _ => trivial)); (case aO => exact (by (with_reducible repeat (first | apply Kd.R_alloc | apply Kd.R_drewN | apply Kd.R_drew)); exact HO103.out)); (case aS => exact (below_size (by repeat (first | (with_reducible first | exact HB.out | apply below_alloc | apply pw_below_drewN | apply below_drew1) | exact HB.out)))); (case aL => have := LMc2.out; omega); intro v105 w5 ho hb hg hat; rw [← Ny104.out] at ho; have _ := Aside0.mk (hb); have _ := Aside0.mk (ho); clear HB HO103; rename_i HB HO106; clear ho hb hg hat))
      go_ret
      exact ⟨_, by first | rfl | (simp [errW_none, errW_some] <;> rfl) | (simp [*, errW_none, errW_some] <;> rfl), by (with_reducible repeat (first | apply Kd.R_alloc | apply Kd.R_drewN | apply Kd.R_drew)); exact HO106.out, by repeat (first | (with_reducible first | exact HB.out | apply below_alloc | apply pw_below_drewN | apply below_drew1) | exact HB.out)⟩
  · rw [if_neg c2] at H
    exact absurd H (by simp)


/-! ### impl_cloneTopic: function 24 -/
abbrev impl_cloneTopic.b0 : Array Bool := #[true, false, false, true, false, false, false, false, false, false]
abbrev impl_cloneTopic.b1 : Array Bool := #[true, true, false, true, false, false, false, false, false, false]
abbrev impl_cloneTopic.b2 : Array Bool := #[true, true, false, true, true, false, false, false, false, false]
abbrev impl_cloneTopic.b3 : Array Bool := #[true, true, true, true, true, false, true, false, false, false]
def impl_cloneTopic.f (a0_0 : ByteArray) (a0_1 : Int) (l0_2 : List ByteArray) (l0_3 : List (S36)) : Option (ByteArray × Int × List ByteArray × (List (S36))) := (slices_Clone_string_string.f l0_2).bind fun t103 => ((impl_Group.f l0_3).bind fun t106 => (some (a0_0, a0_1, t103, t106)))
def impl_cloneTopic.T1 : Bool × List (List Nat × List Nat) := (true, [([], []), ([0], [0]), ([1], [1]), ([], []), ([3], [3]), ([4, 2], [4]), ([0, 1, 2, 3, 4], []), ([6, 2, 5, 0, 1, 2, 3, 4], [2, 6]), ([0, 1, 2, 3, 4, 5, 6, 7], []), ([8, 5, 7, 0, 1, 2, 3, 4, 5, 6, 7], [5, 8])])
def impl_cloneTopic.B1 : List Nat := [0, 1, 3, 0, 8, 31, 31, 127, 255, 511]
theorem impl_cloneTopic.tab1 : rtab .any (opsOf Try.f24 1) = impl_cloneTopic.T1 := by kernel_rfl
theorem impl_cloneTopic.bits1 : waitsOk impl_cloneTopic.T1.2 impl_cloneTopic.B1 = true := by kernel_rfl
set_option maxHeartbeats 60000000 in
set_option maxRecDepth 100000 in
theorem impl_cloneTopic.calls (a0_0 : ByteArray) (a0_1 : Int) (A0_2 : Option Addr) (c0_2 : Nat) (l0_2 : List ByteArray) (A0_3 : Option Addr) (c0_3 : Nat) (l0_3 : List (S36)) (r1 : ByteArray) (r2 : Int) (r3 : List ByteArray) (r4 : List (S36)) (w : World) (hr0_2 : Kd.C Kd.string w A0_2 l0_2.length l0_2) (hc0_2 : l0_2.length ≤ c0_2) (hr0_3 : Kd.C k36 w A0_3 l0_3.length l0_3) (hc0_3 : l0_3.length ≤ c0_3) (h : impl_cloneTopic.f a0_0 a0_1 l0_2 l0_3 = some (r1, r2, r3, r4)) :
    Calls Try.prog 24 #[.agg #[.string a0_0, .int .i64 a0_1, .slice A0_2 l0_2.length c0_2, .slice A0_3 l0_3.length c0_3]] w fun e w' => ∃ v2_ v3_ : Value, e = .returned (.agg #[.string r1, .int .i64 r2, v2_, v3_]) ∧ Kd.R Kd.string 9 w' w.heap.size (fun _ => True) v2_ r3 ∧ Kd.R k36 36 w' w.heap.size (fun _ => True) v3_ r4 ∧ Below w.heap.size w w' := by
 have hu26 := Try.underlying26
 have HR0_2 := AM hr0_2
 have HC0_2 := AM hc0_2
 clear hr0_2 hc0_2
 have HR0_3 := AM hr0_3
 have HC0_3 := AM hc0_3
 clear hr0_3 hc0_3
 have HB := AM (Below.refl w.heap.size w)
 have H : ((slices_Clone_string_string.f l0_2).bind fun t103 => ((impl_Group.f l0_3).bind fun t106 => (some (a0_0, a0_1, t103, t106)))) = some (r1, r2, r3, r4) := h
 clear h
 replace H := Option.bind_eq_some_iff.mp H
 obtain ⟨t103, A20, H⟩ := H
 replace H : ((impl_Group.f l0_3).bind fun t106 => (some (a0_0, a0_1, t103, t106))) = some (r1, r2, r3, r4) := H
 have A2 := AM A20
 clear A20
 replace H := Option.bind_eq_some_iff.mp H
 obtain ⟨t106, A30, H⟩ := H
 replace H : (some (a0_0, a0_1, t103, t106)) = some (r1, r2, r3, r4) := H
 have A3 := AM A30
 clear A30
 simp only [Option.some.injEq, Prod.mk.injEq] at H
 obtain ⟨rfl, rfl, rfl, rfl⟩ := H
 go_enter Try.func24, Try.ntmps24
 try go_wp2_with (first | ((with_reducible refine gate_dst (N := 1) rfl ?_); refine box_event (by rfl) (N := 1) (by rfl) (cs := #[.string a0_0, .int .i64 a0_1, .slice A0_2 l0_2.length c0_2, .slice A0_3 l0_3.length c0_3]) (t := 26) (by first | (go_simp; done) | (go_simp; rfl)) ?_; intro gb101 hg w4 hbox hb; have _ := AM (below_step (bX HB.out) hb); have _ := AM (hbox); have n2_ := AM ((by rw [hg]; exact (bZ (bX HB.out)) : w.heap.size ≤ gb101)); clear HB; rename_i HB BK101; have GW101 := n2_; have GE101 := n2_; clear n2_; clear hb hbox hg) | ((with_reducible refine gate_dst (N := 2) rfl ?_); refine box_event (by rfl) (N := 2) (by rfl) (cs := #[.string (⟨#[]⟩ : ByteArray), .int .i64 0, .slice none 0 0, .slice none 0 0]) (t := 26) (by first | (go_simp; done) | (go_simp; rfl)) ?_; intro gb102 hg w5 hbox hb; have _ := AM (nB BK101.out hb); have _ := AM (below_step (bX HB.out) hb); have _ := AM (hbox); have n3_ := AM ((by rw [hg]; exact (bZ (bX HB.out)) : w.heap.size ≤ gb102)); have _ := AM (lX hg BK101.out); have _ := AM (lX hg BK101.out).symm; clear BK101 HB; rename_i BK101 HB BK102 NB101_102 NB102_101; have GW102 := n3_; have GE102 := n3_; clear n3_; clear hb hbox hg))
 have _ := AM (kD BK101.out)
 have _ := AM (kD BK102.out)
 have _ := AM (bD HB.out)
 clear BK101 BK102 HB
 rename_i BK101 BK102 HB
 refine start_ (n := 10) (S := fun w' => w'.cell? ⟨gb101, 0, none⟩ = some (.string a0_0) ∧ w'.cell? ⟨gb101, 1, none⟩ = some (.int .i64 a0_1) ∧ w'.cell? ⟨gb101, 2, none⟩ = some (.slice A0_2 l0_2.length c0_2) ∧ w'.cell? ⟨gb101, 3, none⟩ = some (.slice A0_3 l0_3.length c0_3)) (ds := [7, 9]) (upTo 0 10) (by kernel_rfl) rfl rfl (q4 BK101.out) (fun hHeld => ?_); refine with_tabW impl_cloneTopic.tab1 impl_cloneTopic.bits1 (fun HT_ HW_ => ?_)
 generalize w5.drew = w6 at BK101 BK102 HB hHeld ⊢
 refine pF 0 1 10 3 ?_
 refine pF2 3 6 impl_cloneTopic.b0 ?_
 refine pT2 1 4 impl_cloneTopic.b1 ?_ hHeld
 refine pT2 4 7 impl_cloneTopic.b2 ?_ hHeld
 refine one_ (i := 2) (N := some 5) (upTo 5 10) rfl rfl (one_of HT_.out (by kernel_rfl)) (by decide) (fun K hK => ?_)
 refine goes_ Try.func46 (by kernel_rfl) rfl #[.slice A0_2 l0_2.length c0_2] (by rfl) rfl rfl (by (try simp only [mA, mB, mC]); first | done | rfl | (simp only [mD, mE]; rfl)) ?_
 with_reducible refine (slices_Clone_string_string.calls _ _ l0_2 t103 _ ?side1 ?side2 A2.out).mono ?_
 (case side1 => repeat (first | exact (cB HR0_2.out HB.out) | (with_reducible first | apply cA | apply cN | apply cD)))
 (case side2 => exact HC0_2.out)
 rintro e w7 ⟨v104, rfl, ho0, hb⟩
 refine ⟨_, rfl, ?_⟩
 have _ := AM (Kd.R_lower ho0 (bZ (bX HB.out)))
 have _ := AM (nB BK101.out hb)
 have _ := AM (nB BK102.out hb)
 have _ := AM (below_step (bX HB.out) hb)
 clear BK101 BK102 HB
 rename_i HO105 BK101 BK102 HB
 (try clear hb)
 (try clear hk)
 (try clear ho0)
 refine hK.out _ _ (q4 BK101.out) (fun hHeld => ?_)
 clear hK K
 refine norm_ (a' := ?_) ?_ ?_
 rotate_left
 ·
  show Act.put _ (some 5) _ = _
  simp only [Act.put, sA, sB, sC, i64_w, i32_w]
  rfl
 refine pF2 6 9 impl_cloneTopic.b3 ?_
 refine one_ (i := 5) (N := some 8) (upTo 7 10) rfl rfl (one_of HT_.out (by kernel_rfl)) (by decide) (fun K hK => ?_)
 refine goes_ Try.func47 (by kernel_rfl) rfl #[.slice A0_3 l0_3.length c0_3] (by rfl) rfl rfl (by (try simp only [mA, mB, mC]); first | done | rfl | (simp only [mD, mE]; rfl)) ?_
 with_reducible refine (impl_Group.calls _ _ l0_3 t106 _ ?side1 ?side2 A3.out).mono ?_
 (case side1 => repeat (first | exact (cB HR0_3.out HB.out) | (with_reducible first | apply cA | apply cN | apply cD)))
 (case side2 => exact HC0_3.out)
 rintro e w8 ⟨v107, rfl, ho0, hb⟩
 refine ⟨_, rfl, ?_⟩
 have _ := AM (Kd.R_below (rX HO105.out) hb)
 have _ := AM (Kd.R_lower ho0 (bZ (bX HB.out)))
 have _ := AM (nB BK101.out hb)
 have _ := AM (nB BK102.out hb)
 have _ := AM (below_step (bX HB.out) hb)
 clear HO105 BK101 BK102 HB
 rename_i HO105 HO108 BK101 BK102 HB
 (try clear hb)
 (try clear hk)
 (try clear ho0)
 obtain ⟨Ao9, co9, eo9⟩ := Kd.R_slice HO105.out
 (first | subst eo9 | (injection eo9 with f1_ f2_ f3_; have f4_ := f1_.symm; have f5_ := f3_.symm; clear f1_ f2_ f3_; subst f4_; subst f5_))
 obtain ⟨Ao11, co11, eo11⟩ := Kd.R_slice HO108.out
 (first | subst eo11 | (injection eo11 with f1_ f2_ f3_; have f4_ := f1_.symm; have f5_ := f3_.symm; clear f1_ f2_ f3_; subst f4_; subst f5_))
 refine hK.out _ _ (q4 BK101.out) (fun hHeld => ?_)
 clear hK K
 refine norm_ (a' := ?_) ?_ ?_
 rotate_left
 ·
  show Act.put _ (some 8) _ = _
  simp only [Act.put, sA, sB, sC, i64_w, i32_w]
  rfl
 refine last_ (i := 7) (N := none) (upTo 8 10) rfl rfl (one_of HT_.out (by kernel_rfl)) (by decide) (fun K hK => ?_)
 have hs10 : w8.cell? ⟨gb101, 2, none⟩ = some (.slice A0_2 l0_2.length c0_2) := (kC BK101.out 2).trans rfl
 have hfs10 := fZ BK101.out 2
 have hns10_1 := NB102_101.out
 have hms10_1 := NB101_102.out
 refine skip_ (w1 := ?_) (by rfl) rfl ?_ ?_
 rotate_left
 ·
  go_simp
  rfl
 refine hK.out _ _ ?_
 clear hK K
 refine pF 8 9 10 10 ?_
 refine last_ (i := 9) (N := none) (upTo 10 10) rfl rfl (one_of HT_.out (by kernel_rfl)) (by decide) (fun K hK => ?_)
 have hs12 : w8.cell? ⟨gb101, 3, none⟩ = some (.slice A0_3 l0_3.length c0_3) := (kC BK101.out 3).trans rfl
 have hfs12 := fZ BK101.out 3
 have hns12_1 := NB102_101.out
 have hms12_1 := NB101_102.out
 refine skip_ (w1 := ?_) (by rfl) rfl ?_ ?_
 rotate_left
 ·
  go_simp
  rfl
 refine hK.out _ _ ?_
 clear hK K
 refine done_ (done_of HT_.out (by kernel_rfl)) ?_
 have hnb13 := NB101_102.out
 have hnc13 := NB102_101.out
 have hcz14 := q4 BK101.out
 have hfz14 := fZ BK101.out
 have hcz15 := q4 BK102.out
 have hfz15 := fZ BK102.out
 try go_wp2
 refine bodyPost_ret (results_cell_row rfl _ _ gb102 26 #[.string a0_0, .int .i64 a0_1, .slice Ao9 t103.length co9, .slice Ao11 t106.length co11] (0, 0) _ rfl (by refine kP (cs := #[.string a0_0, .int .i64 a0_1, .slice Ao9 t103.length co9, .slice none 0 0]) 3 ?_; refine kP (cs := #[.string a0_0, .int .i64 a0_1, .slice none 0 0, .slice none 0 0]) 2 ?_; refine kP (cs := #[.string a0_0, .int .i64 0, .slice none 0 0, .slice none 0 0]) 1 ?_; refine kP (cs := #[.string (⟨#[]⟩ : ByteArray), .int .i64 0, .slice none 0 0, .slice none 0 0]) 0 ?_; refine kF NB102_101.out ?_; refine kF NB102_101.out ?_; (with_reducible repeat (first | apply kN | apply kD | apply kA)); exact BK102.out) Try.underlying26 rfl (by kernel_rfl)) rfl ?_
 exact ⟨_, _, by first | rfl | (simp [*, errW_none, errW_some] <;> rfl), by (with_reducible repeat (first | apply rA | apply rN | apply rD)); exact Kd.R_mono (Kd.R_far (p := ⟨gb102, 3, none⟩) (Kd.R_far (p := ⟨gb102, 2, none⟩) (Kd.R_far (p := ⟨gb102, 1, none⟩) (Kd.R_far (p := ⟨gb102, 0, none⟩) (Kd.R_far (p := ⟨gb101, 3, none⟩) (Kd.R_far (p := ⟨gb101, 2, none⟩) (Kd.R_types (Kd.R_types HO105.out BK101.out (by decide)) BK102.out (by decide)) (fun _ hk => hk.1.2) (.slice Ao9 t103.length co9)) (fun _ hk => hk.1.2) (.slice Ao11 t106.length co11)) (fun _ hk => hk.2) (.string a0_0)) (fun _ hk => hk.2) (.int .i64 a0_1)) (fun _ hk => hk.2) (.slice Ao9 t103.length co9)) (fun _ hk => hk.2) (.slice Ao11 t106.length co11)) (fun _ hk => trivial), by (with_reducible repeat (first | apply rA | apply rN | apply rD)); exact Kd.R_mono (Kd.R_far (p := ⟨gb102, 3, none⟩) (Kd.R_far (p := ⟨gb102, 2, none⟩) (Kd.R_far (p := ⟨gb102, 1, none⟩) (Kd.R_far (p := ⟨gb102, 0, none⟩) (Kd.R_far (p := ⟨gb101, 3, none⟩) (Kd.R_far (p := ⟨gb101, 2, none⟩) (Kd.R_types (Kd.R_types HO108.out BK101.out (by decide)) BK102.out (by decide)) (fun _ hk => hk.1.2) (.slice Ao9 t103.length co9)) (fun _ hk => hk.1.2) (.slice Ao11 t106.length co11)) (fun _ hk => hk.2) (.string a0_0)) (fun _ hk => hk.2) (.int .i64 a0_1)) (fun _ hk => hk.2) (.slice Ao9 t103.length co9)) (fun _ hk => hk.2) (.slice Ao11 t106.length co11)) (fun _ hk => trivial), bX HB.out⟩

/-! ### laws_lwTexts: function 10 -/

def laws_lwTexts.l0 : Nat → List ByteArray → List ByteArray → Int → Option (Bool)
  | 0, _, _, _ => none
  | k + 1, x0, x1, x5 => if x5 < (x0.length : Int) then (if 0 ≤ x5 then (if x5 < (x1.length : Int) then (if (rdOf ByteArray.empty x0 x5).toList = (rdOf ByteArray.empty x1 x5).toList then (laws_lwTexts.l0 k x0 x1 (wrap64 (x5 + 1))) else (some false)) else (none)) else (none)) else (some true)
def laws_lwTexts.f (k : Nat) (l0 : List ByteArray) (l1 : List ByteArray) : Option (Bool) := if (l0.length : Int) = (l1.length : Int) then (laws_lwTexts.l0 k l0 l1 0) else (some false)
theorem laws_lwTexts.mono_l : ∀ k, (∀ y0 y1 y2, LeO (laws_lwTexts.l0 k y0 y1 y2) (laws_lwTexts.l0 (k + 1) y0 y1 y2))
  | 0 => fun _ _ _ r h => by simp [laws_lwTexts.l0] at h
  | k + 1 => by
    have ih0 := laws_lwTexts.mono_l k
    · intro y0 y1 y2
      unfold laws_lwTexts.l0
      repeat' first
      | (with_reducible exact ih0 _ _ _)
      | (with_reducible exact LeO.refl _)
      | (with_reducible exact LeO.none _)
      | (with_reducible refine LeO.ite ?_ ?_)
      | (with_reducible refine LeO.bind ?_ (fun _ => ?_))
      | exact ih0 _ _ _
      | exact LeO.none _
      | refine LeO.ite ?_ ?_
      | refine LeO.bind ?_ (fun _ => ?_)
theorem laws_lwTexts.mono : ∀ a0 a1 k, LeO (laws_lwTexts.f k a0 a1) (laws_lwTexts.f (k + 1) a0 a1) := by
  intro a0 a1 k
  have ih0 := laws_lwTexts.mono_l k
  unfold laws_lwTexts.f
  repeat' first
      | (with_reducible exact ih0 _ _ _)
      | (with_reducible exact LeO.refl _)
      | (with_reducible exact LeO.none _)
      | (with_reducible refine LeO.ite ?_ ?_)
      | (with_reducible refine LeO.bind ?_ (fun _ => ?_))
      | exact ih0 _ _ _
      | exact LeO.none _
      | refine LeO.ite ?_ ?_
      | refine LeO.bind ?_ (fun _ => ?_)
set_option maxHeartbeats 60000000 in
set_option maxRecDepth 100000 in
theorem laws_lwTexts.calls (k : Nat) (A0 : Option Addr) (c0 : Nat) (l0 : List ByteArray) (A1 : Option Addr) (c1 : Nat) (l1 : List ByteArray) (r : Bool) (w : World) (hr0 : Kd.C Kd.string w A0 l0.length l0) (hc0 : l0.length ≤ c0) (hr1 : Kd.C Kd.string w A1 l1.length l1) (hc1 : l1.length ≤ c1) (h : laws_lwTexts.f k l0 l1 = some r) :
    Calls Try.prog 10 #[.slice A0 l0.length c0, .slice A1 l1.length c1] w fun e w' => e = .returned (.bool r) ∧ Drawn0 w w' := by
 have HR0 := AM hr0
 have HC0 := AM hc0
 clear hr0 hc0
 have HR1 := AM hr1
 have HC1 := AM hc1
 clear hr1 hc1
 have H : (if (l0.length : Int) = (l1.length : Int) then (laws_lwTexts.l0 k l0 l1 0) else (some false)) = some r := h
 clear h
 by_cases c3 : (l0.length : Int) = (l1.length : Int)
 ·
  rw [if_pos c3] at H
  have c3b0 : ((l0.length : Int) == (l1.length : Int)) = true := beq_iff_eq.mpr c3
  have c3b1 : ((l0.length : Int) != (l1.length : Int)) = false := bne_eq_false_iff_eq.mpr c3
  have c3b2 : (l0.length == l1.length) = true := by first | simpa using c3 | (simp at c3 ⊢; omega)
  clear c3
  have H' := AM H
  clear H
  go_enter Try.func10, Try.ntmps10
  go_wp2
  repeat (go_quiet (fail); try go_wp2)
  go_loopg [5] k (fun kq v5 w' => ∃ (x5_1 : Int), v5 = .int .i64 x5_1 ∧ Aside0 (laws_lwTexts.l0 kq l0 l1 x5_1 = some r) ∧ Aside0 (kq ≤ k) ∧ Drawn0 w w')
  case atStart => exact ⟨(0), (by first | rfl | (simp; done) | (simp [*]; done)), H', ⟨Nat.le_refl _⟩, by repeat (first | exact Drawn0.refl _ | apply Drawn0.step)⟩
  case round =>
   clear H'
   (try clear c1); (try clear p2); (try clear c3); (try clear c3b0); (try clear c3b1); (try clear c3b2)
   obtain ⟨x5_1, rfl, HA, HK1, ⟨m1, rfl⟩⟩ := hrel
   cases gk with
   | zero => exact absurd HA.out (by simp [laws_lwTexts.l0])
   | succ k1 =>
    have H := HA.out
    clear HA
    simp only [laws_lwTexts.l0] at H
    by_cases c4 : x5_1 < (l0.length : Int)
    ·
     rw [if_pos c4] at H
     have c4b0 : decide (x5_1 < (l0.length : Int)) = true := decide_eq_true c4
     clear c4
     by_cases c5 : 0 ≤ x5_1
     ·
      rw [if_pos c5] at H
      have c5b0 : decide (0 ≤ x5_1) = true := decide_eq_true c5
      clear c5
      by_cases c6 : x5_1 < (l1.length : Int)
      ·
       rw [if_pos c6] at H
       have c6b0 : decide (x5_1 < (l1.length : Int)) = true := decide_eq_true c6
       clear c6
       by_cases c7 : (rdOf ByteArray.empty l0 x5_1).toList = (rdOf ByteArray.empty l1 x5_1).toList
       ·
        rw [if_pos c7] at H
        have c7b0 : ((rdOf ByteArray.empty l0 x5_1).toList == (rdOf ByteArray.empty l1 x5_1).toList) = true := beq_iff_eq.mpr c7
        have c7b1 : ((rdOf ByteArray.empty l0 x5_1).toList != (rdOf ByteArray.empty l1 x5_1).toList) = false := bne_eq_false_iff_eq.mpr c7
        clear c7
        have H' := AM H
        clear H
        have p101 : 0 ≤ (x5_1 : Int) := of_decide_eq_true (by assumption)
        have q101 : x5_1 < (l0.length : Int) := of_decide_eq_true (by assumption)
        obtain ⟨ad101, e101, hx101_0⟩ := Kd.at_string HR0.out x5_1 p101 q101
        cases e101
        replace p101 := eq_true p101
        replace q101 := eq_true q101
        have p102 : 0 ≤ (x5_1 : Int) := of_decide_eq_true (by assumption)
        have q102 : x5_1 < (l1.length : Int) := of_decide_eq_true (by assumption)
        obtain ⟨ad102, e102, hx102_0⟩ := Kd.at_string HR1.out x5_1 p102 q102
        cases e102
        replace p102 := eq_true p102
        replace q102 := eq_true q102
        go_wp2
        repeat (go_quiet (fail); try go_wp2)
        go_roundg k1
        case measure => have := HK1.out; omega
        case rel => exact ⟨(wrap64 (x5_1 + 1)), (by first | rfl | (simp; done) | (simp [*]; done)), H', ⟨by have := HK1.out; omega⟩, by repeat (first | exact Drawn0.refl _ | apply Drawn0.step)⟩
       rw [if_neg c7] at H
       have c7b0 : ((rdOf ByteArray.empty l0 x5_1).toList == (rdOf ByteArray.empty l1 x5_1).toList) = false := beq_eq_false_iff_ne.mpr c7
       have c7b1 : ((rdOf ByteArray.empty l0 x5_1).toList != (rdOf ByteArray.empty l1 x5_1).toList) = true := bne_iff_ne.mpr c7
       obtain rfl := Option.some.inj H
       have p101 : 0 ≤ (x5_1 : Int) := of_decide_eq_true (by assumption)
       have q101 : x5_1 < (l0.length : Int) := of_decide_eq_true (by assumption)
       obtain ⟨ad101, e101, hx101_0⟩ := Kd.at_string HR0.out x5_1 p101 q101
       cases e101
       replace p101 := eq_true p101
       replace q101 := eq_true q101
       have p102 : 0 ≤ (x5_1 : Int) := of_decide_eq_true (by assumption)
       have q102 : x5_1 < (l1.length : Int) := of_decide_eq_true (by assumption)
       obtain ⟨ad102, e102, hx102_0⟩ := Kd.at_string HR1.out x5_1 p102 q102
       cases e102
       replace p102 := eq_true p102
       replace q102 := eq_true q102
       go_wp2
       repeat (go_quiet (fail); try go_wp2)
       go_ret
       exact ⟨by first | rfl | (simp; done) | (simp [*]; done), by repeat (first | exact Drawn0.refl _ | apply Drawn0.step)⟩
      rw [if_neg c6] at H
      exact absurd H (by simp)
     rw [if_neg c5] at H
     exact absurd H (by simp)
    rw [if_neg c4] at H
    have c4b0 : decide (x5_1 < (l0.length : Int)) = false := decide_eq_false c4
    clear c4
    obtain rfl := Option.some.inj H
    go_wp2
    repeat (go_quiet (fail); try go_wp2)
    go_ret
    exact ⟨by first | rfl | (simp; done) | (simp [*]; done), by repeat (first | exact Drawn0.refl _ | apply Drawn0.step)⟩
 rw [if_neg c3] at H
 have c3b0 : ((l0.length : Int) == (l1.length : Int)) = false := beq_eq_false_iff_ne.mpr c3
 have c3b1 : ((l0.length : Int) != (l1.length : Int)) = true := bne_iff_ne.mpr c3
 have c3b2 : (l0.length == l1.length) = false := by first | simpa using c3 | (simp at c3 ⊢; omega)
 obtain rfl := Option.some.inj H
 go_enter Try.func10, Try.ntmps10
 go_wp2
 repeat (go_quiet (fail); try go_wp2)
 go_ret
 exact ⟨by first | rfl | (simp; done) | (simp [*]; done), by repeat (first | exact Drawn0.refl _ | apply Drawn0.step)⟩

/-! ### laws_lwGroups: function 18 -/

def laws_lwGroups.l0 : Nat → List (S36) → List (S36) → Int → Option (Bool)
  | 0, _, _, _ => none
  | k + 1, x0, x1, x5 => if x5 < (x0.length : Int) then (if 0 ≤ x5 then (if x5 < (x1.length : Int) then (if (!((((rd_T36 x0 x5).f0).toList) == (((rd_T36 x1 x5).f0).toList)) || (!(((rd_T36 x0 x5).f1) == ((rd_T36 x1 x5).f1)))) = true then (some false) else (laws_lwGroups.l0 k x0 x1 (wrap64 (x5 + 1)))) else (none)) else (none)) else (some true)
def laws_lwGroups.f (k : Nat) (l0 : List (S36)) (l1 : List (S36)) : Option (Bool) := if (l0.length : Int) = (l1.length : Int) then (laws_lwGroups.l0 k l0 l1 0) else (some false)
theorem laws_lwGroups.mono_l : ∀ k, (∀ y0 y1 y2, LeO (laws_lwGroups.l0 k y0 y1 y2) (laws_lwGroups.l0 (k + 1) y0 y1 y2))
  | 0 => fun _ _ _ r h => by simp [laws_lwGroups.l0] at h
  | k + 1 => by
    have ih0 := laws_lwGroups.mono_l k
    · intro y0 y1 y2
      unfold laws_lwGroups.l0
      repeat' first
      | (with_reducible exact ih0 _ _ _)
      | (with_reducible exact LeO.refl _)
      | (with_reducible exact LeO.none _)
      | (with_reducible refine LeO.ite ?_ ?_)
      | (with_reducible refine LeO.bind ?_ (fun _ => ?_))
      | exact ih0 _ _ _
      | exact LeO.none _
      | refine LeO.ite ?_ ?_
      | refine LeO.bind ?_ (fun _ => ?_)
theorem laws_lwGroups.mono : ∀ a0 a1 k, LeO (laws_lwGroups.f k a0 a1) (laws_lwGroups.f (k + 1) a0 a1) := by
  intro a0 a1 k
  have ih0 := laws_lwGroups.mono_l k
  unfold laws_lwGroups.f
  repeat' first
      | (with_reducible exact ih0 _ _ _)
      | (with_reducible exact LeO.refl _)
      | (with_reducible exact LeO.none _)
      | (with_reducible refine LeO.ite ?_ ?_)
      | (with_reducible refine LeO.bind ?_ (fun _ => ?_))
      | exact ih0 _ _ _
      | exact LeO.none _
      | refine LeO.ite ?_ ?_
      | refine LeO.bind ?_ (fun _ => ?_)
set_option maxHeartbeats 60000000 in
set_option maxRecDepth 100000 in
theorem laws_lwGroups.calls (k : Nat) (A0 : Option Addr) (c0 : Nat) (l0 : List (S36)) (A1 : Option Addr) (c1 : Nat) (l1 : List (S36)) (r : Bool) (w : World) (hr0 : Kd.C k36 w A0 l0.length l0) (hc0 : l0.length ≤ c0) (hr1 : Kd.C k36 w A1 l1.length l1) (hc1 : l1.length ≤ c1) (h : laws_lwGroups.f k l0 l1 = some r) :
    Calls Try.prog 18 #[.slice A0 l0.length c0, .slice A1 l1.length c1] w fun e w' => e = .returned (.bool r) ∧ Drawn0 w w' := by
 have hu36 := Try.underlying36
 have HR0 := AM hr0
 have HC0 := AM hc0
 clear hr0 hc0
 have HR1 := AM hr1
 have HC1 := AM hc1
 clear hr1 hc1
 have H : (if (l0.length : Int) = (l1.length : Int) then (laws_lwGroups.l0 k l0 l1 0) else (some false)) = some r := h
 clear h
 by_cases c3 : (l0.length : Int) = (l1.length : Int)
 ·
  rw [if_pos c3] at H
  have c3b0 : ((l0.length : Int) == (l1.length : Int)) = true := beq_iff_eq.mpr c3
  have c3b1 : ((l0.length : Int) != (l1.length : Int)) = false := bne_eq_false_iff_eq.mpr c3
  have c3b2 : (l0.length == l1.length) = true := by first | simpa using c3 | (simp at c3 ⊢; omega)
  clear c3
  have H' := AM H
  clear H
  go_enter Try.func18, Try.ntmps18
  go_wp2
  repeat (go_quiet (fail); try go_wp2)
  go_loopg [5] k (fun kq v5 w' => ∃ (x5_1 : Int), v5 = .int .i64 x5_1 ∧ Aside0 (laws_lwGroups.l0 kq l0 l1 x5_1 = some r) ∧ Aside0 (kq ≤ k) ∧ Drawn0 w w')
  case atStart => exact ⟨(0), (by first | rfl | (simp; done) | (simp [*]; done)), H', ⟨Nat.le_refl _⟩, by repeat (first | exact Drawn0.refl _ | apply Drawn0.step)⟩
  case round =>
   clear H'
   (try clear c1); (try clear p2); (try clear c3); (try clear c3b0); (try clear c3b1); (try clear c3b2)
   obtain ⟨x5_1, rfl, HA, HK1, ⟨m1, rfl⟩⟩ := hrel
   cases gk with
   | zero => exact absurd HA.out (by simp [laws_lwGroups.l0])
   | succ k1 =>
    have H := HA.out
    clear HA
    simp only [laws_lwGroups.l0] at H
    by_cases c4 : x5_1 < (l0.length : Int)
    ·
     rw [if_pos c4] at H
     have c4b0 : decide (x5_1 < (l0.length : Int)) = true := decide_eq_true c4
     clear c4
     by_cases c5 : 0 ≤ x5_1
     ·
      rw [if_pos c5] at H
      have c5b0 : decide (0 ≤ x5_1) = true := decide_eq_true c5
      clear c5
      by_cases c6 : x5_1 < (l1.length : Int)
      ·
       rw [if_pos c6] at H
       have c6b0 : decide (x5_1 < (l1.length : Int)) = true := decide_eq_true c6
       clear c6
       by_cases c7 : (!((((rd_T36 l0 x5_1).f0).toList) == (((rd_T36 l1 x5_1).f0).toList)) || (!(((rd_T36 l0 x5_1).f1) == ((rd_T36 l1 x5_1).f1)))) = true
       ·
        rw [if_pos c7] at H
        have c7b0 : (!((((rd_T36 l0 x5_1).f0).toList) == (((rd_T36 l1 x5_1).f0).toList)) || (!(((rd_T36 l0 x5_1).f1) == ((rd_T36 l1 x5_1).f1)))) = true := c7
        clear c7
        obtain rfl := Option.some.inj H
        have p101 : 0 ≤ (x5_1 : Int) := of_decide_eq_true (by assumption)
        have q101 : x5_1 < (l0.length : Int) := of_decide_eq_true (by assumption)
        obtain ⟨ad101, e101, hx101_0, hx101_1⟩ := at_T36 HR0.out x5_1 p101 q101
        cases e101
        replace p101 := eq_true p101
        replace q101 := eq_true q101
        have p102 : 0 ≤ (x5_1 : Int) := of_decide_eq_true (by assumption)
        have q102 : x5_1 < (l1.length : Int) := of_decide_eq_true (by assumption)
        obtain ⟨ad102, e102, hx102_0, hx102_1⟩ := at_T36 HR1.out x5_1 p102 q102
        cases e102
        replace p102 := eq_true p102
        replace q102 := eq_true q102
        go_wp2
        repeat (go_quiet (fail); try go_wp2)
        go_ret
        exact ⟨by first | rfl | (simp; done) | (simp [*]; done), by repeat (first | exact Drawn0.refl _ | apply Drawn0.step)⟩
       rw [if_neg c7] at H
       have c7b0 : (!((((rd_T36 l0 x5_1).f0).toList) == (((rd_T36 l1 x5_1).f0).toList)) || (!(((rd_T36 l0 x5_1).f1) == ((rd_T36 l1 x5_1).f1)))) = false := by simpa using c7
       clear c7
       have H' := AM H
       clear H
       have p101 : 0 ≤ (x5_1 : Int) := of_decide_eq_true (by assumption)
       have q101 : x5_1 < (l0.length : Int) := of_decide_eq_true (by assumption)
       obtain ⟨ad101, e101, hx101_0, hx101_1⟩ := at_T36 HR0.out x5_1 p101 q101
       cases e101
       replace p101 := eq_true p101
       replace q101 := eq_true q101
       have p102 : 0 ≤ (x5_1 : Int) := of_decide_eq_true (by assumption)
       have q102 : x5_1 < (l1.length : Int) := of_decide_eq_true (by assumption)
       obtain ⟨ad102, e102, hx102_0, hx102_1⟩ := at_T36 HR1.out x5_1 p102 q102
       cases e102
       replace p102 := eq_true p102
       replace q102 := eq_true q102
       go_wp2
       repeat (go_quiet (fail); try go_wp2)
       go_roundg k1
       case measure => have := HK1.out; omega
       case rel => exact ⟨(wrap64 (x5_1 + 1)), (by first | rfl | (simp; done) | (simp [*]; done)), H', ⟨by have := HK1.out; omega⟩, by repeat (first | exact Drawn0.refl _ | apply Drawn0.step)⟩
      rw [if_neg c6] at H
      exact absurd H (by simp)
     rw [if_neg c5] at H
     exact absurd H (by simp)
    rw [if_neg c4] at H
    have c4b0 : decide (x5_1 < (l0.length : Int)) = false := decide_eq_false c4
    clear c4
    obtain rfl := Option.some.inj H
    go_wp2
    repeat (go_quiet (fail); try go_wp2)
    go_ret
    exact ⟨by first | rfl | (simp; done) | (simp [*]; done), by repeat (first | exact Drawn0.refl _ | apply Drawn0.step)⟩
 rw [if_neg c3] at H
 have c3b0 : ((l0.length : Int) == (l1.length : Int)) = false := beq_eq_false_iff_ne.mpr c3
 have c3b1 : ((l0.length : Int) != (l1.length : Int)) = true := bne_iff_ne.mpr c3
 have c3b2 : (l0.length == l1.length) = false := by first | simpa using c3 | (simp at c3 ⊢; omega)
 obtain rfl := Option.some.inj H
 go_enter Try.func18, Try.ntmps18
 go_wp2
 repeat (go_quiet (fail); try go_wp2)
 go_ret
 exact ⟨by first | rfl | (simp; done) | (simp [*]; done), by repeat (first | exact Drawn0.refl _ | apply Drawn0.step)⟩

/-! ### laws_lwTopic: function 26 -/

def laws_lwTopic.f (k : Nat) (a0_0 : ByteArray) (a0_1 : Int) (l0_2 : List ByteArray) (l0_3 : List (S36)) (a1_0 : ByteArray) (a1_1 : Int) (l1_2 : List ByteArray) (l1_3 : List (S36)) : Option (Bool) := if a0_0.toList = a1_0.toList then (if a0_1 = a1_1 then ((laws_lwTexts.f k l0_2 l1_2).bind fun t103 => (if t103 = true then ((laws_lwGroups.f k l0_3 l1_3).bind fun t104 => (some t104)) else (some false))) else (some false)) else (some false)
theorem laws_lwTopic.mono : ∀ a0 a1 a2 a3 a4 a5 a6 a7 k, LeO (laws_lwTopic.f k a0 a1 a2 a3 a4 a5 a6 a7) (laws_lwTopic.f (k + 1) a0 a1 a2 a3 a4 a5 a6 a7) := by
  intro a0 a1 a2 a3 a4 a5 a6 a7 k
  unfold laws_lwTopic.f
  repeat' first
      | (with_reducible exact laws_lwGroups.mono _ _ _)
      | (with_reducible exact laws_lwTexts.mono _ _ _)
      | (with_reducible exact LeO.refl _)
      | (with_reducible exact LeO.none _)
      | (with_reducible refine LeO.ite ?_ ?_)
      | (with_reducible refine LeO.bind ?_ (fun _ => ?_))
      | exact laws_lwGroups.mono _ _ _
      | exact laws_lwTexts.mono _ _ _
      | exact LeO.none _
      | refine LeO.ite ?_ ?_
      | refine LeO.bind ?_ (fun _ => ?_)
set_option maxHeartbeats 60000000 in
set_option maxRecDepth 100000 in
theorem laws_lwTopic.calls (k : Nat) (a0_0 : ByteArray) (a0_1 : Int) (A0_2 : Option Addr) (c0_2 : Nat) (l0_2 : List ByteArray) (A0_3 : Option Addr) (c0_3 : Nat) (l0_3 : List (S36)) (a1_0 : ByteArray) (a1_1 : Int) (A1_2 : Option Addr) (c1_2 : Nat) (l1_2 : List ByteArray) (A1_3 : Option Addr) (c1_3 : Nat) (l1_3 : List (S36)) (r : Bool) (w : World) (hr0_2 : Kd.C Kd.string w A0_2 l0_2.length l0_2) (hc0_2 : l0_2.length ≤ c0_2) (hr0_3 : Kd.C k36 w A0_3 l0_3.length l0_3) (hc0_3 : l0_3.length ≤ c0_3) (hr1_2 : Kd.C Kd.string w A1_2 l1_2.length l1_2) (hc1_2 : l1_2.length ≤ c1_2) (hr1_3 : Kd.C k36 w A1_3 l1_3.length l1_3) (hc1_3 : l1_3.length ≤ c1_3) (h : laws_lwTopic.f k a0_0 a0_1 l0_2 l0_3 a1_0 a1_1 l1_2 l1_3 = some r) :
    Calls Try.prog 26 #[.agg #[.string a0_0, .int .i64 a0_1, .slice A0_2 l0_2.length c0_2, .slice A0_3 l0_3.length c0_3], .agg #[.string a1_0, .int .i64 a1_1, .slice A1_2 l1_2.length c1_2, .slice A1_3 l1_3.length c1_3]] w fun e w' => e = .returned (.bool r) ∧ Below w.heap.size w w' := by
 have hu26 := Try.underlying26
 have HR0_2 := AM hr0_2
 have HC0_2 := AM hc0_2
 clear hr0_2 hc0_2
 have HR0_3 := AM hr0_3
 have HC0_3 := AM hc0_3
 clear hr0_3 hc0_3
 have HR1_2 := AM hr1_2
 have HC1_2 := AM hc1_2
 clear hr1_2 hc1_2
 have HR1_3 := AM hr1_3
 have HC1_3 := AM hc1_3
 clear hr1_3 hc1_3
 have HB := AM (Below.refl w.heap.size w)
 have H : (if a0_0.toList = a1_0.toList then (if a0_1 = a1_1 then ((laws_lwTexts.f k l0_2 l1_2).bind fun t103 => (if t103 = true then ((laws_lwGroups.f k l0_3 l1_3).bind fun t104 => (some t104)) else (some false))) else (some false)) else (some false)) = some r := h
 clear h
 by_cases c3 : a0_0.toList = a1_0.toList
 ·
  rw [if_pos c3] at H
  have c3b0 : (a0_0.toList == a1_0.toList) = true := beq_iff_eq.mpr c3
  have c3b1 : (a0_0.toList != a1_0.toList) = false := bne_eq_false_iff_eq.mpr c3
  clear c3
  by_cases c4 : a0_1 = a1_1
  ·
   rw [if_pos c4] at H
   have c4b0 : (a0_1 == a1_1) = true := beq_iff_eq.mpr c4
   have c4b1 : (a0_1 != a1_1) = false := bne_eq_false_iff_eq.mpr c4
   clear c4
   replace H := Option.bind_eq_some_iff.mp H
   obtain ⟨t103, A50, H⟩ := H
   replace H : (if t103 = true then ((laws_lwGroups.f k l0_3 l1_3).bind fun t104 => (some t104)) else (some false)) = some r := H
   have A5 := AM A50
   clear A50
   by_cases c6 : t103 = true
   ·
    subst c6
    have H1 : ((laws_lwGroups.f k l0_3 l1_3).bind fun t104 => (some t104)) = some r := by rw [if_pos rfl] at H; exact H
    clear H
    have H := H1
    clear H1
    replace H := Option.bind_eq_some_iff.mp H
    obtain ⟨t104, A70, H⟩ := H
    replace H : (some t104) = some r := H
    have A7 := AM A70
    clear A70
    obtain rfl := Option.some.inj H
    go_enter Try.func26, Try.ntmps26
    go_wp2_with (first | ((with_reducible refine gate_dst (N := 2) rfl ?_); refine box_event (by rfl) (N := 2) (by rfl) (cs := #[.string a0_0, .int .i64 a0_1, .slice A0_2 l0_2.length c0_2, .slice A0_3 l0_3.length c0_3]) (t := 26) (by first | (go_simp; done) | (go_simp; rfl)) ?_; intro gb101 hg w8 hbox hb; have _ := AM (below_step (bX HB.out) hb); have _ := AM (hbox); have n2_ := AM ((by rw [hg]; exact (bZ (bX HB.out)) : w.heap.size ≤ gb101)); clear HB; rename_i HB BK101; have GW101 := n2_; have GE101 := n2_; clear n2_; clear hb hbox hg) | ((with_reducible refine gate_dst (N := 3) rfl ?_); refine box_event (by rfl) (N := 3) (by rfl) (cs := #[.string a1_0, .int .i64 a1_1, .slice A1_2 l1_2.length c1_2, .slice A1_3 l1_3.length c1_3]) (t := 26) (by first | (go_simp; done) | (go_simp; rfl)) ?_; intro gb102 hg w9 hbox hb; have _ := AM (nB BK101.out hb); have _ := AM (below_step (bX HB.out) hb); have _ := AM (hbox); have n3_ := AM ((by rw [hg]; exact (bZ (bX HB.out)) : w.heap.size ≤ gb102)); have _ := AM (lX hg BK101.out); have _ := AM (lX hg BK101.out).symm; clear BK101 HB; rename_i BK101 HB BK102 NB101_102 NB102_101; have GW102 := n3_; have GE102 := n3_; clear n3_; clear hb hbox hg; have hnb10 := NB101_102.out; have hnc10 := NB102_101.out; have hcz11 := q4 BK101.out; have hfz11 := fZ BK101.out; have hcz12 := q4 BK102.out; have hfz12 := fZ BK102.out) | (go_at_call 10; (with_reducible refine (laws_lwTexts.calls k _ _ l0_2 _ _ l1_2 true _ ?side1 ?side2 ?side3 ?side4 A5.out).mono ?_); (case side1 => repeat (first | exact (cB HR0_2.out HB.out) | (with_reducible first | apply cA | apply cN | apply cD))); (case side2 => exact HC0_2.out); (case side3 => repeat (first | exact (cB HR1_2.out HB.out) | (with_reducible first | apply cA | apply cN | apply cD))); (case side4 => exact HC1_2.out); rintro e w' ⟨rfl, ⟨nd, rfl⟩⟩) | (go_at_call 18; (with_reducible refine (laws_lwGroups.calls k _ _ l0_3 _ _ l1_3 t104 _ ?side1 ?side2 ?side3 ?side4 A7.out).mono ?_); (case side1 => repeat (first | exact (cB HR0_3.out (bX HB.out)) | (with_reducible first | apply cA | apply cN | apply cD))); (case side2 => exact HC0_3.out); (case side3 => repeat (first | exact (cB HR1_3.out (bX HB.out)) | (with_reducible first | apply cA | apply cN | apply cD))); (case side4 => exact HC1_3.out); rintro e w' ⟨rfl, ⟨nd, rfl⟩⟩))
    go_ret
    exact ⟨by first | rfl | (simp [*, errW_none, errW_some] <;> rfl), bX HB.out⟩
   replace c6 := Bool.eq_false_iff.mpr c6
   subst c6
   have H1 : (some false) = some r := by rw [if_neg (show ¬ (false = true) by decide)] at H; exact H
   clear H
   have H := H1
   clear H1
   obtain rfl := Option.some.inj H
   go_enter Try.func26, Try.ntmps26
   go_wp2_with (first | ((with_reducible refine gate_dst (N := 2) rfl ?_); refine box_event (by rfl) (N := 2) (by rfl) (cs := #[.string a0_0, .int .i64 a0_1, .slice A0_2 l0_2.length c0_2, .slice A0_3 l0_3.length c0_3]) (t := 26) (by first | (go_simp; done) | (go_simp; rfl)) ?_; intro gb101 hg w13 hbox hb; have _ := AM (below_step (bX HB.out) hb); have _ := AM (hbox); have n2_ := AM ((by rw [hg]; exact (bZ (bX HB.out)) : w.heap.size ≤ gb101)); clear HB; rename_i HB BK101; have GW101 := n2_; have GE101 := n2_; clear n2_; clear hb hbox hg) | ((with_reducible refine gate_dst (N := 3) rfl ?_); refine box_event (by rfl) (N := 3) (by rfl) (cs := #[.string a1_0, .int .i64 a1_1, .slice A1_2 l1_2.length c1_2, .slice A1_3 l1_3.length c1_3]) (t := 26) (by first | (go_simp; done) | (go_simp; rfl)) ?_; intro gb102 hg w14 hbox hb; have _ := AM (nB BK101.out hb); have _ := AM (below_step (bX HB.out) hb); have _ := AM (hbox); have n3_ := AM ((by rw [hg]; exact (bZ (bX HB.out)) : w.heap.size ≤ gb102)); have _ := AM (lX hg BK101.out); have _ := AM (lX hg BK101.out).symm; clear BK101 HB; rename_i BK101 HB BK102 NB101_102 NB102_101; have GW102 := n3_; have GE102 := n3_; clear n3_; clear hb hbox hg; have hnb15 := NB101_102.out; have hnc15 := NB102_101.out; have hcz16 := q4 BK101.out; have hfz16 := fZ BK101.out; have hcz17 := q4 BK102.out; have hfz17 := fZ BK102.out) | (go_at_call 10; (with_reducible refine (laws_lwTexts.calls k _ _ l0_2 _ _ l1_2 false _ ?side1 ?side2 ?side3 ?side4 A5.out).mono ?_); (case side1 => repeat (first | exact (cB HR0_2.out HB.out) | (with_reducible first | apply cA | apply cN | apply cD))); (case side2 => exact HC0_2.out); (case side3 => repeat (first | exact (cB HR1_2.out HB.out) | (with_reducible first | apply cA | apply cN | apply cD))); (case side4 => exact HC1_2.out); rintro e w' ⟨rfl, ⟨nd, rfl⟩⟩))
   go_ret
   exact ⟨by first | rfl | (simp [*, errW_none, errW_some] <;> rfl), bX HB.out⟩
  rw [if_neg c4] at H
  have c4b0 : (a0_1 == a1_1) = false := beq_eq_false_iff_ne.mpr c4
  have c4b1 : (a0_1 != a1_1) = true := bne_iff_ne.mpr c4
  obtain rfl := Option.some.inj H
  go_enter Try.func26, Try.ntmps26
  go_wp2_with (first | ((with_reducible refine gate_dst (N := 2) rfl ?_); refine box_event (by rfl) (N := 2) (by rfl) (cs := #[.string a0_0, .int .i64 a0_1, .slice A0_2 l0_2.length c0_2, .slice A0_3 l0_3.length c0_3]) (t := 26) (by first | (go_simp; done) | (go_simp; rfl)) ?_; intro gb101 hg w18 hbox hb; have _ := AM (below_step (bX HB.out) hb); have _ := AM (hbox); have n2_ := AM ((by rw [hg]; exact (bZ (bX HB.out)) : w.heap.size ≤ gb101)); clear HB; rename_i HB BK101; have GW101 := n2_; have GE101 := n2_; clear n2_; clear hb hbox hg) | ((with_reducible refine gate_dst (N := 3) rfl ?_); refine box_event (by rfl) (N := 3) (by rfl) (cs := #[.string a1_0, .int .i64 a1_1, .slice A1_2 l1_2.length c1_2, .slice A1_3 l1_3.length c1_3]) (t := 26) (by first | (go_simp; done) | (go_simp; rfl)) ?_; intro gb102 hg w19 hbox hb; have _ := AM (nB BK101.out hb); have _ := AM (below_step (bX HB.out) hb); have _ := AM (hbox); have n3_ := AM ((by rw [hg]; exact (bZ (bX HB.out)) : w.heap.size ≤ gb102)); have _ := AM (lX hg BK101.out); have _ := AM (lX hg BK101.out).symm; clear BK101 HB; rename_i BK101 HB BK102 NB101_102 NB102_101; have GW102 := n3_; have GE102 := n3_; clear n3_; clear hb hbox hg; have hnb20 := NB101_102.out; have hnc20 := NB102_101.out; have hcz21 := q4 BK101.out; have hfz21 := fZ BK101.out; have hcz22 := q4 BK102.out; have hfz22 := fZ BK102.out))
  go_ret
  exact ⟨by first | rfl | (simp [*, errW_none, errW_some] <;> rfl), bX HB.out⟩
 rw [if_neg c3] at H
 have c3b0 : (a0_0.toList == a1_0.toList) = false := beq_eq_false_iff_ne.mpr c3
 have c3b1 : (a0_0.toList != a1_0.toList) = true := bne_iff_ne.mpr c3
 obtain rfl := Option.some.inj H
 go_enter Try.func26, Try.ntmps26
 go_wp2_with (first | ((with_reducible refine gate_dst (N := 2) rfl ?_); refine box_event (by rfl) (N := 2) (by rfl) (cs := #[.string a0_0, .int .i64 a0_1, .slice A0_2 l0_2.length c0_2, .slice A0_3 l0_3.length c0_3]) (t := 26) (by first | (go_simp; done) | (go_simp; rfl)) ?_; intro gb101 hg w23 hbox hb; have _ := AM (below_step (bX HB.out) hb); have _ := AM (hbox); have n2_ := AM ((by rw [hg]; exact (bZ (bX HB.out)) : w.heap.size ≤ gb101)); clear HB; rename_i HB BK101; have GW101 := n2_; have GE101 := n2_; clear n2_; clear hb hbox hg) | ((with_reducible refine gate_dst (N := 3) rfl ?_); refine box_event (by rfl) (N := 3) (by rfl) (cs := #[.string a1_0, .int .i64 a1_1, .slice A1_2 l1_2.length c1_2, .slice A1_3 l1_3.length c1_3]) (t := 26) (by first | (go_simp; done) | (go_simp; rfl)) ?_; intro gb102 hg w24 hbox hb; have _ := AM (nB BK101.out hb); have _ := AM (below_step (bX HB.out) hb); have _ := AM (hbox); have n3_ := AM ((by rw [hg]; exact (bZ (bX HB.out)) : w.heap.size ≤ gb102)); have _ := AM (lX hg BK101.out); have _ := AM (lX hg BK101.out).symm; clear BK101 HB; rename_i BK101 HB BK102 NB101_102 NB102_101; have GW102 := n3_; have GE102 := n3_; clear n3_; clear hb hbox hg; have hnb25 := NB101_102.out; have hnc25 := NB102_101.out; have hcz26 := q4 BK101.out; have hfz26 := fZ BK101.out; have hcz27 := q4 BK102.out; have hfz27 := fZ BK102.out))
 go_ret
 exact ⟨by first | rfl | (simp [*, errW_none, errW_some] <;> rfl), bX HB.out⟩

/-! ### laws_lwTopics: function 7 -/

def laws_lwTopics.f (k : Nat) (a0_0 : ByteArray) (a0_1 : Int) (l0_2 : List ByteArray) (l0_3 : List (S36)) (l0_4 : List ByteArray) (a0_5 : Int) (a0_6 : Int) (a1_0 : ByteArray) (a1_1 : Int) (l1_2 : List ByteArray) (l1_3 : List (S36)) (l1_4 : List ByteArray) (a1_5 : Int) (a1_6 : Int) : Option (Bool) := if a0_6 = a1_6 then (if a0_5 = a1_5 then ((laws_lwTexts.f k l0_4 l1_4).bind fun t103 => (if t103 = true then ((laws_lwTopic.f k a0_0 a0_1 l0_2 l0_3 a1_0 a1_1 l1_2 l1_3).bind fun t104 => (if t104 = true then (if a0_6 = 0 then ((spec_TopicRight.f k a0_0 a0_1 l0_2 l0_3).bind fun t105 => (some t105)) else (some true)) else (some false))) else (some false))) else (some false)) else (some false)
theorem laws_lwTopics.mono : ∀ a0 a1 a2 a3 a4 a5 a6 a7 a8 a9 a10 a11 a12 a13 k, LeO (laws_lwTopics.f k a0 a1 a2 a3 a4 a5 a6 a7 a8 a9 a10 a11 a12 a13) (laws_lwTopics.f (k + 1) a0 a1 a2 a3 a4 a5 a6 a7 a8 a9 a10 a11 a12 a13) := by
  intro a0 a1 a2 a3 a4 a5 a6 a7 a8 a9 a10 a11 a12 a13 k
  unfold laws_lwTopics.f
  repeat' first
      | (with_reducible exact laws_lwTexts.mono _ _ _)
      | (with_reducible exact laws_lwTopic.mono _ _ _ _ _ _ _ _ _)
      | (with_reducible exact spec_TopicRight.mono _ _ _ _ _)
      | (with_reducible exact LeO.refl _)
      | (with_reducible exact LeO.none _)
      | (with_reducible refine LeO.ite ?_ ?_)
      | (with_reducible refine LeO.bind ?_ (fun _ => ?_))
      | exact laws_lwTexts.mono _ _ _
      | exact laws_lwTopic.mono _ _ _ _ _ _ _ _ _
      | exact spec_TopicRight.mono _ _ _ _ _
      | exact LeO.none _
      | refine LeO.ite ?_ ?_
      | refine LeO.bind ?_ (fun _ => ?_)
set_option maxHeartbeats 60000000 in
set_option maxRecDepth 100000 in
theorem laws_lwTopics.calls (k : Nat) (a0_0 : ByteArray) (a0_1 : Int) (A0_2 : Option Addr) (c0_2 : Nat) (l0_2 : List ByteArray) (A0_3 : Option Addr) (c0_3 : Nat) (l0_3 : List (S36)) (A0_4 : Option Addr) (c0_4 : Nat) (l0_4 : List ByteArray) (a0_5 : Int) (a0_6 : Int) (a1_0 : ByteArray) (a1_1 : Int) (A1_2 : Option Addr) (c1_2 : Nat) (l1_2 : List ByteArray) (A1_3 : Option Addr) (c1_3 : Nat) (l1_3 : List (S36)) (A1_4 : Option Addr) (c1_4 : Nat) (l1_4 : List ByteArray) (a1_5 : Int) (a1_6 : Int) (r : Bool) (w : World) (hr0_2 : Kd.C Kd.string w A0_2 l0_2.length l0_2) (hc0_2 : l0_2.length ≤ c0_2) (hr0_3 : Kd.C k36 w A0_3 l0_3.length l0_3) (hc0_3 : l0_3.length ≤ c0_3) (hr0_4 : Kd.C Kd.string w A0_4 l0_4.length l0_4) (hc0_4 : l0_4.length ≤ c0_4) (hr1_2 : Kd.C Kd.string w A1_2 l1_2.length l1_2) (hc1_2 : l1_2.length ≤ c1_2) (hr1_3 : Kd.C k36 w A1_3 l1_3.length l1_3) (hc1_3 : l1_3.length ≤ c1_3) (hr1_4 : Kd.C Kd.string w A1_4 l1_4.length l1_4) (hc1_4 : l1_4.length ≤ c1_4) (h : laws_lwTopics.f k a0_0 a0_1 l0_2 l0_3 l0_4 a0_5 a0_6 a1_0 a1_1 l1_2 l1_3 l1_4 a1_5 a1_6 = some r) :
    Calls Try.prog 7 #[.agg #[.string a0_0, .int .i64 a0_1, .slice A0_2 l0_2.length c0_2, .slice A0_3 l0_3.length c0_3, .slice A0_4 l0_4.length c0_4, .int .i64 a0_5, .int .i64 a0_6], .agg #[.string a1_0, .int .i64 a1_1, .slice A1_2 l1_2.length c1_2, .slice A1_3 l1_3.length c1_3, .slice A1_4 l1_4.length c1_4, .int .i64 a1_5, .int .i64 a1_6]] w fun e w' => e = .returned (.bool r) ∧ Below w.heap.size w w' := by
 have hu30 := Try.underlying30
 have hu26 := Try.underlying26
 have HR0_2 := AM hr0_2
 have HC0_2 := AM hc0_2
 clear hr0_2 hc0_2
 have HR0_3 := AM hr0_3
 have HC0_3 := AM hc0_3
 clear hr0_3 hc0_3
 have HR0_4 := AM hr0_4
 have HC0_4 := AM hc0_4
 clear hr0_4 hc0_4
 have HR1_2 := AM hr1_2
 have HC1_2 := AM hc1_2
 clear hr1_2 hc1_2
 have HR1_3 := AM hr1_3
 have HC1_3 := AM hc1_3
 clear hr1_3 hc1_3
 have HR1_4 := AM hr1_4
 have HC1_4 := AM hc1_4
 clear hr1_4 hc1_4
 have HB := AM (Below.refl w.heap.size w)
 have H : (if a0_6 = a1_6 then (if a0_5 = a1_5 then ((laws_lwTexts.f k l0_4 l1_4).bind fun t103 => (if t103 = true then ((laws_lwTopic.f k a0_0 a0_1 l0_2 l0_3 a1_0 a1_1 l1_2 l1_3).bind fun t104 => (if t104 = true then (if a0_6 = 0 then ((spec_TopicRight.f k a0_0 a0_1 l0_2 l0_3).bind fun t105 => (some t105)) else (some true)) else (some false))) else (some false))) else (some false)) else (some false)) = some r := h
 clear h
 by_cases c3 : a0_6 = a1_6
 ·
  rw [if_pos c3] at H
  have c3b0 : (a0_6 == a1_6) = true := beq_iff_eq.mpr c3
  have c3b1 : (a0_6 != a1_6) = false := bne_eq_false_iff_eq.mpr c3
  clear c3
  by_cases c4 : a0_5 = a1_5
  ·
   rw [if_pos c4] at H
   have c4b0 : (a0_5 == a1_5) = true := beq_iff_eq.mpr c4
   have c4b1 : (a0_5 != a1_5) = false := bne_eq_false_iff_eq.mpr c4
   clear c4
   replace H := Option.bind_eq_some_iff.mp H
   obtain ⟨t103, A50, H⟩ := H
   replace H : (if t103 = true then ((laws_lwTopic.f k a0_0 a0_1 l0_2 l0_3 a1_0 a1_1 l1_2 l1_3).bind fun t104 => (if t104 = true then (if a0_6 = 0 then ((spec_TopicRight.f k a0_0 a0_1 l0_2 l0_3).bind fun t105 => (some t105)) else (some true)) else (some false))) else (some false)) = some r := H
   have A5 := AM A50
   clear A50
   by_cases c6 : t103 = true
   ·
    subst c6
    have H1 : ((laws_lwTopic.f k a0_0 a0_1 l0_2 l0_3 a1_0 a1_1 l1_2 l1_3).bind fun t104 => (if t104 = true then (if a0_6 = 0 then ((spec_TopicRight.f k a0_0 a0_1 l0_2 l0_3).bind fun t105 => (some t105)) else (some true)) else (some false))) = some r := by rw [if_pos rfl] at H; exact H
    clear H
    have H := H1
    clear H1
    replace H := Option.bind_eq_some_iff.mp H
    obtain ⟨t104, A70, H⟩ := H
    replace H : (if t104 = true then (if a0_6 = 0 then ((spec_TopicRight.f k a0_0 a0_1 l0_2 l0_3).bind fun t105 => (some t105)) else (some true)) else (some false)) = some r := H
    have A7 := AM A70
    clear A70
    by_cases c8 : t104 = true
    ·
     subst c8
     have H1 : (if a0_6 = 0 then ((spec_TopicRight.f k a0_0 a0_1 l0_2 l0_3).bind fun t105 => (some t105)) else (some true)) = some r := by rw [if_pos rfl] at H; exact H
     clear H
     have H := H1
     clear H1
     by_cases c9 : a0_6 = 0
     ·
      rw [if_pos c9] at H
      have c9b0 : (a0_6 == 0) = true := beq_iff_eq.mpr c9
      have c9b1 : (a0_6 != 0) = false := bne_eq_false_iff_eq.mpr c9
      clear c9
      replace H := Option.bind_eq_some_iff.mp H
      obtain ⟨t105, A100, H⟩ := H
      replace H : (some t105) = some r := H
      have A10 := AM A100
      clear A100
      obtain rfl := Option.some.inj H
      go_enter Try.func7, Try.ntmps7
      go_wp2_with (first | ((with_reducible refine gate_dst (N := 2) rfl ?_); refine box_event (by rfl) (N := 2) (by rfl) (cs := #[.string a0_0, .int .i64 a0_1, .slice A0_2 l0_2.length c0_2, .slice A0_3 l0_3.length c0_3, .slice A0_4 l0_4.length c0_4, .int .i64 a0_5, .int .i64 a0_6]) (t := 30) (by first | (go_simp; done) | (go_simp; rfl)) ?_; intro gb101 hg w11 hbox hb; have _ := AM (below_step (bX HB.out) hb); have _ := AM (hbox); have n2_ := AM ((by rw [hg]; exact (bZ (bX HB.out)) : w.heap.size ≤ gb101)); clear HB; rename_i HB BK101; have GW101 := n2_; have GE101 := n2_; clear n2_; clear hb hbox hg) | ((with_reducible refine gate_dst (N := 3) rfl ?_); refine box_event (by rfl) (N := 3) (by rfl) (cs := #[.string a1_0, .int .i64 a1_1, .slice A1_2 l1_2.length c1_2, .slice A1_3 l1_3.length c1_3, .slice A1_4 l1_4.length c1_4, .int .i64 a1_5, .int .i64 a1_6]) (t := 30) (by first | (go_simp; done) | (go_simp; rfl)) ?_; intro gb102 hg w12 hbox hb; have _ := AM (nB BK101.out hb); have _ := AM (below_step (bX HB.out) hb); have _ := AM (hbox); have n3_ := AM ((by rw [hg]; exact (bZ (bX HB.out)) : w.heap.size ≤ gb102)); have _ := AM (lX hg BK101.out); have _ := AM (lX hg BK101.out).symm; clear BK101 HB; rename_i BK101 HB BK102 NB101_102 NB102_101; have GW102 := n3_; have GE102 := n3_; clear n3_; clear hb hbox hg; have hnb13 := NB101_102.out; have hnc13 := NB102_101.out; have hcz14 := q7 BK101.out; have hfz14 := fZ BK101.out; have hcz15 := q7 BK102.out; have hfz15 := fZ BK102.out) | (go_at_call 10; (with_reducible refine (laws_lwTexts.calls k _ _ l0_4 _ _ l1_4 true _ ?side1 ?side2 ?side3 ?side4 A5.out).mono ?_); (case side1 => repeat (first | exact (cB HR0_4.out HB.out) | (with_reducible first | apply cA | apply cN | apply cD))); (case side2 => exact HC0_4.out); (case side3 => repeat (first | exact (cB HR1_4.out HB.out) | (with_reducible first | apply cA | apply cN | apply cD))); (case side4 => exact HC1_4.out); rintro e w' ⟨rfl, ⟨nd, rfl⟩⟩) | (go_at_call 26; (with_reducible refine (laws_lwTopic.calls k a0_0 a0_1 _ _ l0_2 _ _ l0_3 a1_0 a1_1 _ _ l1_2 _ _ l1_3 true _ ?side1 ?side2 ?side3 ?side4 ?side5 ?side6 ?side7 ?side8 A7.out).mono ?_); (case side1 => repeat (first | exact (cB HR0_2.out (bX HB.out)) | (with_reducible first | apply cA | apply cN | apply cD))); (case side2 => exact HC0_2.out); (case side3 => repeat (first | exact (cB HR0_3.out (bX HB.out)) | (with_reducible first | apply cA | apply cN | apply cD))); (case side4 => exact HC0_3.out); (case side5 => repeat (first | exact (cB HR1_2.out (bX HB.out)) | (with_reducible first | apply cA | apply cN | apply cD))); (case side6 => exact HC1_2.out); (case side7 => repeat (first | exact (cB HR1_3.out (bX HB.out)) | (with_reducible first | apply cA | apply cN | apply cD))); (case side8 => exact HC1_3.out); rintro e w16 ⟨rfl, hb⟩; have _ := AM (nB BK101.out hb); have _ := AM (nB BK102.out hb); have _ := AM (below_step (bX HB.out) hb); clear BK101 BK102 HB; rename_i BK101 BK102 HB; (try clear hb); (try clear hk); have hcz17 := q7 BK101.out; have hfz17 := fZ BK101.out) | (go_at_call 17; (with_reducible refine (spec_TopicRight.calls k a0_0 a0_1 _ _ l0_2 _ _ l0_3 t105 _ ?side1 ?side2 ?side3 ?side4 A10.out).mono ?_); (case side1 => repeat (first | exact (cB HR0_2.out HB.out) | (with_reducible first | apply cA | apply cN | apply cD))); (case side2 => exact HC0_2.out); (case side3 => repeat (first | exact (cB HR0_3.out HB.out) | (with_reducible first | apply cA | apply cN | apply cD))); (case side4 => exact HC0_3.out); rintro e w18 ⟨rfl, hb⟩; have _ := AM (nB BK101.out hb); have _ := AM (nB BK102.out hb); have _ := AM (below_step (bX HB.out) hb); clear BK101 BK102 HB; rename_i BK101 BK102 HB; (try clear hb); (try clear hk)))
      go_ret
      exact ⟨by first | rfl | (simp [*, errW_none, errW_some] <;> rfl), bX HB.out⟩
     rw [if_neg c9] at H
     have c9b0 : (a0_6 == 0) = false := beq_eq_false_iff_ne.mpr c9
     have c9b1 : (a0_6 != 0) = true := bne_iff_ne.mpr c9
     obtain rfl := Option.some.inj H
     go_enter Try.func7, Try.ntmps7
     go_wp2_with (first | ((with_reducible refine gate_dst (N := 2) rfl ?_); refine box_event (by rfl) (N := 2) (by rfl) (cs := #[.string a0_0, .int .i64 a0_1, .slice A0_2 l0_2.length c0_2, .slice A0_3 l0_3.length c0_3, .slice A0_4 l0_4.length c0_4, .int .i64 a0_5, .int .i64 a0_6]) (t := 30) (by first | (go_simp; done) | (go_simp; rfl)) ?_; intro gb101 hg w19 hbox hb; have _ := AM (below_step (bX HB.out) hb); have _ := AM (hbox); have n2_ := AM ((by rw [hg]; exact (bZ (bX HB.out)) : w.heap.size ≤ gb101)); clear HB; rename_i HB BK101; have GW101 := n2_; have GE101 := n2_; clear n2_; clear hb hbox hg) | ((with_reducible refine gate_dst (N := 3) rfl ?_); refine box_event (by rfl) (N := 3) (by rfl) (cs := #[.string a1_0, .int .i64 a1_1, .slice A1_2 l1_2.length c1_2, .slice A1_3 l1_3.length c1_3, .slice A1_4 l1_4.length c1_4, .int .i64 a1_5, .int .i64 a1_6]) (t := 30) (by first | (go_simp; done) | (go_simp; rfl)) ?_; intro gb102 hg w20 hbox hb; have _ := AM (nB BK101.out hb); have _ := AM (below_step (bX HB.out) hb); have _ := AM (hbox); have n3_ := AM ((by rw [hg]; exact (bZ (bX HB.out)) : w.heap.size ≤ gb102)); have _ := AM (lX hg BK101.out); have _ := AM (lX hg BK101.out).symm; clear BK101 HB; rename_i BK101 HB BK102 NB101_102 NB102_101; have GW102 := n3_; have GE102 := n3_; clear n3_; clear hb hbox hg; have hnb21 := NB101_102.out; have hnc21 := NB102_101.out; have hcz22 := q7 BK101.out; have hfz22 := fZ BK101.out; have hcz23 := q7 BK102.out; have hfz23 := fZ BK102.out) | (go_at_call 10; (with_reducible refine (laws_lwTexts.calls k _ _ l0_4 _ _ l1_4 true _ ?side1 ?side2 ?side3 ?side4 A5.out).mono ?_); (case side1 => repeat (first | exact (cB HR0_4.out HB.out) | (with_reducible first | apply cA | apply cN | apply cD))); (case side2 => exact HC0_4.out); (case side3 => repeat (first | exact (cB HR1_4.out HB.out) | (with_reducible first | apply cA | apply cN | apply cD))); (case side4 => exact HC1_4.out); rintro e w' ⟨rfl, ⟨nd, rfl⟩⟩) | (go_at_call 26; (with_reducible refine (laws_lwTopic.calls k a0_0 a0_1 _ _ l0_2 _ _ l0_3 a1_0 a1_1 _ _ l1_2 _ _ l1_3 true _ ?side1 ?side2 ?side3 ?side4 ?side5 ?side6 ?side7 ?side8 A7.out).mono ?_); (case side1 => repeat (first | exact (cB HR0_2.out (bX HB.out)) | (with_reducible first | apply cA | apply cN | apply cD))); (case side2 => exact HC0_2.out); (case side3 => repeat (first | exact (cB HR0_3.out (bX HB.out)) | (with_reducible first | apply cA | apply cN | apply cD))); (case side4 => exact HC0_3.out); (case side5 => repeat (first | exact (cB HR1_2.out (bX HB.out)) | (with_reducible first | apply cA | apply cN | apply cD))); (case side6 => exact HC1_2.out); (case side7 => repeat (first | exact (cB HR1_3.out (bX HB.out)) | (with_reducible first | apply cA | apply cN | apply cD))); (case side8 => exact HC1_3.out); rintro e w24 ⟨rfl, hb⟩; have _ := AM (nB BK101.out hb); have _ := AM (nB BK102.out hb); have _ := AM (below_step (bX HB.out) hb); clear BK101 BK102 HB; rename_i BK101 BK102 HB; (try clear hb); (try clear hk); have hcz25 := q7 BK101.out; have hfz25 := fZ BK101.out))
     go_ret
     exact ⟨by first | rfl | (simp [*, errW_none, errW_some] <;> rfl), bX HB.out⟩
    replace c8 := Bool.eq_false_iff.mpr c8
    subst c8
    have H1 : (some false) = some r := by rw [if_neg (show ¬ (false = true) by decide)] at H; exact H
    clear H
    have H := H1
    clear H1
    obtain rfl := Option.some.inj H
    go_enter Try.func7, Try.ntmps7
    go_wp2_with (first | ((with_reducible refine gate_dst (N := 2) rfl ?_); refine box_event (by rfl) (N := 2) (by rfl) (cs := #[.string a0_0, .int .i64 a0_1, .slice A0_2 l0_2.length c0_2, .slice A0_3 l0_3.length c0_3, .slice A0_4 l0_4.length c0_4, .int .i64 a0_5, .int .i64 a0_6]) (t := 30) (by first | (go_simp; done) | (go_simp; rfl)) ?_; intro gb101 hg w26 hbox hb; have _ := AM (below_step (bX HB.out) hb); have _ := AM (hbox); have n2_ := AM ((by rw [hg]; exact (bZ (bX HB.out)) : w.heap.size ≤ gb101)); clear HB; rename_i HB BK101; have GW101 := n2_; have GE101 := n2_; clear n2_; clear hb hbox hg) | ((with_reducible refine gate_dst (N := 3) rfl ?_); refine box_event (by rfl) (N := 3) (by rfl) (cs := #[.string a1_0, .int .i64 a1_1, .slice A1_2 l1_2.length c1_2, .slice A1_3 l1_3.length c1_3, .slice A1_4 l1_4.length c1_4, .int .i64 a1_5, .int .i64 a1_6]) (t := 30) (by first | (go_simp; done) | (go_simp; rfl)) ?_; intro gb102 hg w27 hbox hb; have _ := AM (nB BK101.out hb); have _ := AM (below_step (bX HB.out) hb); have _ := AM (hbox); have n3_ := AM ((by rw [hg]; exact (bZ (bX HB.out)) : w.heap.size ≤ gb102)); have _ := AM (lX hg BK101.out); have _ := AM (lX hg BK101.out).symm; clear BK101 HB; rename_i BK101 HB BK102 NB101_102 NB102_101; have GW102 := n3_; have GE102 := n3_; clear n3_; clear hb hbox hg; have hnb28 := NB101_102.out; have hnc28 := NB102_101.out; have hcz29 := q7 BK101.out; have hfz29 := fZ BK101.out; have hcz30 := q7 BK102.out; have hfz30 := fZ BK102.out) | (go_at_call 10; (with_reducible refine (laws_lwTexts.calls k _ _ l0_4 _ _ l1_4 true _ ?side1 ?side2 ?side3 ?side4 A5.out).mono ?_); (case side1 => repeat (first | exact (cB HR0_4.out HB.out) | (with_reducible first | apply cA | apply cN | apply cD))); (case side2 => exact HC0_4.out); (case side3 => repeat (first | exact (cB HR1_4.out HB.out) | (with_reducible first | apply cA | apply cN | apply cD))); (case side4 => exact HC1_4.out); rintro e w' ⟨rfl, ⟨nd, rfl⟩⟩) | (go_at_call 26; (with_reducible refine (laws_lwTopic.calls k a0_0 a0_1 _ _ l0_2 _ _ l0_3 a1_0 a1_1 _ _ l1_2 _ _ l1_3 false _ ?side1 ?side2 ?side3 ?side4 ?side5 ?side6 ?side7 ?side8 A7.out).mono ?_); (case side1 => repeat (first | exact (cB HR0_2.out (bX HB.out)) | (with_reducible first | apply cA | apply cN | apply cD))); (case side2 => exact HC0_2.out); (case side3 => repeat (first | exact (cB HR0_3.out (bX HB.out)) | (with_reducible first | apply cA | apply cN | apply cD))); (case side4 => exact HC0_3.out); (case side5 => repeat (first | exact (cB HR1_2.out (bX HB.out)) | (with_reducible first | apply cA | apply cN | apply cD))); (case side6 => exact HC1_2.out); (case side7 => repeat (first | exact (cB HR1_3.out (bX HB.out)) | (with_reducible first | apply cA | apply cN | apply cD))); (case side8 => exact HC1_3.out); rintro e w31 ⟨rfl, hb⟩; have _ := AM (nB BK101.out hb); have _ := AM (nB BK102.out hb); have _ := AM (below_step (bX HB.out) hb); clear BK101 BK102 HB; rename_i BK101 BK102 HB; (try clear hb); (try clear hk)))
    go_ret
    exact ⟨by first | rfl | (simp [*, errW_none, errW_some] <;> rfl), bX HB.out⟩
   replace c6 := Bool.eq_false_iff.mpr c6
   subst c6
   have H1 : (some false) = some r := by rw [if_neg (show ¬ (false = true) by decide)] at H; exact H
   clear H
   have H := H1
   clear H1
   obtain rfl := Option.some.inj H
   go_enter Try.func7, Try.ntmps7
   go_wp2_with (first | ((with_reducible refine gate_dst (N := 2) rfl ?_); refine box_event (by rfl) (N := 2) (by rfl) (cs := #[.string a0_0, .int .i64 a0_1, .slice A0_2 l0_2.length c0_2, .slice A0_3 l0_3.length c0_3, .slice A0_4 l0_4.length c0_4, .int .i64 a0_5, .int .i64 a0_6]) (t := 30) (by first | (go_simp; done) | (go_simp; rfl)) ?_; intro gb101 hg w32 hbox hb; have _ := AM (below_step (bX HB.out) hb); have _ := AM (hbox); have n2_ := AM ((by rw [hg]; exact (bZ (bX HB.out)) : w.heap.size ≤ gb101)); clear HB; rename_i HB BK101; have GW101 := n2_; have GE101 := n2_; clear n2_; clear hb hbox hg) | ((with_reducible refine gate_dst (N := 3) rfl ?_); refine box_event (by rfl) (N := 3) (by rfl) (cs := #[.string a1_0, .int .i64 a1_1, .slice A1_2 l1_2.length c1_2, .slice A1_3 l1_3.length c1_3, .slice A1_4 l1_4.length c1_4, .int .i64 a1_5, .int .i64 a1_6]) (t := 30) (by first | (go_simp; done) | (go_simp; rfl)) ?_; intro gb102 hg w33 hbox hb; have _ := AM (nB BK101.out hb); have _ := AM (below_step (bX HB.out) hb); have _ := AM (hbox); have n3_ := AM ((by rw [hg]; exact (bZ (bX HB.out)) : w.heap.size ≤ gb102)); have _ := AM (lX hg BK101.out); have _ := AM (lX hg BK101.out).symm; clear BK101 HB; rename_i BK101 HB BK102 NB101_102 NB102_101; have GW102 := n3_; have GE102 := n3_; clear n3_; clear hb hbox hg; have hnb34 := NB101_102.out; have hnc34 := NB102_101.out; have hcz35 := q7 BK101.out; have hfz35 := fZ BK101.out; have hcz36 := q7 BK102.out; have hfz36 := fZ BK102.out) | (go_at_call 10; (with_reducible refine (laws_lwTexts.calls k _ _ l0_4 _ _ l1_4 false _ ?side1 ?side2 ?side3 ?side4 A5.out).mono ?_); (case side1 => repeat (first | exact (cB HR0_4.out HB.out) | (with_reducible first | apply cA | apply cN | apply cD))); (case side2 => exact HC0_4.out); (case side3 => repeat (first | exact (cB HR1_4.out HB.out) | (with_reducible first | apply cA | apply cN | apply cD))); (case side4 => exact HC1_4.out); rintro e w' ⟨rfl, ⟨nd, rfl⟩⟩))
   go_ret
   exact ⟨by first | rfl | (simp [*, errW_none, errW_some] <;> rfl), bX HB.out⟩
  rw [if_neg c4] at H
  have c4b0 : (a0_5 == a1_5) = false := beq_eq_false_iff_ne.mpr c4
  have c4b1 : (a0_5 != a1_5) = true := bne_iff_ne.mpr c4
  obtain rfl := Option.some.inj H
  go_enter Try.func7, Try.ntmps7
  go_wp2_with (first | ((with_reducible refine gate_dst (N := 2) rfl ?_); refine box_event (by rfl) (N := 2) (by rfl) (cs := #[.string a0_0, .int .i64 a0_1, .slice A0_2 l0_2.length c0_2, .slice A0_3 l0_3.length c0_3, .slice A0_4 l0_4.length c0_4, .int .i64 a0_5, .int .i64 a0_6]) (t := 30) (by first | (go_simp; done) | (go_simp; rfl)) ?_; intro gb101 hg w37 hbox hb; have _ := AM (below_step (bX HB.out) hb); have _ := AM (hbox); have n2_ := AM ((by rw [hg]; exact (bZ (bX HB.out)) : w.heap.size ≤ gb101)); clear HB; rename_i HB BK101; have GW101 := n2_; have GE101 := n2_; clear n2_; clear hb hbox hg) | ((with_reducible refine gate_dst (N := 3) rfl ?_); refine box_event (by rfl) (N := 3) (by rfl) (cs := #[.string a1_0, .int .i64 a1_1, .slice A1_2 l1_2.length c1_2, .slice A1_3 l1_3.length c1_3, .slice A1_4 l1_4.length c1_4, .int .i64 a1_5, .int .i64 a1_6]) (t := 30) (by first | (go_simp; done) | (go_simp; rfl)) ?_; intro gb102 hg w38 hbox hb; have _ := AM (nB BK101.out hb); have _ := AM (below_step (bX HB.out) hb); have _ := AM (hbox); have n3_ := AM ((by rw [hg]; exact (bZ (bX HB.out)) : w.heap.size ≤ gb102)); have _ := AM (lX hg BK101.out); have _ := AM (lX hg BK101.out).symm; clear BK101 HB; rename_i BK101 HB BK102 NB101_102 NB102_101; have GW102 := n3_; have GE102 := n3_; clear n3_; clear hb hbox hg; have hnb39 := NB101_102.out; have hnc39 := NB102_101.out; have hcz40 := q7 BK101.out; have hfz40 := fZ BK101.out; have hcz41 := q7 BK102.out; have hfz41 := fZ BK102.out))
  go_ret
  exact ⟨by first | rfl | (simp [*, errW_none, errW_some] <;> rfl), bX HB.out⟩
 rw [if_neg c3] at H
 have c3b0 : (a0_6 == a1_6) = false := beq_eq_false_iff_ne.mpr c3
 have c3b1 : (a0_6 != a1_6) = true := bne_iff_ne.mpr c3
 obtain rfl := Option.some.inj H
 go_enter Try.func7, Try.ntmps7
 go_wp2_with (first | ((with_reducible refine gate_dst (N := 2) rfl ?_); refine box_event (by rfl) (N := 2) (by rfl) (cs := #[.string a0_0, .int .i64 a0_1, .slice A0_2 l0_2.length c0_2, .slice A0_3 l0_3.length c0_3, .slice A0_4 l0_4.length c0_4, .int .i64 a0_5, .int .i64 a0_6]) (t := 30) (by first | (go_simp; done) | (go_simp; rfl)) ?_; intro gb101 hg w42 hbox hb; have _ := AM (below_step (bX HB.out) hb); have _ := AM (hbox); have n2_ := AM ((by rw [hg]; exact (bZ (bX HB.out)) : w.heap.size ≤ gb101)); clear HB; rename_i HB BK101; have GW101 := n2_; have GE101 := n2_; clear n2_; clear hb hbox hg) | ((with_reducible refine gate_dst (N := 3) rfl ?_); refine box_event (by rfl) (N := 3) (by rfl) (cs := #[.string a1_0, .int .i64 a1_1, .slice A1_2 l1_2.length c1_2, .slice A1_3 l1_3.length c1_3, .slice A1_4 l1_4.length c1_4, .int .i64 a1_5, .int .i64 a1_6]) (t := 30) (by first | (go_simp; done) | (go_simp; rfl)) ?_; intro gb102 hg w43 hbox hb; have _ := AM (nB BK101.out hb); have _ := AM (below_step (bX HB.out) hb); have _ := AM (hbox); have n3_ := AM ((by rw [hg]; exact (bZ (bX HB.out)) : w.heap.size ≤ gb102)); have _ := AM (lX hg BK101.out); have _ := AM (lX hg BK101.out).symm; clear BK101 HB; rename_i BK101 HB BK102 NB101_102 NB102_101; have GW102 := n3_; have GE102 := n3_; clear n3_; clear hb hbox hg; have hnb44 := NB101_102.out; have hnc44 := NB102_101.out; have hcz45 := q7 BK101.out; have hfz45 := fZ BK101.out; have hcz46 := q7 BK102.out; have hfz46 := fZ BK102.out))
 go_ret
 exact ⟨by first | rfl | (simp [*, errW_none, errW_some] <;> rfl), bX HB.out⟩

end Go.Proofs.Ytcnilcipcnjmjaa.Q
