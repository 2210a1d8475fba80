/- Printed by a program of this session (wip/mp.py over the kit's print.py): functions of the translation as plain Lean functions, and that the machine's calls do what these say. -/
import Derived.Test.YtmaliehmbodioaaQx0
namespace Go.Proofs.Ytmaliehmbodioaa.Q
open Go.RowKit Go.Proofs.Ytmaliehmbodioaa.HB Go.Proofs.YtmaliehmbodioaaW.PrintWords Go.Proofs.YtmaliehmbodioaaW.PrintLast Go.Proofs.YtmaliehmbodioaaW.PrintMore
attribute [local go_sem] max2_int min2_int max_two min_two max_three min_three max_four min_four   -- for this text's walks alone
set_option linter.unusedVariables false
set_option linter.unusedSimpArgs false

/-! ### impl_within: function 50 -/

def impl_within.f (a0 : Int) (a1 : Int) (a2 : Int) : Option (Bool) := if a0 ≥ a1 then (some (decide (a0 ≤ a2))) else (some false)
set_option maxHeartbeats 60000000 in
set_option maxRecDepth 100000 in
theorem impl_within.calls (a0 : Int) (a1 : Int) (a2 : Int) (r : Bool) (w : World) (h : impl_within.f a0 a1 a2 = some r) :
    Calls Try.prog 50 #[.int .i64 a0, .int .i64 a1, .int .i64 a2] w fun e w' => e = .returned (.bool r) ∧ Drawn0 w w' := by
 have H : (if a0 ≥ a1 then (some (decide (a0 ≤ a2))) else (some false)) = some r := h
 clear h
 by_cases c4 : a0 ≥ a1
 ·
  rw [if_pos c4] at H
  have c4b0 : decide (a1 ≤ a0) = true := decide_eq_true c4
  clear c4
  obtain rfl := Option.some.inj H
  go_enter Try.func50, Try.ntmps50
  go_wp2
  go_ret
  exact ⟨by first | rfl | (simp; done) | (simp [*]; done), by repeat (first | exact Drawn0.refl _ | apply Drawn0.step)⟩
 rw [if_neg c4] at H
 have c4b0 : decide (a1 ≤ a0) = false := decide_eq_false c4
 clear c4
 obtain rfl := Option.some.inj H
 go_enter Try.func50, Try.ntmps50
 go_wp2
 go_ret
 exact ⟨by first | rfl | (simp; done) | (simp [*]; done), by repeat (first | exact Drawn0.refl _ | apply Drawn0.step)⟩

/-! ### impl_isReplica: function 30 -/

def impl_isReplica.f (a0 : Int) : Option (Bool) := (impl_within.f a0 0 3).bind fun t101 => (some t101)
set_option maxHeartbeats 60000000 in
set_option maxRecDepth 100000 in
theorem impl_isReplica.calls (a0 : Int) (r : Bool) (w : World) (h : impl_isReplica.f a0 = some r) :
    Calls Try.prog 30 #[.int .i64 a0] w fun e w' => e = .returned (.bool r) ∧ Drawn0 w w' := by
 have H : ((impl_within.f a0 0 3).bind fun t101 => (some t101)) = some r := h
 clear h
 replace H := Option.bind_eq_some_iff.mp H
 obtain ⟨t101, A20, H⟩ := H
 replace H : (some t101) = some r := H
 have A2 := AM A20
 clear A20
 obtain rfl := Option.some.inj H
 go_enter Try.func30, Try.ntmps30
 go_wp2_with (first | ((with_reducible refine gate_callee (f := 50) rfl ?_); refine goesL_ (some 4) rfl rfl Try.func50 (by kernel_rfl) rfl #[.int .i64 a0, .int .i64 0, .int .i64 3] rfl (by (try simp only [mA, mB, mC]); first | done | rfl | (simp only [mD, mE]; rfl)) ?_; (with_reducible refine (impl_within.calls a0 0 3 t101 _ A2.out).mono ?_); rintro e w' ⟨rfl, ⟨nd, rfl⟩⟩; refine ⟨_, rfl, ?_⟩))
 go_ret
 exact ⟨by first | rfl | (simp; done) | (simp [*]; done), by repeat (first | exact Drawn0.refl _ | apply Drawn0.step)⟩

/-! ### impl_isView: function 31 -/

def impl_isView.f (a0 : Int) (a1 : Int) : Option (Bool) := (impl_within.f a0 a1 7).bind fun t101 => (some t101)
set_option maxHeartbeats 60000000 in
set_option maxRecDepth 100000 in
theorem impl_isView.calls (a0 : Int) (a1 : Int) (r : Bool) (w : World) (h : impl_isView.f a0 a1 = some r) :
    Calls Try.prog 31 #[.int .i64 a0, .int .i64 a1] w fun e w' => e = .returned (.bool r) ∧ Drawn0 w w' := by
 have H : ((impl_within.f a0 a1 7).bind fun t101 => (some t101)) = some r := h
 clear h
 replace H := Option.bind_eq_some_iff.mp H
 obtain ⟨t101, A30, H⟩ := H
 replace H : (some t101) = some r := H
 have A3 := AM A30
 clear A30
 obtain rfl := Option.some.inj H
 go_enter Try.func31, Try.ntmps31
 go_wp2_with (first | ((with_reducible refine gate_callee (f := 50) rfl ?_); refine goesL_ (some 7) rfl rfl Try.func50 (by kernel_rfl) rfl #[.int .i64 a0, .int .i64 a1, .int .i64 7] rfl (by (try simp only [mA, mB, mC]); first | done | rfl | (simp only [mD, mE]; rfl)) ?_; (with_reducible refine (impl_within.calls a0 a1 7 t101 _ A3.out).mono ?_); rintro e w' ⟨rfl, ⟨nd, rfl⟩⟩; refine ⟨_, rfl, ?_⟩))
 go_ret
 exact ⟨by first | rfl | (simp; done) | (simp [*]; done), by repeat (first | exact Drawn0.refl _ | apply Drawn0.step)⟩

/-! ### impl_isSeq: function 65 -/

def impl_isSeq.f (a0 : Int) : Option (Bool) := (impl_within.f a0 1 6).bind fun t101 => (some t101)
set_option maxHeartbeats 60000000 in
set_option maxRecDepth 100000 in
theorem impl_isSeq.calls (a0 : Int) (r : Bool) (w : World) (h : impl_isSeq.f a0 = some r) :
    Calls Try.prog 65 #[.int .i64 a0] w fun e w' => e = .returned (.bool r) ∧ Drawn0 w w' := by
 have H : ((impl_within.f a0 1 6).bind fun t101 => (some t101)) = some r := h
 clear h
 replace H := Option.bind_eq_some_iff.mp H
 obtain ⟨t101, A20, H⟩ := H
 replace H : (some t101) = some r := H
 have A2 := AM A20
 clear A20
 obtain rfl := Option.some.inj H
 go_enter Try.func65, Try.ntmps65
 go_wp2_with (first | ((with_reducible refine gate_callee (f := 50) rfl ?_); refine goesL_ (some 4) rfl rfl Try.func50 (by kernel_rfl) rfl #[.int .i64 a0, .int .i64 1, .int .i64 6] rfl (by (try simp only [mA, mB, mC]); first | done | rfl | (simp only [mD, mE]; rfl)) ?_; (with_reducible refine (impl_within.calls a0 1 6 t101 _ A2.out).mono ?_); rintro e w' ⟨rfl, ⟨nd, rfl⟩⟩; refine ⟨_, rfl, ?_⟩))
 go_ret
 exact ⟨by first | rfl | (simp; done) | (simp [*]; done), by repeat (first | exact Drawn0.refl _ | apply Drawn0.step)⟩

/-! ### impl_isOp: function 66 -/

def impl_isOp.f (a0 : ByteArray) : Option (Bool) := some (decide ((a0.size : Int) ≤ 120))
set_option maxHeartbeats 60000000 in
set_option maxRecDepth 100000 in
theorem impl_isOp.calls (a0 : ByteArray) (r : Bool) (w : World) (h : impl_isOp.f a0 = some r) :
    Calls Try.prog 66 #[.string a0] w fun e w' => e = .returned (.bool r) ∧ Drawn0 w w' := by
 have H : (some (decide ((a0.size : Int) ≤ 120))) = some r := h
 clear h
 obtain rfl := Option.some.inj H
 go_enter Try.func66, Try.ntmps66
 go_wp2
 go_ret
 exact ⟨by first | rfl | (simp; done) | (simp [*]; done), by repeat (first | exact Drawn0.refl _ | apply Drawn0.step)⟩

/-! ### impl_isVote: function 48 -/

def impl_isVote.f (a0_0 : Int) (a0_1 : Int) (a0_2 : Int) (a0_3 : ByteArray) (a0_4 : Int) : Option (Bool) := if a0_0 = 2 then ((impl_isView.f a0_1 0).bind fun t102 => (if t102 = true then ((impl_isSeq.f a0_2).bind fun t103 => (if t103 = true then ((impl_isOp.f a0_3).bind fun t104 => (if t104 = true then ((impl_isReplica.f a0_4).bind fun t105 => (some t105)) else (some false))) else (some false))) else (some false))) else (if a0_0 = 3 then ((impl_isView.f a0_1 0).bind fun t106 => (if t106 = true then ((impl_isSeq.f a0_2).bind fun t107 => (if t107 = true then ((impl_isOp.f a0_3).bind fun t108 => (if t108 = true then ((impl_isReplica.f a0_4).bind fun t109 => (some t109)) else (some false))) else (some false))) else (some false))) else (some false))
set_option maxHeartbeats 60000000 in
set_option maxRecDepth 100000 in
theorem impl_isVote.calls (a0_0 : Int) (a0_1 : Int) (a0_2 : Int) (a0_3 : ByteArray) (a0_4 : Int) (r : Bool) (w : World) (h : impl_isVote.f a0_0 a0_1 a0_2 a0_3 a0_4 = some r) :
    Calls Try.prog 48 #[.agg #[.int .i64 a0_0, .int .i64 a0_1, .int .i64 a0_2, .string a0_3, .int .i64 a0_4]] w fun e w' => e = .returned (.bool r) ∧ Below w.heap.size w w' := by
 have hu52 := Try.underlying52
 have HB := AM (Below.refl w.heap.size w)
 have H : (if a0_0 = 2 then ((impl_isView.f a0_1 0).bind fun t102 => (if t102 = true then ((impl_isSeq.f a0_2).bind fun t103 => (if t103 = true then ((impl_isOp.f a0_3).bind fun t104 => (if t104 = true then ((impl_isReplica.f a0_4).bind fun t105 => (some t105)) else (some false))) else (some false))) else (some false))) else (if a0_0 = 3 then ((impl_isView.f a0_1 0).bind fun t106 => (if t106 = true then ((impl_isSeq.f a0_2).bind fun t107 => (if t107 = true then ((impl_isOp.f a0_3).bind fun t108 => (if t108 = true then ((impl_isReplica.f a0_4).bind fun t109 => (some t109)) else (some false))) else (some false))) else (some false))) else (some false))) = some r := h
 clear h
 by_cases c2 : a0_0 = 2
 ·
  rw [if_pos c2] at H
  have c2b0 : (a0_0 == 2) = true := beq_iff_eq.mpr c2
  have c2b1 : (a0_0 != 2) = false := bne_eq_false_iff_eq.mpr c2
  clear c2
  replace H := Option.bind_eq_some_iff.mp H
  obtain ⟨t102, A30, H⟩ := H
  replace H : (if t102 = true then ((impl_isSeq.f a0_2).bind fun t103 => (if t103 = true then ((impl_isOp.f a0_3).bind fun t104 => (if t104 = true then ((impl_isReplica.f a0_4).bind fun t105 => (some t105)) else (some false))) else (some false))) else (some false)) = some r := H
  have A3 := AM A30
  clear A30
  by_cases c4 : t102 = true
  ·
   subst c4
   have H1 : ((impl_isSeq.f a0_2).bind fun t103 => (if t103 = true then ((impl_isOp.f a0_3).bind fun t104 => (if t104 = true then ((impl_isReplica.f a0_4).bind fun t105 => (some t105)) else (some false))) else (some false))) = some r := by rw [if_pos rfl] at H; exact H
   clear H
   have H := H1
   clear H1
   replace H := Option.bind_eq_some_iff.mp H
   obtain ⟨t103, A50, H⟩ := H
   replace H : (if t103 = true then ((impl_isOp.f a0_3).bind fun t104 => (if t104 = true then ((impl_isReplica.f a0_4).bind fun t105 => (some t105)) else (some false))) else (some false)) = some r := H
   have A5 := AM A50
   clear A50
   by_cases c6 : t103 = true
   ·
    subst c6
    have H1 : ((impl_isOp.f a0_3).bind fun t104 => (if t104 = true then ((impl_isReplica.f a0_4).bind fun t105 => (some t105)) else (some false))) = some r := by rw [if_pos rfl] at H; exact H
    clear H
    have H := H1
    clear H1
    replace H := Option.bind_eq_some_iff.mp H
    obtain ⟨t104, A70, H⟩ := H
    replace H : (if t104 = true then ((impl_isReplica.f a0_4).bind fun t105 => (some t105)) else (some false)) = some r := H
    have A7 := AM A70
    clear A70
    by_cases c8 : t104 = true
    ·
     subst c8
     have H1 : ((impl_isReplica.f a0_4).bind fun t105 => (some t105)) = some r := by rw [if_pos rfl] at H; exact H
     clear H
     have H := H1
     clear H1
     replace H := Option.bind_eq_some_iff.mp H
     obtain ⟨t105, A90, H⟩ := H
     replace H : (some t105) = some r := H
     have A9 := AM A90
     clear A90
     obtain rfl := Option.some.inj H
     go_enter Try.func48, Try.ntmps48
     go_wp2_with (first | ((with_reducible refine gate_dst (N := 1) rfl ?_); refine box_event (by rfl) (N := 1) (by rfl) (cs := #[.int .i64 a0_0, .int .i64 a0_1, .int .i64 a0_2, .string a0_3, .int .i64 a0_4]) (t := 52) (by first | (go_simp; done) | (go_simp; rfl)) ?_; intro gb101 hg w10 hbox hb; have _ := AM (below_step (bX HB.out) hb); have _ := AM (hbox); have n2_ := AM ((by rw [hg]; exact (bZ (bX HB.out)) : w.heap.size ≤ gb101)); clear HB; rename_i HB BK101; have GW101 := n2_; have GE101 := n2_; clear n2_; clear hb hbox hg; have hcz11 := q5 BK101.out; have hfz11 := fZ BK101.out) | (go_at_call 31; (with_reducible refine (impl_isView.calls a0_1 0 true _ A3.out).mono ?_); rintro e w' ⟨rfl, ⟨nd, rfl⟩⟩) | (go_at_call 65; (with_reducible refine (impl_isSeq.calls a0_2 true _ A5.out).mono ?_); rintro e w' ⟨rfl, ⟨nd, rfl⟩⟩) | (go_at_call 66; (with_reducible refine (impl_isOp.calls a0_3 true _ A7.out).mono ?_); rintro e w' ⟨rfl, ⟨nd, rfl⟩⟩) | (go_at_call 30; (with_reducible refine (impl_isReplica.calls a0_4 t105 _ A9.out).mono ?_); rintro e w' ⟨rfl, ⟨nd, rfl⟩⟩))
     go_ret
     exact ⟨by first | rfl | (simp [*, errW_none, errW_some] <;> rfl), bX HB.out⟩
    replace c8 := Bool.eq_false_iff.mpr c8
    subst c8
    have H1 : (some false) = some r := by rw [if_neg (show ¬ (false = true) by decide)] at H; exact H
    clear H
    have H := H1
    clear H1
    obtain rfl := Option.some.inj H
    go_enter Try.func48, Try.ntmps48
    go_wp2_with (first | ((with_reducible refine gate_dst (N := 1) rfl ?_); refine box_event (by rfl) (N := 1) (by rfl) (cs := #[.int .i64 a0_0, .int .i64 a0_1, .int .i64 a0_2, .string a0_3, .int .i64 a0_4]) (t := 52) (by first | (go_simp; done) | (go_simp; rfl)) ?_; intro gb101 hg w12 hbox hb; have _ := AM (below_step (bX HB.out) hb); have _ := AM (hbox); have n2_ := AM ((by rw [hg]; exact (bZ (bX HB.out)) : w.heap.size ≤ gb101)); clear HB; rename_i HB BK101; have GW101 := n2_; have GE101 := n2_; clear n2_; clear hb hbox hg; have hcz13 := q5 BK101.out; have hfz13 := fZ BK101.out) | (go_at_call 31; (with_reducible refine (impl_isView.calls a0_1 0 true _ A3.out).mono ?_); rintro e w' ⟨rfl, ⟨nd, rfl⟩⟩) | (go_at_call 65; (with_reducible refine (impl_isSeq.calls a0_2 true _ A5.out).mono ?_); rintro e w' ⟨rfl, ⟨nd, rfl⟩⟩) | (go_at_call 66; (with_reducible refine (impl_isOp.calls a0_3 false _ A7.out).mono ?_); rintro e w' ⟨rfl, ⟨nd, rfl⟩⟩))
    go_ret
    exact ⟨by first | rfl | (simp [*, errW_none, errW_some] <;> rfl), bX HB.out⟩
   replace c6 := Bool.eq_false_iff.mpr c6
   subst c6
   have H1 : (some false) = some r := by rw [if_neg (show ¬ (false = true) by decide)] at H; exact H
   clear H
   have H := H1
   clear H1
   obtain rfl := Option.some.inj H
   go_enter Try.func48, Try.ntmps48
   go_wp2_with (first | ((with_reducible refine gate_dst (N := 1) rfl ?_); refine box_event (by rfl) (N := 1) (by rfl) (cs := #[.int .i64 a0_0, .int .i64 a0_1, .int .i64 a0_2, .string a0_3, .int .i64 a0_4]) (t := 52) (by first | (go_simp; done) | (go_simp; rfl)) ?_; intro gb101 hg w14 hbox hb; have _ := AM (below_step (bX HB.out) hb); have _ := AM (hbox); have n2_ := AM ((by rw [hg]; exact (bZ (bX HB.out)) : w.heap.size ≤ gb101)); clear HB; rename_i HB BK101; have GW101 := n2_; have GE101 := n2_; clear n2_; clear hb hbox hg; have hcz15 := q5 BK101.out; have hfz15 := fZ BK101.out) | (go_at_call 31; (with_reducible refine (impl_isView.calls a0_1 0 true _ A3.out).mono ?_); rintro e w' ⟨rfl, ⟨nd, rfl⟩⟩) | (go_at_call 65; (with_reducible refine (impl_isSeq.calls a0_2 false _ A5.out).mono ?_); rintro e w' ⟨rfl, ⟨nd, rfl⟩⟩))
   go_ret
   exact ⟨by first | rfl | (simp [*, errW_none, errW_some] <;> rfl), bX HB.out⟩
  replace c4 := Bool.eq_false_iff.mpr c4
  subst c4
  have H1 : (some false) = some r := by rw [if_neg (show ¬ (false = true) by decide)] at H; exact H
  clear H
  have H := H1
  clear H1
  obtain rfl := Option.some.inj H
  go_enter Try.func48, Try.ntmps48
  go_wp2_with (first | ((with_reducible refine gate_dst (N := 1) rfl ?_); refine box_event (by rfl) (N := 1) (by rfl) (cs := #[.int .i64 a0_0, .int .i64 a0_1, .int .i64 a0_2, .string a0_3, .int .i64 a0_4]) (t := 52) (by first | (go_simp; done) | (go_simp; rfl)) ?_; intro gb101 hg w16 hbox hb; have _ := AM (below_step (bX HB.out) hb); have _ := AM (hbox); have n2_ := AM ((by rw [hg]; exact (bZ (bX HB.out)) : w.heap.size ≤ gb101)); clear HB; rename_i HB BK101; have GW101 := n2_; have GE101 := n2_; clear n2_; clear hb hbox hg; have hcz17 := q5 BK101.out; have hfz17 := fZ BK101.out) | (go_at_call 31; (with_reducible refine (impl_isView.calls a0_1 0 false _ A3.out).mono ?_); rintro e w' ⟨rfl, ⟨nd, rfl⟩⟩))
  go_ret
  exact ⟨by first | rfl | (simp [*, errW_none, errW_some] <;> rfl), bX HB.out⟩
 rw [if_neg c2] at H
 have c2b0 : (a0_0 == 2) = false := beq_eq_false_iff_ne.mpr c2
 have c2b1 : (a0_0 != 2) = true := bne_iff_ne.mpr c2
 by_cases c18 : a0_0 = 3
 ·
  rw [if_pos c18] at H
  have c18b0 : (a0_0 == 3) = true := beq_iff_eq.mpr c18
  have c18b1 : (a0_0 != 3) = false := bne_eq_false_iff_eq.mpr c18
  clear c18
  replace H := Option.bind_eq_some_iff.mp H
  obtain ⟨t106, A190, H⟩ := H
  replace H : (if t106 = true then ((impl_isSeq.f a0_2).bind fun t107 => (if t107 = true then ((impl_isOp.f a0_3).bind fun t108 => (if t108 = true then ((impl_isReplica.f a0_4).bind fun t109 => (some t109)) else (some false))) else (some false))) else (some false)) = some r := H
  have A19 := AM A190
  clear A190
  by_cases c20 : t106 = true
  ·
   subst c20
   have H1 : ((impl_isSeq.f a0_2).bind fun t107 => (if t107 = true then ((impl_isOp.f a0_3).bind fun t108 => (if t108 = true then ((impl_isReplica.f a0_4).bind fun t109 => (some t109)) else (some false))) else (some false))) = some r := by rw [if_pos rfl] at H; exact H
   clear H
   have H := H1
   clear H1
   replace H := Option.bind_eq_some_iff.mp H
   obtain ⟨t107, A210, H⟩ := H
   replace H : (if t107 = true then ((impl_isOp.f a0_3).bind fun t108 => (if t108 = true then ((impl_isReplica.f a0_4).bind fun t109 => (some t109)) else (some false))) else (some false)) = some r := H
   have A21 := AM A210
   clear A210
   by_cases c22 : t107 = true
   ·
    subst c22
    have H1 : ((impl_isOp.f a0_3).bind fun t108 => (if t108 = true then ((impl_isReplica.f a0_4).bind fun t109 => (some t109)) else (some false))) = some r := by rw [if_pos rfl] at H; exact H
    clear H
    have H := H1
    clear H1
    replace H := Option.bind_eq_some_iff.mp H
    obtain ⟨t108, A230, H⟩ := H
    replace H : (if t108 = true then ((impl_isReplica.f a0_4).bind fun t109 => (some t109)) else (some false)) = some r := H
    have A23 := AM A230
    clear A230
    by_cases c24 : t108 = true
    ·
     subst c24
     have H1 : ((impl_isReplica.f a0_4).bind fun t109 => (some t109)) = some r := by rw [if_pos rfl] at H; exact H
     clear H
     have H := H1
     clear H1
     replace H := Option.bind_eq_some_iff.mp H
     obtain ⟨t109, A250, H⟩ := H
     replace H : (some t109) = some r := H
     have A25 := AM A250
     clear A250
     obtain rfl := Option.some.inj H
     go_enter Try.func48, Try.ntmps48
     go_wp2_with (first | ((with_reducible refine gate_dst (N := 1) rfl ?_); refine box_event (by rfl) (N := 1) (by rfl) (cs := #[.int .i64 a0_0, .int .i64 a0_1, .int .i64 a0_2, .string a0_3, .int .i64 a0_4]) (t := 52) (by first | (go_simp; done) | (go_simp; rfl)) ?_; intro gb101 hg w26 hbox hb; have _ := AM (below_step (bX HB.out) hb); have _ := AM (hbox); have n2_ := AM ((by rw [hg]; exact (bZ (bX HB.out)) : w.heap.size ≤ gb101)); clear HB; rename_i HB BK101; have GW101 := n2_; have GE101 := n2_; clear n2_; clear hb hbox hg; have hcz27 := q5 BK101.out; have hfz27 := fZ BK101.out) | (go_at_call 31; (with_reducible refine (impl_isView.calls a0_1 0 true _ A19.out).mono ?_); rintro e w' ⟨rfl, ⟨nd, rfl⟩⟩) | (go_at_call 65; (with_reducible refine (impl_isSeq.calls a0_2 true _ A21.out).mono ?_); rintro e w' ⟨rfl, ⟨nd, rfl⟩⟩) | (go_at_call 66; (with_reducible refine (impl_isOp.calls a0_3 true _ A23.out).mono ?_); rintro e w' ⟨rfl, ⟨nd, rfl⟩⟩) | (go_at_call 30; (with_reducible refine (impl_isReplica.calls a0_4 t109 _ A25.out).mono ?_); rintro e w' ⟨rfl, ⟨nd, rfl⟩⟩))
     go_ret
     exact ⟨by first | rfl | (simp [*, errW_none, errW_some] <;> rfl), bX HB.out⟩
    replace c24 := Bool.eq_false_iff.mpr c24
    subst c24
    have H1 : (some false) = some r := by rw [if_neg (show ¬ (false = true) by decide)] at H; exact H
    clear H
    have H := H1
    clear H1
    obtain rfl := Option.some.inj H
    go_enter Try.func48, Try.ntmps48
    go_wp2_with (first | ((with_reducible refine gate_dst (N := 1) rfl ?_); refine box_event (by rfl) (N := 1) (by rfl) (cs := #[.int .i64 a0_0, .int .i64 a0_1, .int .i64 a0_2, .string a0_3, .int .i64 a0_4]) (t := 52) (by first | (go_simp; done) | (go_simp; rfl)) ?_; intro gb101 hg w28 hbox hb; have _ := AM (below_step (bX HB.out) hb); have _ := AM (hbox); have n2_ := AM ((by rw [hg]; exact (bZ (bX HB.out)) : w.heap.size ≤ gb101)); clear HB; rename_i HB BK101; have GW101 := n2_; have GE101 := n2_; clear n2_; clear hb hbox hg; have hcz29 := q5 BK101.out; have hfz29 := fZ BK101.out) | (go_at_call 31; (with_reducible refine (impl_isView.calls a0_1 0 true _ A19.out).mono ?_); rintro e w' ⟨rfl, ⟨nd, rfl⟩⟩) | (go_at_call 65; (with_reducible refine (impl_isSeq.calls a0_2 true _ A21.out).mono ?_); rintro e w' ⟨rfl, ⟨nd, rfl⟩⟩) | (go_at_call 66; (with_reducible refine (impl_isOp.calls a0_3 false _ A23.out).mono ?_); rintro e w' ⟨rfl, ⟨nd, rfl⟩⟩))
    go_ret
    exact ⟨by first | rfl | (simp [*, errW_none, errW_some] <;> rfl), bX HB.out⟩
   replace c22 := Bool.eq_false_iff.mpr c22
   subst c22
   have H1 : (some false) = some r := by rw [if_neg (show ¬ (false = true) by decide)] at H; exact H
   clear H
   have H := H1
   clear H1
   obtain rfl := Option.some.inj H
   go_enter Try.func48, Try.ntmps48
   go_wp2_with (first | ((with_reducible refine gate_dst (N := 1) rfl ?_); refine box_event (by rfl) (N := 1) (by rfl) (cs := #[.int .i64 a0_0, .int .i64 a0_1, .int .i64 a0_2, .string a0_3, .int .i64 a0_4]) (t := 52) (by first | (go_simp; done) | (go_simp; rfl)) ?_; intro gb101 hg w30 hbox hb; have _ := AM (below_step (bX HB.out) hb); have _ := AM (hbox); have n2_ := AM ((by rw [hg]; exact (bZ (bX HB.out)) : w.heap.size ≤ gb101)); clear HB; rename_i HB BK101; have GW101 := n2_; have GE101 := n2_; clear n2_; clear hb hbox hg; have hcz31 := q5 BK101.out; have hfz31 := fZ BK101.out) | (go_at_call 31; (with_reducible refine (impl_isView.calls a0_1 0 true _ A19.out).mono ?_); rintro e w' ⟨rfl, ⟨nd, rfl⟩⟩) | (go_at_call 65; (with_reducible refine (impl_isSeq.calls a0_2 false _ A21.out).mono ?_); rintro e w' ⟨rfl, ⟨nd, rfl⟩⟩))
   go_ret
   exact ⟨by first | rfl | (simp [*, errW_none, errW_some] <;> rfl), bX HB.out⟩
  replace c20 := Bool.eq_false_iff.mpr c20
  subst c20
  have H1 : (some false) = some r := by rw [if_neg (show ¬ (false = true) by decide)] at H; exact H
  clear H
  have H := H1
  clear H1
  obtain rfl := Option.some.inj H
  go_enter Try.func48, Try.ntmps48
  go_wp2_with (first | ((with_reducible refine gate_dst (N := 1) rfl ?_); refine box_event (by rfl) (N := 1) (by rfl) (cs := #[.int .i64 a0_0, .int .i64 a0_1, .int .i64 a0_2, .string a0_3, .int .i64 a0_4]) (t := 52) (by first | (go_simp; done) | (go_simp; rfl)) ?_; intro gb101 hg w32 hbox hb; have _ := AM (below_step (bX HB.out) hb); have _ := AM (hbox); have n2_ := AM ((by rw [hg]; exact (bZ (bX HB.out)) : w.heap.size ≤ gb101)); clear HB; rename_i HB BK101; have GW101 := n2_; have GE101 := n2_; clear n2_; clear hb hbox hg; have hcz33 := q5 BK101.out; have hfz33 := fZ BK101.out) | (go_at_call 31; (with_reducible refine (impl_isView.calls a0_1 0 false _ A19.out).mono ?_); rintro e w' ⟨rfl, ⟨nd, rfl⟩⟩))
  go_ret
  exact ⟨by first | rfl | (simp [*, errW_none, errW_some] <;> rfl), bX HB.out⟩
 rw [if_neg c18] at H
 have c18b0 : (a0_0 == 3) = false := beq_eq_false_iff_ne.mpr c18
 have c18b1 : (a0_0 != 3) = true := bne_iff_ne.mpr c18
 obtain rfl := Option.some.inj H
 go_enter Try.func48, Try.ntmps48
 go_wp2_with (first | ((with_reducible refine gate_dst (N := 1) rfl ?_); refine box_event (by rfl) (N := 1) (by rfl) (cs := #[.int .i64 a0_0, .int .i64 a0_1, .int .i64 a0_2, .string a0_3, .int .i64 a0_4]) (t := 52) (by first | (go_simp; done) | (go_simp; rfl)) ?_; intro gb101 hg w34 hbox hb; have _ := AM (below_step (bX HB.out) hb); have _ := AM (hbox); have n2_ := AM ((by rw [hg]; exact (bZ (bX HB.out)) : w.heap.size ≤ gb101)); clear HB; rename_i HB BK101; have GW101 := n2_; have GE101 := n2_; clear n2_; clear hb hbox hg; have hcz35 := q5 BK101.out; have hfz35 := fZ BK101.out))
 go_ret
 exact ⟨by first | rfl | (simp [*, errW_none, errW_some] <;> rfl), bX HB.out⟩

/-! ### impl_voteIndex: function 49 (by hand) -/
def impl_voteIndex_p (y0 y1 y2 y4 : Int) (x : S52) : Bool := x.f0 == y0 && (x.f1 == y1 && (x.f2 == y2 && x.f4 == y4))
def impl_voteIndex.f (l0 : List (S52)) (a1_0 : Int) (a1_1 : Int) (a1_2 : Int) (a1_3 : ByteArray) (a1_4 : Int) : Option Int := some (ixFrom (impl_voteIndex_p a1_0 a1_1 a1_2 a1_4) l0 0)
set_option maxRecDepth 100000 in
theorem impl_voteIndex_c (x : S52) (y0 y1 y2 y4 : Int) (g : Nat) (w : World)
   (h0 : w.cell? ⟨g,0,none⟩ = some (.int .i64 y0)) (h1 : w.cell? ⟨g,1,none⟩ = some (.int .i64 y1)) (h2 : w.cell? ⟨g,2,none⟩ = some (.int .i64 y2)) (h4 : w.cell? ⟨g,4,none⟩ = some (.int .i64 y4)) :
   Calls Try.prog 68 #[.agg #[.int .i64 x.f0, .int .i64 x.f1, .int .i64 x.f2, .string x.f3, .int .i64 x.f4], .pointer (some ⟨g,0,none⟩)] w fun e w' => e = .returned (.bool (impl_voteIndex_p y0 y1 y2 y4 x)) ∧ Below w.heap.size w w' := by
  have hu := Try.underlying52
  rcases Bool.eq_false_or_eq_true (x.f0 == y0) with e0 | e0 <;> rcases Bool.eq_false_or_eq_true (x.f1 == y1) with e1 | e1 <;> rcases Bool.eq_false_or_eq_true (x.f2 == y2) with e2 | e2
  all_goals
    go_enter Try.func68, Try.ntmps68
    go_wp2_with (first | ((with_reducible refine gate_dst (N := 2) rfl ?_); refine box_event ?hg (N := 2) ?hd (cs := #[.int .i64 x.f0, .int .i64 x.f1, .int .i64 x.f2, .string x.f3, .int .i64 x.f4]) (t := 52) ?hr ?_; (case hd => rfl); (case hg => rfl); (case hr => first | (go_simp; done) | (go_simp; rfl)); intro gb hgb w1 hbox hb; have k0 := (pw_cell_below hb h0); have k1 := (pw_cell_below hb h1); have k2 := (pw_cell_below hb h2); have k4 := (pw_cell_below hb h4); have z0 : w1.cell? ⟨gb, 0, none⟩ = _ := (blk_cell hbox 0).trans rfl; have z1 : w1.cell? ⟨gb, 1, none⟩ = _ := (blk_cell hbox 1).trans rfl; have z2 : w1.cell? ⟨gb, 2, none⟩ = _ := (blk_cell hbox 2).trans rfl; have z4 : w1.cell? ⟨gb, 4, none⟩ = _ := (blk_cell hbox 4).trans rfl; have HB := Aside0.mk hb; clear hb hbox hgb h0 h1 h2 h4))
    go_ret
    exact ⟨by simp [*, impl_voteIndex_p], HB.out⟩
set_option maxRecDepth 100000 in
theorem impl_voteIndex_x (A0 : Option Addr) (c0 : Nat) (l0 : List (S52)) (y0 y1 y2 y4 : Int) (g : Nat) (w : World) (hr0 : Kd.C k52 w A0 l0.length l0) (hc0 : l0.length ≤ c0)
   (h0 : w.cell? ⟨g,0,none⟩ = some (.int .i64 y0)) (h1 : w.cell? ⟨g,1,none⟩ = some (.int .i64 y1)) (h2 : w.cell? ⟨g,2,none⟩ = some (.int .i64 y2)) (h4 : w.cell? ⟨g,4,none⟩ = some (.int .i64 y4)) :
   Calls Try.prog 67 #[.slice A0 l0.length c0, .func (.func 68) #[] #[.pointer (some ⟨g,0,none⟩)]] w fun e w' => e = .returned (.int .i64 (ixFrom (impl_voteIndex_p y0 y1 y2 y4) l0 0)) ∧ Below w.heap.size w w' := by
  have hu := Try.underlying52
  have HR := Aside0.mk hr0
  have H0 := Aside0.mk h0
  have H1 := Aside0.mk h1
  have H2 := Aside0.mk h2
  have H4 := Aside0.mk h4
  have hl : l0.length ≤ 9223372036854775807 := hr0.2.1
  clear hr0 hc0 h0 h1 h2 h4
  go_enter Try.func67, Try.ntmps67
  go_wp2
  go_loopg [8] (l0.length + 1) (fun kq v8 w' => ∃ i : Int, v8 = .int .i64 i ∧ Aside0 (0 ≤ i) ∧ Aside0 (i ≤ l0.length) ∧ Aside0 ((kq : Int) + i = l0.length + 1) ∧ Aside0 (ixFrom (impl_voteIndex_p y0 y1 y2 y4) l0 0 = ixFrom (impl_voteIndex_p y0 y1 y2 y4) (l0.drop i.toNat) i.toNat) ∧ Aside0 (Below w.heap.size w w'))
  case atStart => exact ⟨0, rfl, ⟨by omega⟩, ⟨by omega⟩, ⟨by omega⟩, ⟨rfl⟩, ⟨Below.refl _ _⟩⟩
  case round =>
    obtain ⟨i, rfl, G0, G1, HK, HI, HB⟩ := hrel
    by_cases hlt : i < (l0.length : Int)
    · have g0 := G0.out
      have hd : l0.drop i.toNat = rd_T52 l0 i :: l0.drop (i.toNat + 1) := by
        rw [List.drop_eq_getElem_cons (by omega)]; simp [rd_T52, List.getD, show i.toNat < l0.length by omega]
      obtain ⟨ad, e, hx0, hx1, hx2, hx3, hx4⟩ := at_T52 HR.out i g0 hlt
      cases e
      replace hx0 := pw_cell_below HB.out hx0
      replace hx1 := pw_cell_below HB.out hx1
      replace hx2 := pw_cell_below HB.out hx2
      replace hx3 := pw_cell_below HB.out hx3
      replace hx4 := pw_cell_below HB.out hx4
      have G2 := Aside0.mk hlt
      have c1 : decide (i < (l0.length : Int)) = true := decide_eq_true hlt
      replace g0 := eq_true g0
      replace hlt := eq_true hlt
      cases hp : impl_voteIndex_p y0 y1 y2 y4 (rd_T52 l0 i) with
      | true =>
        have HI2 : Aside0 (ixFrom (impl_voteIndex_p y0 y1 y2 y4) l0 0 = i) := ⟨by rw [HI.out, hd]; simp [ixFrom, hp]; have := G0.out; omega⟩
        have HP := Aside0.mk hp
        clear hd hp
        go_wp2_with (first | (go_at_call 68; (with_reducible refine (impl_voteIndex_c (rd_T52 l0 i) y0 y1 y2 y4 g _ (pw_cell_below HB.out H0.out) (pw_cell_below HB.out H1.out) (pw_cell_below HB.out H2.out) (pw_cell_below HB.out H4.out)).mono ?_); rw [HP.out]; rintro e w1 ⟨rfl, hb⟩; replace HB := Aside0.mk (below_step HB.out hb); clear hb))
        go_ret
        exact ⟨by rw [HI2.out]; rfl, HB.out⟩
      | false =>
        have HI2 : Aside0 (ixFrom (impl_voteIndex_p y0 y1 y2 y4) l0 0 = ixFrom (impl_voteIndex_p y0 y1 y2 y4) (l0.drop (i + 1).toNat) (i + 1).toNat) := ⟨by rw [HI.out, hd, show (i + 1).toNat = i.toNat + 1 by have := G0.out; omega]; simp [ixFrom, hp]⟩
        have HP := Aside0.mk hp
        clear hd hp
        go_wp2_with (first | (go_at_call 68; (with_reducible refine (impl_voteIndex_c (rd_T52 l0 i) y0 y1 y2 y4 g _ (pw_cell_below HB.out H0.out) (pw_cell_below HB.out H1.out) (pw_cell_below HB.out H2.out) (pw_cell_below HB.out H4.out)).mono ?_); rw [HP.out]; rintro e w1 ⟨rfl, hb⟩; replace HB := Aside0.mk (below_step HB.out hb); clear hb))
        cases gk with
        | zero => exact absurd HK.out (by have := G2.out; omega)
        | succ gk =>
        go_roundg gk
        case measure => omega
        case rel => exact ⟨i + 1, by rw [w_succ_ G0.out G2.out hl], ⟨by have := G0.out; omega⟩, ⟨by have := G2.out; omega⟩, ⟨by have := HK.out; omega⟩, HI2, HB⟩
    · have c1 : decide (i < (l0.length : Int)) = false := decide_eq_false hlt
      have HI2 : Aside0 (ixFrom (impl_voteIndex_p y0 y1 y2 y4) l0 0 = -1) := ⟨by rw [HI.out, List.drop_of_length_le (by omega)]; rfl⟩
      clear hlt
      go_wp2
      go_ret
      exact ⟨by rw [HI2.out]; rfl, HB.out⟩
set_option maxRecDepth 100000 in
theorem impl_voteIndex.calls (A0 : Option Addr) (c0 : Nat) (l0 : List (S52)) (a1_0 : Int) (a1_1 : Int) (a1_2 : Int) (a1_3 : ByteArray) (a1_4 : Int) (r : Int) (w : World) (hr0 : Kd.C k52 w A0 l0.length l0) (hc0 : l0.length ≤ c0) (h : impl_voteIndex.f l0 a1_0 a1_1 a1_2 a1_3 a1_4 = some r) :
    Calls Try.prog 49 #[.slice A0 l0.length c0, .agg #[.int .i64 a1_0, .int .i64 a1_1, .int .i64 a1_2, .string a1_3, .int .i64 a1_4]] w fun e w' => e = .returned (.int .i64 r) ∧ Below w.heap.size w w' := by
  have hu := Try.underlying52
  obtain rfl := Option.some.inj h
  have HR := Aside0.mk hr0
  have HC := Aside0.mk hc0
  clear h hr0 hc0
  go_enter Try.func49, Try.ntmps49
  go_wp2_with (first | ((with_reducible refine gate_dst (N := 3) rfl ?_); refine box_event ?hg (N := 3) ?hd (cs := #[.int .i64 a1_0, .int .i64 a1_1, .int .i64 a1_2, .string a1_3, .int .i64 a1_4]) (t := 52) ?hr ?_; (case hd => rfl); (case hg => rfl); (case hr => first | (go_simp; done) | (go_simp; rfl)); intro gb hgb w1 hbox hb; have Z0 := Aside0.mk ((blk_cell hbox 0).trans rfl : w1.cell? ⟨gb, 0, none⟩ = some (.int .i64 a1_0)); have Z1 := Aside0.mk ((blk_cell hbox 1).trans rfl : w1.cell? ⟨gb, 1, none⟩ = some (.int .i64 a1_1)); have Z2 := Aside0.mk ((blk_cell hbox 2).trans rfl : w1.cell? ⟨gb, 2, none⟩ = some (.int .i64 a1_2)); have Z4 := Aside0.mk ((blk_cell hbox 4).trans rfl : w1.cell? ⟨gb, 4, none⟩ = some (.int .i64 a1_4)); have HB := Aside0.mk hb; clear hb hbox hgb) | (go_at_call 67; (with_reducible refine (impl_voteIndex_x _ _ l0 a1_0 a1_1 a1_2 a1_4 gb _ (Kd.C_below HR.out HB.out) HC.out Z0.out Z1.out Z2.out Z4.out).mono ?_); rintro e w2 ⟨rfl, hb⟩; replace HB := Aside0.mk (below_step HB.out hb); clear hb))
  go_ret
  exact ⟨rfl, HB.out⟩


/-! ### impl_areVotes: function 29 -/

def impl_areVotes.l0 : Nat → List (S52) → List (S52) → Int → Int → Option (Bool)
  | 0, _, _, _, _ => none
  | k + 1, x0, x8, x9, x10 => if x10 < x9 then (if 0 ≤ x10 then (if x10 < (x8.length : Int) then ((impl_isVote.f ((rd_T52 x8 x10).f0) ((rd_T52 x8 x10).f1) ((rd_T52 x8 x10).f2) ((rd_T52 x8 x10).f3) ((rd_T52 x8 x10).f4)).bind fun t103 => (if t103 = true then ((impl_voteIndex.f x0 ((rd_T52 x8 x10).f0) ((rd_T52 x8 x10).f1) ((rd_T52 x8 x10).f2) ((rd_T52 x8 x10).f3) ((rd_T52 x8 x10).f4)).bind fun t104 => (if t104 < x10 then (some false) else (impl_areVotes.l0 k x0 x8 x9 (wrap64 (x10 + 1))))) else (some false))) else (none)) else (none)) else (some true)
def impl_areVotes.f (k : Nat) (l0 : List (S52)) : Option (Bool) := if (l0.length : Int) > 400 then (some false) else (impl_areVotes.l0 k l0 l0 (l0.length : Int) 0)
theorem impl_areVotes.mono_l : ∀ k, (∀ y0 y1 y2 y3, LeO (impl_areVotes.l0 k y0 y1 y2 y3) (impl_areVotes.l0 (k + 1) y0 y1 y2 y3))
  | 0 => fun _ _ _ _ r h => by simp [impl_areVotes.l0] at h
  | k + 1 => by
    have ih0 := impl_areVotes.mono_l k
    · intro y0 y1 y2 y3
      unfold impl_areVotes.l0
      repeat' first
      | (with_reducible exact ih0 _ _ _ _)
      | (with_reducible exact LeO.refl _)
      | (with_reducible exact LeO.none _)
      | (with_reducible refine LeO.ite ?_ ?_)
      | (with_reducible refine LeO.bind ?_ (fun _ => ?_))
      | exact ih0 _ _ _ _
      | exact LeO.none _
      | refine LeO.ite ?_ ?_
      | refine LeO.bind ?_ (fun _ => ?_)
theorem impl_areVotes.mono : ∀ a0 k, LeO (impl_areVotes.f k a0) (impl_areVotes.f (k + 1) a0) := by
  intro a0 k
  have ih0 := impl_areVotes.mono_l k
  unfold impl_areVotes.f
  repeat' first
      | (with_reducible exact ih0 _ _ _ _)
      | (with_reducible exact LeO.refl _)
      | (with_reducible exact LeO.none _)
      | (with_reducible refine LeO.ite ?_ ?_)
      | (with_reducible refine LeO.bind ?_ (fun _ => ?_))
      | exact ih0 _ _ _ _
      | exact LeO.none _
      | refine LeO.ite ?_ ?_
      | refine LeO.bind ?_ (fun _ => ?_)
set_option maxHeartbeats 60000000 in
set_option maxRecDepth 100000 in
theorem impl_areVotes.calls (k : Nat) (A0 : Option Addr) (c0 : Nat) (l0 : List (S52)) (r : Bool) (w : World) (hr0 : Kd.C k52 w A0 l0.length l0) (hc0 : l0.length ≤ c0) (h : impl_areVotes.f k l0 = some r) :
    Calls Try.prog 29 #[.slice A0 l0.length c0] w fun e w' => e = .returned (.bool r) ∧ Below w.heap.size w w' := by
 have hu52 := Try.underlying52
 have HR0 := AM hr0
 have HC0 := AM hc0
 clear hr0 hc0
 have HB := AM (Below.refl w.heap.size w)
 have H : (if (l0.length : Int) > 400 then (some false) else (impl_areVotes.l0 k l0 l0 (l0.length : Int) 0)) = some r := h
 clear h
 by_cases c2 : (l0.length : Int) > 400
 ·
  rw [if_pos c2] at H
  have c2b0 : decide (400 < (l0.length : Int)) = true := decide_eq_true c2
  have c2b1 : decide (400 < l0.length) = true := decide_eq_true (by omega)
  clear c2
  obtain rfl := Option.some.inj H
  go_enter Try.func29, Try.ntmps29
  go_wp2
  go_ret
  exact ⟨by first | rfl | (simp [*, errW_none, errW_some] <;> rfl), bX HB.out⟩
 rw [if_neg c2] at H
 have c2b0 : decide (400 < (l0.length : Int)) = false := decide_eq_false c2
 have c2b1 : decide (400 < l0.length) = false := decide_eq_false (by omega)
 clear c2
 have H' := AM H
 clear H
 go_enter Try.func29, Try.ntmps29
 go_wp2
 go_loopg [10] k (fun kq v10 w' => ∃ (x10_1 : Int), v10 = .int .i64 x10_1 ∧ Aside0 (impl_areVotes.l0 kq l0 l0 (l0.length : Int) x10_1 = some r) ∧ Aside0 (kq ≤ k) ∧ Aside0 (Below w.heap.size w w'))
 case atStart => exact ⟨(0), (by first | rfl | (simp; done) | (simp [*]; done)), H', ⟨Nat.le_refl _⟩, ⟨bX HB.out⟩⟩
 case round =>
  clear H'
  (try clear c2); (try clear c2b0); (try clear c2b1); (try clear p2)
  obtain ⟨x10_1, rfl, HA, HK1, HB⟩ := hrel
  cases gk with
  | zero => exact absurd HA.out (by simp [impl_areVotes.l0])
  | succ k1 =>
   have H := HA.out
   clear HA
   simp only [impl_areVotes.l0] at H
   by_cases c3 : x10_1 < (l0.length : Int)
   ·
    rw [if_pos c3] at H
    have c3b0 : decide (x10_1 < (l0.length : Int)) = true := decide_eq_true c3
    clear c3
    by_cases c4 : 0 ≤ x10_1
    ·
     rw [if_pos c4] at H
     have c4b0 : decide (0 ≤ x10_1) = true := decide_eq_true c4
     clear c4
     by_cases c5 : x10_1 < (l0.length : Int)
     ·
      rw [if_pos c5] at H
      have c5b0 : decide (x10_1 < (l0.length : Int)) = true := decide_eq_true c5
      clear c5
      replace H := Option.bind_eq_some_iff.mp H
      obtain ⟨t103, A60, H⟩ := H
      replace H : (if t103 = true then ((impl_voteIndex.f l0 ((rd_T52 l0 x10_1).f0) ((rd_T52 l0 x10_1).f1) ((rd_T52 l0 x10_1).f2) ((rd_T52 l0 x10_1).f3) ((rd_T52 l0 x10_1).f4)).bind fun t104 => (if t104 < x10_1 then (some false) else (impl_areVotes.l0 k1 l0 l0 (l0.length : Int) (wrap64 (x10_1 + 1))))) else (some false)) = some r := H
      have A6 := AM A60
      clear A60
      by_cases c7 : t103 = true
      ·
       subst c7
       have H1 : ((impl_voteIndex.f l0 ((rd_T52 l0 x10_1).f0) ((rd_T52 l0 x10_1).f1) ((rd_T52 l0 x10_1).f2) ((rd_T52 l0 x10_1).f3) ((rd_T52 l0 x10_1).f4)).bind fun t104 => (if t104 < x10_1 then (some false) else (impl_areVotes.l0 k1 l0 l0 (l0.length : Int) (wrap64 (x10_1 + 1))))) = some r := by rw [if_pos rfl] at H; exact H
       clear H
       have H := H1
       clear H1
       replace H := Option.bind_eq_some_iff.mp H
       obtain ⟨t104, A80, H⟩ := H
       replace H : (if t104 < x10_1 then (some false) else (impl_areVotes.l0 k1 l0 l0 (l0.length : Int) (wrap64 (x10_1 + 1)))) = some r := H
       have A8 := AM A80
       clear A80
       by_cases c9 : t104 < x10_1
       ·
        rw [if_pos c9] at H
        have c9b0 : decide (t104 < x10_1) = true := decide_eq_true c9
        clear c9
        obtain rfl := Option.some.inj H
        have p101 : 0 ≤ (x10_1 : Int) := of_decide_eq_true (by assumption)
        have q101 : x10_1 < (l0.length : Int) := of_decide_eq_true (by assumption)
        obtain ⟨ad101, e101, hx101_0, hx101_1, hx101_2, hx101_3, hx101_4⟩ := at_T52 HR0.out x10_1 p101 q101
        cases e101
        replace hx101_0 := pw_cell_below HB.out hx101_0
        replace hx101_1 := pw_cell_below HB.out hx101_1
        replace hx101_2 := pw_cell_below HB.out hx101_2
        replace hx101_3 := pw_cell_below HB.out hx101_3
        replace hx101_4 := pw_cell_below HB.out hx101_4
        replace p101 := eq_true p101
        replace q101 := eq_true q101
        go_wp2_with (first | ((with_reducible refine gate_dst (N := 4) rfl ?_); refine box_event (by rfl) (N := 4) (by rfl) (cs := #[.int .i64 0, .int .i64 0, .int .i64 0, .string (⟨#[]⟩ : ByteArray), .int .i64 0]) (t := 52) (by first | (go_simp; done) | (go_simp; rfl)) ?_; intro gb102 hg w10 hbox hb; have _ := AM (below_step (bX HB.out) hb); have _ := AM (hbox); have n2_ := AM ((by rw [hg]; exact (bZ (bX HB.out)) : w.heap.size ≤ gb102)); clear HB; rename_i HB BK102; have GW102 := n2_; have GE102 := n2_; clear n2_; clear hb hbox hg; have hcz11 := q5 BK102.out; have hfz11 := fZ BK102.out) | ((with_reducible refine gate_callee (f := 48) rfl ?_); refine goesL_ (some 16) rfl rfl Try.func48 (by kernel_rfl) rfl #[.agg #[.int .i64 ((rd_T52 l0 x10_1).f0), .int .i64 ((rd_T52 l0 x10_1).f1), .int .i64 ((rd_T52 l0 x10_1).f2), .string ((rd_T52 l0 x10_1).f3), .int .i64 ((rd_T52 l0 x10_1).f4)]] rfl (by (try simp only [mA, mB, mC]); first | done | rfl | (simp only [mD, mE]; rfl)) ?_; (with_reducible refine (impl_isVote.calls ((rd_T52 l0 x10_1).f0) ((rd_T52 l0 x10_1).f1) ((rd_T52 l0 x10_1).f2) ((rd_T52 l0 x10_1).f3) ((rd_T52 l0 x10_1).f4) true _ A6.out).mono ?_); rintro e w12 ⟨rfl, hb⟩; refine ⟨_, rfl, ?_⟩; have _ := AM (blk_below (g := gb102) (o := .cells #[.int .i64 ((rd_T52 l0 x10_1).f0), .int .i64 ((rd_T52 l0 x10_1).f1), .int .i64 ((rd_T52 l0 x10_1).f2), .string ((rd_T52 l0 x10_1).f3), .int .i64 ((rd_T52 l0 x10_1).f4)] 52 (0, 0)) (by refine kP (cs := #[.int .i64 ((rd_T52 l0 x10_1).f0), .int .i64 ((rd_T52 l0 x10_1).f1), .int .i64 ((rd_T52 l0 x10_1).f2), .string ((rd_T52 l0 x10_1).f3), .int .i64 0]) 4 ?_; refine kP (cs := #[.int .i64 ((rd_T52 l0 x10_1).f0), .int .i64 ((rd_T52 l0 x10_1).f1), .int .i64 ((rd_T52 l0 x10_1).f2), .string (⟨#[]⟩ : ByteArray), .int .i64 0]) 3 ?_; refine kP (cs := #[.int .i64 ((rd_T52 l0 x10_1).f0), .int .i64 ((rd_T52 l0 x10_1).f1), .int .i64 0, .string (⟨#[]⟩ : ByteArray), .int .i64 0]) 2 ?_; refine kP (cs := #[.int .i64 ((rd_T52 l0 x10_1).f0), .int .i64 0, .int .i64 0, .string (⟨#[]⟩ : ByteArray), .int .i64 0]) 1 ?_; refine kP (cs := #[.int .i64 0, .int .i64 0, .int .i64 0, .string (⟨#[]⟩ : ByteArray), .int .i64 0]) 0 ?_; (with_reducible repeat (first | apply kN | apply kD | apply kA)); exact BK102.out) hb); have _ := AM (below_step (bX HB.out) hb); clear BK102 HB; rename_i BK102 HB; (try clear hb); (try clear hk); have hcz13 := q5 BK102.out; have hfz13 := fZ BK102.out) | (go_at_call 49; (with_reducible refine (impl_voteIndex.calls _ _ l0 ((rd_T52 l0 x10_1).f0) ((rd_T52 l0 x10_1).f1) ((rd_T52 l0 x10_1).f2) ((rd_T52 l0 x10_1).f3) ((rd_T52 l0 x10_1).f4) t104 _ ?side1 ?side2 A8.out).mono ?_); (case side1 => repeat (first | exact (cB HR0.out HB.out) | (with_reducible first | apply cA | apply cN | apply cD))); (case side2 => exact HC0.out); rintro e w14 ⟨rfl, hb⟩; have _ := AM (nB BK102.out hb); have _ := AM (below_step (bX HB.out) hb); clear BK102 HB; rename_i BK102 HB; (try clear hb); (try clear hk)))
        go_ret
        exact ⟨by first | rfl | (simp [*, errW_none, errW_some] <;> rfl), bX HB.out⟩
       rw [if_neg c9] at H
       have c9b0 : decide (t104 < x10_1) = false := decide_eq_false c9
       clear c9
       have H' := AM H
       clear H
       have p101 : 0 ≤ (x10_1 : Int) := of_decide_eq_true (by assumption)
       have q101 : x10_1 < (l0.length : Int) := of_decide_eq_true (by assumption)
       obtain ⟨ad101, e101, hx101_0, hx101_1, hx101_2, hx101_3, hx101_4⟩ := at_T52 HR0.out x10_1 p101 q101
       cases e101
       replace hx101_0 := pw_cell_below HB.out hx101_0
       replace hx101_1 := pw_cell_below HB.out hx101_1
       replace hx101_2 := pw_cell_below HB.out hx101_2
       replace hx101_3 := pw_cell_below HB.out hx101_3
       replace hx101_4 := pw_cell_below HB.out hx101_4
       replace p101 := eq_true p101
       replace q101 := eq_true q101
       go_wp2_with (first | ((with_reducible refine gate_dst (N := 4) rfl ?_); refine box_event (by rfl) (N := 4) (by rfl) (cs := #[.int .i64 0, .int .i64 0, .int .i64 0, .string (⟨#[]⟩ : ByteArray), .int .i64 0]) (t := 52) (by first | (go_simp; done) | (go_simp; rfl)) ?_; intro gb102 hg w15 hbox hb; have _ := AM (below_step (bX HB.out) hb); have _ := AM (hbox); have n2_ := AM ((by rw [hg]; exact (bZ (bX HB.out)) : w.heap.size ≤ gb102)); clear HB; rename_i HB BK102; have GW102 := n2_; have GE102 := n2_; clear n2_; clear hb hbox hg; have hcz16 := q5 BK102.out; have hfz16 := fZ BK102.out) | ((with_reducible refine gate_callee (f := 48) rfl ?_); refine goesL_ (some 16) rfl rfl Try.func48 (by kernel_rfl) rfl #[.agg #[.int .i64 ((rd_T52 l0 x10_1).f0), .int .i64 ((rd_T52 l0 x10_1).f1), .int .i64 ((rd_T52 l0 x10_1).f2), .string ((rd_T52 l0 x10_1).f3), .int .i64 ((rd_T52 l0 x10_1).f4)]] rfl (by (try simp only [mA, mB, mC]); first | done | rfl | (simp only [mD, mE]; rfl)) ?_; (with_reducible refine (impl_isVote.calls ((rd_T52 l0 x10_1).f0) ((rd_T52 l0 x10_1).f1) ((rd_T52 l0 x10_1).f2) ((rd_T52 l0 x10_1).f3) ((rd_T52 l0 x10_1).f4) true _ A6.out).mono ?_); rintro e w17 ⟨rfl, hb⟩; refine ⟨_, rfl, ?_⟩; have _ := AM (blk_below (g := gb102) (o := .cells #[.int .i64 ((rd_T52 l0 x10_1).f0), .int .i64 ((rd_T52 l0 x10_1).f1), .int .i64 ((rd_T52 l0 x10_1).f2), .string ((rd_T52 l0 x10_1).f3), .int .i64 ((rd_T52 l0 x10_1).f4)] 52 (0, 0)) (by refine kP (cs := #[.int .i64 ((rd_T52 l0 x10_1).f0), .int .i64 ((rd_T52 l0 x10_1).f1), .int .i64 ((rd_T52 l0 x10_1).f2), .string ((rd_T52 l0 x10_1).f3), .int .i64 0]) 4 ?_; refine kP (cs := #[.int .i64 ((rd_T52 l0 x10_1).f0), .int .i64 ((rd_T52 l0 x10_1).f1), .int .i64 ((rd_T52 l0 x10_1).f2), .string (⟨#[]⟩ : ByteArray), .int .i64 0]) 3 ?_; refine kP (cs := #[.int .i64 ((rd_T52 l0 x10_1).f0), .int .i64 ((rd_T52 l0 x10_1).f1), .int .i64 0, .string (⟨#[]⟩ : ByteArray), .int .i64 0]) 2 ?_; refine kP (cs := #[.int .i64 ((rd_T52 l0 x10_1).f0), .int .i64 0, .int .i64 0, .string (⟨#[]⟩ : ByteArray), .int .i64 0]) 1 ?_; refine kP (cs := #[.int .i64 0, .int .i64 0, .int .i64 0, .string (⟨#[]⟩ : ByteArray), .int .i64 0]) 0 ?_; (with_reducible repeat (first | apply kN | apply kD | apply kA)); exact BK102.out) hb); have _ := AM (below_step (bX HB.out) hb); clear BK102 HB; rename_i BK102 HB; (try clear hb); (try clear hk); have hcz18 := q5 BK102.out; have hfz18 := fZ BK102.out) | (go_at_call 49; (with_reducible refine (impl_voteIndex.calls _ _ l0 ((rd_T52 l0 x10_1).f0) ((rd_T52 l0 x10_1).f1) ((rd_T52 l0 x10_1).f2) ((rd_T52 l0 x10_1).f3) ((rd_T52 l0 x10_1).f4) t104 _ ?side1 ?side2 A8.out).mono ?_); (case side1 => repeat (first | exact (cB HR0.out HB.out) | (with_reducible first | apply cA | apply cN | apply cD))); (case side2 => exact HC0.out); rintro e w19 ⟨rfl, hb⟩; have _ := AM (nB BK102.out hb); have _ := AM (below_step (bX HB.out) hb); clear BK102 HB; rename_i BK102 HB; (try clear hb); (try clear hk)))
       go_roundg k1
       case measure => have := HK1.out; omega
       case rel => exact ⟨(wrap64 (x10_1 + 1)), (by first | rfl | (simp; done) | (simp [*]; done)), H', ⟨by have := HK1.out; omega⟩, ⟨bX HB.out⟩⟩
      replace c7 := Bool.eq_false_iff.mpr c7
      subst c7
      have H1 : (some false) = some r := by rw [if_neg (show ¬ (false = true) by decide)] at H; exact H
      clear H
      have H := H1
      clear H1
      obtain rfl := Option.some.inj H
      have p101 : 0 ≤ (x10_1 : Int) := of_decide_eq_true (by assumption)
      have q101 : x10_1 < (l0.length : Int) := of_decide_eq_true (by assumption)
      obtain ⟨ad101, e101, hx101_0, hx101_1, hx101_2, hx101_3, hx101_4⟩ := at_T52 HR0.out x10_1 p101 q101
      cases e101
      replace hx101_0 := pw_cell_below HB.out hx101_0
      replace hx101_1 := pw_cell_below HB.out hx101_1
      replace hx101_2 := pw_cell_below HB.out hx101_2
      replace hx101_3 := pw_cell_below HB.out hx101_3
      replace hx101_4 := pw_cell_below HB.out hx101_4
      replace p101 := eq_true p101
      replace q101 := eq_true q101
      go_wp2_with (first | ((with_reducible refine gate_dst (N := 4) rfl ?_); refine box_event (by rfl) (N := 4) (by rfl) (cs := #[.int .i64 0, .int .i64 0, .int .i64 0, .string (⟨#[]⟩ : ByteArray), .int .i64 0]) (t := 52) (by first | (go_simp; done) | (go_simp; rfl)) ?_; intro gb102 hg w20 hbox hb; have _ := AM (below_step (bX HB.out) hb); have _ := AM (hbox); have n2_ := AM ((by rw [hg]; exact (bZ (bX HB.out)) : w.heap.size ≤ gb102)); clear HB; rename_i HB BK102; have GW102 := n2_; have GE102 := n2_; clear n2_; clear hb hbox hg; have hcz21 := q5 BK102.out; have hfz21 := fZ BK102.out) | ((with_reducible refine gate_callee (f := 48) rfl ?_); refine goesL_ (some 16) rfl rfl Try.func48 (by kernel_rfl) rfl #[.agg #[.int .i64 ((rd_T52 l0 x10_1).f0), .int .i64 ((rd_T52 l0 x10_1).f1), .int .i64 ((rd_T52 l0 x10_1).f2), .string ((rd_T52 l0 x10_1).f3), .int .i64 ((rd_T52 l0 x10_1).f4)]] rfl (by (try simp only [mA, mB, mC]); first | done | rfl | (simp only [mD, mE]; rfl)) ?_; (with_reducible refine (impl_isVote.calls ((rd_T52 l0 x10_1).f0) ((rd_T52 l0 x10_1).f1) ((rd_T52 l0 x10_1).f2) ((rd_T52 l0 x10_1).f3) ((rd_T52 l0 x10_1).f4) false _ A6.out).mono ?_); rintro e w22 ⟨rfl, hb⟩; refine ⟨_, rfl, ?_⟩; have _ := AM (blk_below (g := gb102) (o := .cells #[.int .i64 ((rd_T52 l0 x10_1).f0), .int .i64 ((rd_T52 l0 x10_1).f1), .int .i64 ((rd_T52 l0 x10_1).f2), .string ((rd_T52 l0 x10_1).f3), .int .i64 ((rd_T52 l0 x10_1).f4)] 52 (0, 0)) (by refine kP (cs := #[.int .i64 ((rd_T52 l0 x10_1).f0), .int .i64 ((rd_T52 l0 x10_1).f1), .int .i64 ((rd_T52 l0 x10_1).f2), .string ((rd_T52 l0 x10_1).f3), .int .i64 0]) 4 ?_; refine kP (cs := #[.int .i64 ((rd_T52 l0 x10_1).f0), .int .i64 ((rd_T52 l0 x10_1).f1), .int .i64 ((rd_T52 l0 x10_1).f2), .string (⟨#[]⟩ : ByteArray), .int .i64 0]) 3 ?_; refine kP (cs := #[.int .i64 ((rd_T52 l0 x10_1).f0), .int .i64 ((rd_T52 l0 x10_1).f1), .int .i64 0, .string (⟨#[]⟩ : ByteArray), .int .i64 0]) 2 ?_; refine kP (cs := #[.int .i64 ((rd_T52 l0 x10_1).f0), .int .i64 0, .int .i64 0, .string (⟨#[]⟩ : ByteArray), .int .i64 0]) 1 ?_; refine kP (cs := #[.int .i64 0, .int .i64 0, .int .i64 0, .string (⟨#[]⟩ : ByteArray), .int .i64 0]) 0 ?_; (with_reducible repeat (first | apply kN | apply kD | apply kA)); exact BK102.out) hb); have _ := AM (below_step (bX HB.out) hb); clear BK102 HB; rename_i BK102 HB; (try clear hb); (try clear hk)))
      go_ret
      exact ⟨by first | rfl | (simp [*, errW_none, errW_some] <;> rfl), bX HB.out⟩
     rw [if_neg c5] at H
     exact absurd H (by simp)
    rw [if_neg c4] at H
    exact absurd H (by simp)
   rw [if_neg c3] at H
   have c3b0 : decide (x10_1 < (l0.length : Int)) = false := decide_eq_false c3
   clear c3
   obtain rfl := Option.some.inj H
   go_wp2
   go_ret
   exact ⟨by first | rfl | (simp [*, errW_none, errW_some] <;> rfl), bX HB.out⟩

/-! ### slices_Sort_string_string: function 81 (by hand) -/
def slices_Sort_string_string.f (l0 : List ByteArray) : Option (List ByteArray) := if l0.length < 4611686018427387904 then some (sortS l0) else none
theorem slices_Sort_string_string.calls (P0_ : Nat → Prop) (u9000_ : Value) (l0 : List ByteArray) (r : List ByteArray) (w0 w : World) (hB : Below w0.heap.size w0 w) (ho0 : Kd.R Kd.string 9 w w0.heap.size P0_ u9000_ l0) (h : slices_Sort_string_string.f l0 = some r) :
    Calls Try.prog 81 #[u9000_] w fun e w' => e = .returned (.tuple #[]) ∧ Kd.R Kd.string 9 w' w0.heap.size (fun k_ => (P0_ k_ ∨ w.heap.size ≤ k_)) u9000_ r ∧ Below w0.heap.size w0 w' ∧ Kept w w' (fun k_ => P0_ k_) := by
  unfold slices_Sort_string_string.f at h
  split at h
  · rename_i hlen
    obtain rfl := Option.some.inj h
    have hbase : w0.heap.size ≤ w.heap.size := hB.size
    have ho := Kd.own_of_R ho0
    rcases ho.2 with ⟨rfl, hn⟩ | ⟨g, cap, cur, rfl, hg, hh, hn, hm, hs, ht⟩
    · obtain rfl : l0 = [] := List.eq_nil_of_length_eq_zero hn
      refine (Try.slices_Sort_string_none none 0 w).mono ?_
      rintro e w' ⟨rfl, rfl⟩
      exact ⟨rfl, by simpa [sortS] using Kd.R_nil _ _ _ _ _, hB, Kept.refl _ _⟩
    · obtain ⟨c1, c2, c3, c4, c5⟩ := strs_cells ho0
      have hH := Lib.holds_of_strs c4 (fun j _ => c5 j)
      rw [strs_of] at hH
      have hl : (l0.map (·.data.toList)).length = l0.length := by simp
      have hc := Try.slices_Sort_string g 0 cap (l0.map (·.data.toList)) w hH c3 (by simpa using hlen)
      rw [hl] at hc
      refine hc.mono ?_
      rintro e w' ⟨rfl, q, os, rfl⟩
      obtain ⟨k1, k2, k3⟩ := strs_written (q := q) (os := os) (r := sortS l0) (ys := sortS l0) ho0 (sortS_len l0) (by simp) (by rw [sortS_len]; exact Nat.le_refl _)
      have e2 : Sort.putRow encStr (Sort.ahead w q) g 0 ((l0.map (·.data.toList)).mergeSort fun x y => decide (x ≤ y)).toArray = (w.drewN q).setCells g 0 ((sortS l0).map Value.string) := by
        rw [Lib.putRow_eq_setCells _ w g 0 _ _ q hH (by simp [List.length_mergeSort])]
        congr 1
        simp [sortS, Function.comp_def]
      rw [e2]
      rw [sortS_len] at k1
      refine ⟨rfl, Kd.R_mono k1 (fun _ hk => .inl hk), hB.grown k2 hbase (fun k hk => (Option.some.inj hk : g = k) ▸ k3), Kept.of_grown k2 (Kept.refl _ _) (fun k hk => .inl (ho0.1 k (by simpa [Value.ownBlock] using hk)))⟩
  · exact absurd h (by simp)


/-! ### slices_Compact_string_string: function 82 (by hand) -/
def slices_Compact_string_string.f (l0 : List ByteArray) : Option (List ByteArray) := some (compactS l0)
theorem slices_Compact_string_string.calls (P0_ : Nat → Prop) (u9000_ : Value) (l0 : List ByteArray) (r : List ByteArray) (w0 w : World) (hB : Below w0.heap.size w0 w) (ho0 : Kd.R Kd.string 9 w w0.heap.size P0_ u9000_ l0) (h : slices_Compact_string_string.f l0 = some r) :
    Calls Try.prog 82 #[u9000_] w fun e w' => ∃ v0_ : Value, e = .returned (v0_) ∧ Kd.R Kd.string 9 w' w0.heap.size (fun k_ => (P0_ k_ ∨ w.heap.size ≤ k_)) v0_ r ∧ Below w0.heap.size w0 w' ∧ Kept w w' (fun k_ => P0_ k_) := by
  obtain rfl := Option.some.inj h
  have hbase : w0.heap.size ≤ w.heap.size := hB.size
  have ho := Kd.own_of_R ho0
  rcases ho.2 with ⟨rfl, hn⟩ | ⟨g, cap, cur, rfl, hg, hh, hn, hm, hs, ht⟩
  · obtain rfl : l0 = [] := List.eq_nil_of_length_eq_zero hn
    refine (Try.slices_Compact_string_empty none 0 w).mono ?_
    rintro e w' ⟨rfl, rfl⟩
    exact ⟨_, rfl, Kd.R_nil _ _ _ _ _, hB, Kept.refl _ _⟩
  · obtain ⟨c1, c2, c3, c4, c5⟩ := strs_cells ho0
    refine (Try.slices_Compact_string_cells g 0 l0.length cap (fun i => l0.getD i ⟨#[]⟩) w (by unfold maxLen at c2; omega) c1 c4 (fun j _ => c5 j)).mono ?_
    rintro e w' ⟨rfl, q, rfl⟩
    have hle := compactS_len l0
    have e1 : (Lib.compact (Lib.strsOf (fun i => l0.getD i ⟨#[]⟩) l0.length)).length = (compactS l0).length := by rw [strs_of]; simp [compactS]
    obtain ⟨k1, k2, k3⟩ := strs_written (q := q) (os := #[]) (r := compactS l0) (ys := compactS l0 ++ List.replicate (l0.length - (compactS l0).length) (⟨#[]⟩ : ByteArray)) ho0 (by simp; omega) (by simp) hle
    have e2 : (w.drewN q).setCells g 0 ((Lib.compact (Lib.strsOf (fun i => l0.getD i ⟨#[]⟩) l0.length) ++ List.replicate (l0.length - (Lib.compact (Lib.strsOf (fun i => l0.getD i ⟨#[]⟩) l0.length)).length) []).map encStr) = Sort.grow ((w.drewN q).setCells g 0 ((compactS l0 ++ List.replicate (l0.length - (compactS l0).length) (⟨#[]⟩ : ByteArray)).map Value.string)) #[] := by
      rw [Sort.grow_empty, e1, strs_of]
      congr 1
      simp [compactS, List.map_replicate, Function.comp_def]
    rw [e2, e1]
    refine ⟨_, rfl, Kd.R_mono k1 (fun _ hk => .inl hk), hB.grown k2 hbase (fun k hk => (Option.some.inj hk : g = k) ▸ k3), Kept.of_grown k2 (Kept.refl _ _) (fun k hk => .inl (ho0.1 k (by simpa [Value.ownBlock] using hk)))⟩


/-! ### impl_opsOf: function 77 -/

def impl_opsOf.l0 : Nat → Int → Int → Int → List ByteArray → List (S52) → Int → Int → Option (List ByteArray)
  | 0, _, _, _, _, _, _, _ => none
  | k + 1, x1, x2, x3, x9, x12, x13, x14 => if x14 < x13 then (if 0 ≤ x14 then (if x14 < (x12.length : Int) then (if ((rd_T52 x12 x14).f0) = x1 then (if ((rd_T52 x12 x14).f1) = x2 then (if ((rd_T52 x12 x14).f2) = x3 then (if x9.length < 8796093022208 then (impl_opsOf.l0 k x1 x2 x3 (x9 ++ [(rd_T52 x12 x14).f3]) x12 x13 (wrap64 (x14 + 1))) else (none)) else (impl_opsOf.l0 k x1 x2 x3 x9 x12 x13 (wrap64 (x14 + 1)))) else (impl_opsOf.l0 k x1 x2 x3 x9 x12 x13 (wrap64 (x14 + 1)))) else (impl_opsOf.l0 k x1 x2 x3 x9 x12 x13 (wrap64 (x14 + 1)))) else (none)) else (none)) else ((slices_Sort_string_string.f x9).bind fun t106 => ((slices_Compact_string_string.f t106).bind fun t107 => (some t107)))
def impl_opsOf.f (k : Nat) (l0 : List (S52)) (a1 : Int) (a2 : Int) (a3 : Int) : Option (List ByteArray) := impl_opsOf.l0 k a1 a2 a3 ([] : List ByteArray) l0 (l0.length : Int) 0
theorem impl_opsOf.mono_l : ∀ k, (∀ y0 y1 y2 y3 y4 y5 y6, LeO (impl_opsOf.l0 k y0 y1 y2 y3 y4 y5 y6) (impl_opsOf.l0 (k + 1) y0 y1 y2 y3 y4 y5 y6))
  | 0 => fun _ _ _ _ _ _ _ r h => by simp [impl_opsOf.l0] at h
  | k + 1 => by
    have ih0 := impl_opsOf.mono_l k
    · intro y0 y1 y2 y3 y4 y5 y6
      unfold impl_opsOf.l0
      repeat' first
      | (with_reducible exact ih0 _ _ _ _ _ _ _)
      | (with_reducible exact LeO.refl _)
      | (with_reducible exact LeO.none _)
      | (with_reducible refine LeO.ite ?_ ?_)
      | (with_reducible refine LeO.bind ?_ (fun _ => ?_))
      | exact ih0 _ _ _ _ _ _ _
      | exact LeO.none _
      | refine LeO.ite ?_ ?_
      | refine LeO.bind ?_ (fun _ => ?_)
theorem impl_opsOf.mono : ∀ a0 a1 a2 a3 k, LeO (impl_opsOf.f k a0 a1 a2 a3) (impl_opsOf.f (k + 1) a0 a1 a2 a3) := by
  intro a0 a1 a2 a3 k
  have ih0 := impl_opsOf.mono_l k
  unfold impl_opsOf.f
  repeat' first
      | (with_reducible exact ih0 _ _ _ _ _ _ _)
      | (with_reducible exact LeO.refl _)
      | (with_reducible exact LeO.none _)
      | (with_reducible refine LeO.ite ?_ ?_)
      | (with_reducible refine LeO.bind ?_ (fun _ => ?_))
      | exact ih0 _ _ _ _ _ _ _
      | exact LeO.none _
      | refine LeO.ite ?_ ?_
      | refine LeO.bind ?_ (fun _ => ?_)
set_option maxHeartbeats 60000000 in
set_option maxRecDepth 100000 in
theorem impl_opsOf.calls (k : Nat) (A0 : Option Addr) (c0 : Nat) (l0 : List (S52)) (a1 : Int) (a2 : Int) (a3 : Int) (r : List ByteArray) (w : World) (hr0 : Kd.C k52 w A0 l0.length l0) (hc0 : l0.length ≤ c0) (h : impl_opsOf.f k l0 a1 a2 a3 = some r) :
    Calls Try.prog 77 #[.slice A0 l0.length c0, .int .i64 a1, .int .i64 a2, .int .i64 a3] w fun e w' => ∃ v0_ : Value, e = .returned (v0_) ∧ Kd.R Kd.string 9 w' w.heap.size (fun _ => True) v0_ r ∧ Below w.heap.size w w' := by
 have hu52 := Try.underlying52
 have HR0 := AM hr0
 have HC0 := AM hc0
 clear hr0 hc0
 have HB := AM (Below.refl w.heap.size w)
 have H : (impl_opsOf.l0 k a1 a2 a3 ([] : List ByteArray) l0 (l0.length : Int) 0) = some r := h
 clear h
 have H' := AM H
 clear H
 go_enter Try.func77, Try.ntmps77
 go_wp2
 go_loopg [9, 14] k (fun kq v9 v14 w' => ∃ (x9_1 : List ByteArray) (x14_1 : Int), v14 = .int .i64 x14_1 ∧ Aside0 (impl_opsOf.l0 kq a1 a2 a3 x9_1 l0 (l0.length : Int) x14_1 = some r) ∧ Aside0 (kq ≤ k) ∧ Aside0 (Kd.R Kd.string 9 w' w.heap.size (fun _ => True) v9 x9_1) ∧ Aside0 (Below w.heap.size w w'))
 case atStart => exact ⟨(([] : List ByteArray)), (0), (by first | rfl | (simp; done) | (simp [*]; done)), H', ⟨Nat.le_refl _⟩, ⟨by first | exact Kd.R_nil _ _ _ _ _ | exact Kd.N_nil _ _ _ _ _ | exact Kd.V_nil _ _ _ _ _ | exact Kd.Q_nil _ _ _ _ _ | exact Kd.S_nil _ _ _ _ _⟩, ⟨bX HB.out⟩⟩
 case round =>
  clear H'
  try clear p2
  obtain ⟨x9_1, x14_1, rfl, HA, HK1, HO_9, HB⟩ := hrel
  cases gk with
  | zero => exact absurd HA.out (by simp [impl_opsOf.l0])
  | succ k1 =>
   have H := HA.out
   clear HA
   simp only [impl_opsOf.l0] at H
   by_cases c5 : x14_1 < (l0.length : Int)
   ·
    rw [if_pos c5] at H
    have c5b0 : decide (x14_1 < (l0.length : Int)) = true := decide_eq_true c5
    clear c5
    by_cases c6 : 0 ≤ x14_1
    ·
     rw [if_pos c6] at H
     have c6b0 : decide (0 ≤ x14_1) = true := decide_eq_true c6
     clear c6
     by_cases c7 : x14_1 < (l0.length : Int)
     ·
      rw [if_pos c7] at H
      have c7b0 : decide (x14_1 < (l0.length : Int)) = true := decide_eq_true c7
      clear c7
      by_cases c8 : ((rd_T52 l0 x14_1).f0) = a1
      ·
       rw [if_pos c8] at H
       have c8b0 : (((rd_T52 l0 x14_1).f0) == a1) = true := beq_iff_eq.mpr c8
       have c8b1 : (((rd_T52 l0 x14_1).f0) != a1) = false := bne_eq_false_iff_eq.mpr c8
       clear c8
       by_cases c9 : ((rd_T52 l0 x14_1).f1) = a2
       ·
        rw [if_pos c9] at H
        have c9b0 : (((rd_T52 l0 x14_1).f1) == a2) = true := beq_iff_eq.mpr c9
        have c9b1 : (((rd_T52 l0 x14_1).f1) != a2) = false := bne_eq_false_iff_eq.mpr c9
        clear c9
        by_cases c10 : ((rd_T52 l0 x14_1).f2) = a3
        ·
         rw [if_pos c10] at H
         have c10b0 : (((rd_T52 l0 x14_1).f2) == a3) = true := beq_iff_eq.mpr c10
         have c10b1 : (((rd_T52 l0 x14_1).f2) != a3) = false := bne_eq_false_iff_eq.mpr c10
         clear c10
         by_cases c11 : x9_1.length < 8796093022208
         ·
          rw [if_pos c11] at H
          have LMc11 := AM c11
          clear c11
          obtain ⟨y103, hy103⟩ : ∃ y_ : List ByteArray, y_ = (x9_1 ++ [(rd_T52 l0 x14_1).f3]) := ⟨_, rfl⟩
          replace H : (impl_opsOf.l0 k1 a1 a2 a3 y103 l0 (l0.length : Int) (wrap64 (x14_1 + 1))) = some r := by first | (rw [hy103]; with_reducible exact H) | (have H2_ := (Option.bind_some _ _).symm.trans H; rw [hy103]; with_reducible exact H2_) | (have H2_ := (Option.bind_some _ _).symm.trans H; with_reducible exact H2_) | with_reducible exact H | (rw [hy103]; exact H) | exact H
          have Ny103 := AM hy103
          clear hy103
          have H' := AM H
          clear H
          have p101 : 0 ≤ (x14_1 : Int) := of_decide_eq_true (by assumption)
          have q101 : x14_1 < (l0.length : Int) := of_decide_eq_true (by assumption)
          obtain ⟨ad101, e101, hx101_0, hx101_1, hx101_2, hx101_3, hx101_4⟩ := at_T52 HR0.out x14_1 p101 q101
          cases e101
          replace hx101_0 := pw_cell_below HB.out hx101_0
          replace hx101_1 := pw_cell_below HB.out hx101_1
          replace hx101_2 := pw_cell_below HB.out hx101_2
          replace hx101_3 := pw_cell_below HB.out hx101_3
          replace hx101_4 := pw_cell_below HB.out hx101_4
          replace p101 := eq_true p101
          replace q101 := eq_true q101
          go_wp2_with (first | ((with_reducible refine gate_dst (N := 11) rfl ?_); refine box_event (by rfl) (N := 11) (by rfl) (cs := #[.int .i64 0, .int .i64 0, .int .i64 0, .string (⟨#[]⟩ : ByteArray), .int .i64 0]) (t := 52) (by first | (go_simp; done) | (go_simp; rfl)) ?_; intro gb102 hg w12 hbox hb; have _ := AM (Kd.R_below (rX HO_9.out) hb); have _ := AM (below_step (bX HB.out) hb); have _ := AM (hbox); have n3_ := AM ((by rw [hg]; exact (bZ (bX HB.out)) : w.heap.size ≤ gb102)); clear HO_9 HB; rename_i HO_9 HB BK102; have GW102 := n3_; have GE102 := n3_; clear n3_; clear hb hbox hg; have hcz13 := q5 BK102.out; have hfz13 := fZ BK102.out) | ((with_reducible refine gate_builtin (b := .append) (xs := #[.tmp 34, .tmp 37]) rfl ?_); at_builtin; refine Kd.R_append Kd.string (w0 := w) w.heap.size rfl (.tmp 34) (.tmp 37) 92 9 (.string ⟨#[]⟩) 16 rfl Try.underlying92 info9 rfl (by decide) (by omega) u9 x9_1 ((rd_T52 l0 x14_1).f3) [.string ((rd_T52 l0 x14_1).f3)] (fun _ => True) (fun _ => False) rfl (by first | (go_simp; done) | (go_simp; rfl)) ?aP (fun _ hk => hk.elim) ?aF ?aO ?aB ?aS ?aL ?_; (case aP => exact rfl); (case aB => exact (bX HB.out)); (case aF => exact (fun _ _ => trivial)); (case aO => exact (by (with_reducible repeat (first | apply rA | apply rN | apply rD)); exact Kd.R_mono (Kd.R_far (p := ⟨gb102, 4, none⟩) (Kd.R_far (p := ⟨gb102, 3, none⟩) (Kd.R_far (p := ⟨gb102, 2, none⟩) (Kd.R_far (p := ⟨gb102, 1, none⟩) (Kd.R_far (p := ⟨gb102, 0, none⟩) (Kd.R_types HO_9.out BK102.out (by decide)) (fun _ hk => hk.2) (.int .i64 ((rd_T52 l0 x14_1).f0))) (fun _ hk => hk.2) (.int .i64 ((rd_T52 l0 x14_1).f1))) (fun _ hk => hk.2) (.int .i64 ((rd_T52 l0 x14_1).f2))) (fun _ hk => hk.2) (.string ((rd_T52 l0 x14_1).f3))) (fun _ hk => hk.2) (.int .i64 ((rd_T52 l0 x14_1).f4))) (fun _ hk => trivial))); (case aS => exact (bZ (bX HB.out))); (case aL => have := LMc11.out; omega); intro v104 w14 ho hb hg hat; rw [← Ny103.out] at ho; have _ := AM (blk_grown (g := gb102) (o := .cells #[.int .i64 ((rd_T52 l0 x14_1).f0), .int .i64 ((rd_T52 l0 x14_1).f1), .int .i64 ((rd_T52 l0 x14_1).f2), .string ((rd_T52 l0 x14_1).f3), .int .i64 ((rd_T52 l0 x14_1).f4)] 52 (0, 0)) (by refine kP (cs := #[.int .i64 ((rd_T52 l0 x14_1).f0), .int .i64 ((rd_T52 l0 x14_1).f1), .int .i64 ((rd_T52 l0 x14_1).f2), .string ((rd_T52 l0 x14_1).f3), .int .i64 0]) 4 ?_; refine kP (cs := #[.int .i64 ((rd_T52 l0 x14_1).f0), .int .i64 ((rd_T52 l0 x14_1).f1), .int .i64 ((rd_T52 l0 x14_1).f2), .string (⟨#[]⟩ : ByteArray), .int .i64 0]) 3 ?_; refine kP (cs := #[.int .i64 ((rd_T52 l0 x14_1).f0), .int .i64 ((rd_T52 l0 x14_1).f1), .int .i64 0, .string (⟨#[]⟩ : ByteArray), .int .i64 0]) 2 ?_; refine kP (cs := #[.int .i64 ((rd_T52 l0 x14_1).f0), .int .i64 0, .int .i64 0, .string (⟨#[]⟩ : ByteArray), .int .i64 0]) 1 ?_; refine kP (cs := #[.int .i64 0, .int .i64 0, .int .i64 0, .string (⟨#[]⟩ : ByteArray), .int .i64 0]) 0 ?_; (with_reducible repeat (first | apply kN | apply kD | apply kA)); exact BK102.out) hg (Kd.R_ne HO_9.out BK102.out (by decide))); have _ := AM (hb); have _ := AM (ho); clear BK102 HB HO_9; rename_i BK102 HB HO105; clear ho hb hg hat))
          go_roundg k1
          case measure => have := HK1.out; omega
          case rel => exact ⟨(y103), (wrap64 (x14_1 + 1)), (by first | rfl | (simp; done) | (simp [*]; done)), H', ⟨by have := HK1.out; omega⟩, ⟨rX HO105.out⟩, ⟨bX HB.out⟩⟩
         rw [if_neg c11] at H
         exact absurd H (by simp)
        rw [if_neg c10] at H
        have c10b0 : (((rd_T52 l0 x14_1).f2) == a3) = false := beq_eq_false_iff_ne.mpr c10
        have c10b1 : (((rd_T52 l0 x14_1).f2) != a3) = true := bne_iff_ne.mpr c10
        have H' := AM H
        clear H
        have p101 : 0 ≤ (x14_1 : Int) := of_decide_eq_true (by assumption)
        have q101 : x14_1 < (l0.length : Int) := of_decide_eq_true (by assumption)
        obtain ⟨ad101, e101, hx101_0, hx101_1, hx101_2, hx101_3, hx101_4⟩ := at_T52 HR0.out x14_1 p101 q101
        cases e101
        replace hx101_0 := pw_cell_below HB.out hx101_0
        replace hx101_1 := pw_cell_below HB.out hx101_1
        replace hx101_2 := pw_cell_below HB.out hx101_2
        replace hx101_3 := pw_cell_below HB.out hx101_3
        replace hx101_4 := pw_cell_below HB.out hx101_4
        replace p101 := eq_true p101
        replace q101 := eq_true q101
        go_wp2_with (first | ((with_reducible refine gate_dst (N := 11) rfl ?_); refine box_event (by rfl) (N := 11) (by rfl) (cs := #[.int .i64 0, .int .i64 0, .int .i64 0, .string (⟨#[]⟩ : ByteArray), .int .i64 0]) (t := 52) (by first | (go_simp; done) | (go_simp; rfl)) ?_; intro gb102 hg w15 hbox hb; have _ := AM (Kd.R_below (rX HO_9.out) hb); have _ := AM (below_step (bX HB.out) hb); have _ := AM (hbox); have n3_ := AM ((by rw [hg]; exact (bZ (bX HB.out)) : w.heap.size ≤ gb102)); clear HO_9 HB; rename_i HO_9 HB BK102; have GW102 := n3_; have GE102 := n3_; clear n3_; clear hb hbox hg; have hcz16 := q5 BK102.out; have hfz16 := fZ BK102.out))
        go_roundg k1
        case measure => have := HK1.out; omega
        case rel => exact ⟨(x9_1), (wrap64 (x14_1 + 1)), (by first | rfl | (simp; done) | (simp [*]; done)), H', ⟨by have := HK1.out; omega⟩, ⟨by (with_reducible repeat (first | apply rA | apply rN | apply rD)); exact Kd.R_mono (Kd.R_far (p := ⟨gb102, 4, none⟩) (Kd.R_far (p := ⟨gb102, 3, none⟩) (Kd.R_far (p := ⟨gb102, 2, none⟩) (Kd.R_far (p := ⟨gb102, 1, none⟩) (Kd.R_far (p := ⟨gb102, 0, none⟩) (Kd.R_types HO_9.out BK102.out (by decide)) (fun _ hk => hk.2) (.int .i64 ((rd_T52 l0 x14_1).f0))) (fun _ hk => hk.2) (.int .i64 ((rd_T52 l0 x14_1).f1))) (fun _ hk => hk.2) (.int .i64 ((rd_T52 l0 x14_1).f2))) (fun _ hk => hk.2) (.string ((rd_T52 l0 x14_1).f3))) (fun _ hk => hk.2) (.int .i64 ((rd_T52 l0 x14_1).f4))) (fun _ hk => trivial)⟩, ⟨bX HB.out⟩⟩
       rw [if_neg c9] at H
       have c9b0 : (((rd_T52 l0 x14_1).f1) == a2) = false := beq_eq_false_iff_ne.mpr c9
       have c9b1 : (((rd_T52 l0 x14_1).f1) != a2) = true := bne_iff_ne.mpr c9
       have H' := AM H
       clear H
       have p101 : 0 ≤ (x14_1 : Int) := of_decide_eq_true (by assumption)
       have q101 : x14_1 < (l0.length : Int) := of_decide_eq_true (by assumption)
       obtain ⟨ad101, e101, hx101_0, hx101_1, hx101_2, hx101_3, hx101_4⟩ := at_T52 HR0.out x14_1 p101 q101
       cases e101
       replace hx101_0 := pw_cell_below HB.out hx101_0
       replace hx101_1 := pw_cell_below HB.out hx101_1
       replace hx101_2 := pw_cell_below HB.out hx101_2
       replace hx101_3 := pw_cell_below HB.out hx101_3
       replace hx101_4 := pw_cell_below HB.out hx101_4
       replace p101 := eq_true p101
       replace q101 := eq_true q101
       go_wp2_with (first | ((with_reducible refine gate_dst (N := 11) rfl ?_); refine box_event (by rfl) (N := 11) (by rfl) (cs := #[.int .i64 0, .int .i64 0, .int .i64 0, .string (⟨#[]⟩ : ByteArray), .int .i64 0]) (t := 52) (by first | (go_simp; done) | (go_simp; rfl)) ?_; intro gb102 hg w17 hbox hb; have _ := AM (Kd.R_below (rX HO_9.out) hb); have _ := AM (below_step (bX HB.out) hb); have _ := AM (hbox); have n3_ := AM ((by rw [hg]; exact (bZ (bX HB.out)) : w.heap.size ≤ gb102)); clear HO_9 HB; rename_i HO_9 HB BK102; have GW102 := n3_; have GE102 := n3_; clear n3_; clear hb hbox hg; have hcz18 := q5 BK102.out; have hfz18 := fZ BK102.out))
       go_roundg k1
       case measure => have := HK1.out; omega
       case rel => exact ⟨(x9_1), (wrap64 (x14_1 + 1)), (by first | rfl | (simp; done) | (simp [*]; done)), H', ⟨by have := HK1.out; omega⟩, ⟨by (with_reducible repeat (first | apply rA | apply rN | apply rD)); exact Kd.R_mono (Kd.R_far (p := ⟨gb102, 4, none⟩) (Kd.R_far (p := ⟨gb102, 3, none⟩) (Kd.R_far (p := ⟨gb102, 2, none⟩) (Kd.R_far (p := ⟨gb102, 1, none⟩) (Kd.R_far (p := ⟨gb102, 0, none⟩) (Kd.R_types HO_9.out BK102.out (by decide)) (fun _ hk => hk.2) (.int .i64 ((rd_T52 l0 x14_1).f0))) (fun _ hk => hk.2) (.int .i64 ((rd_T52 l0 x14_1).f1))) (fun _ hk => hk.2) (.int .i64 ((rd_T52 l0 x14_1).f2))) (fun _ hk => hk.2) (.string ((rd_T52 l0 x14_1).f3))) (fun _ hk => hk.2) (.int .i64 ((rd_T52 l0 x14_1).f4))) (fun _ hk => trivial)⟩, ⟨bX HB.out⟩⟩
      rw [if_neg c8] at H
      have c8b0 : (((rd_T52 l0 x14_1).f0) == a1) = false := beq_eq_false_iff_ne.mpr c8
      have c8b1 : (((rd_T52 l0 x14_1).f0) != a1) = true := bne_iff_ne.mpr c8
      have H' := AM H
      clear H
      have p101 : 0 ≤ (x14_1 : Int) := of_decide_eq_true (by assumption)
      have q101 : x14_1 < (l0.length : Int) := of_decide_eq_true (by assumption)
      obtain ⟨ad101, e101, hx101_0, hx101_1, hx101_2, hx101_3, hx101_4⟩ := at_T52 HR0.out x14_1 p101 q101
      cases e101
      replace hx101_0 := pw_cell_below HB.out hx101_0
      replace hx101_1 := pw_cell_below HB.out hx101_1
      replace hx101_2 := pw_cell_below HB.out hx101_2
      replace hx101_3 := pw_cell_below HB.out hx101_3
      replace hx101_4 := pw_cell_below HB.out hx101_4
      replace p101 := eq_true p101
      replace q101 := eq_true q101
      go_wp2_with (first | ((with_reducible refine gate_dst (N := 11) rfl ?_); refine box_event (by rfl) (N := 11) (by rfl) (cs := #[.int .i64 0, .int .i64 0, .int .i64 0, .string (⟨#[]⟩ : ByteArray), .int .i64 0]) (t := 52) (by first | (go_simp; done) | (go_simp; rfl)) ?_; intro gb102 hg w19 hbox hb; have _ := AM (Kd.R_below (rX HO_9.out) hb); have _ := AM (below_step (bX HB.out) hb); have _ := AM (hbox); have n3_ := AM ((by rw [hg]; exact (bZ (bX HB.out)) : w.heap.size ≤ gb102)); clear HO_9 HB; rename_i HO_9 HB BK102; have GW102 := n3_; have GE102 := n3_; clear n3_; clear hb hbox hg; have hcz20 := q5 BK102.out; have hfz20 := fZ BK102.out))
      go_roundg k1
      case measure => have := HK1.out; omega
      case rel => exact ⟨(x9_1), (wrap64 (x14_1 + 1)), (by first | rfl | (simp; done) | (simp [*]; done)), H', ⟨by have := HK1.out; omega⟩, ⟨by (with_reducible repeat (first | apply rA | apply rN | apply rD)); exact Kd.R_mono (Kd.R_far (p := ⟨gb102, 4, none⟩) (Kd.R_far (p := ⟨gb102, 3, none⟩) (Kd.R_far (p := ⟨gb102, 2, none⟩) (Kd.R_far (p := ⟨gb102, 1, none⟩) (Kd.R_far (p := ⟨gb102, 0, none⟩) (Kd.R_types HO_9.out BK102.out (by decide)) (fun _ hk => hk.2) (.int .i64 ((rd_T52 l0 x14_1).f0))) (fun _ hk => hk.2) (.int .i64 ((rd_T52 l0 x14_1).f1))) (fun _ hk => hk.2) (.int .i64 ((rd_T52 l0 x14_1).f2))) (fun _ hk => hk.2) (.string ((rd_T52 l0 x14_1).f3))) (fun _ hk => hk.2) (.int .i64 ((rd_T52 l0 x14_1).f4))) (fun _ hk => trivial)⟩, ⟨bX HB.out⟩⟩
     rw [if_neg c7] at H
     exact absurd H (by simp)
    rw [if_neg c6] at H
    exact absurd H (by simp)
   rw [if_neg c5] at H
   have c5b0 : decide (x14_1 < (l0.length : Int)) = false := decide_eq_false c5
   clear c5
   replace H := Option.bind_eq_some_iff.mp H
   obtain ⟨t106, A210, H⟩ := H
   replace H : ((slices_Compact_string_string.f t106).bind fun t107 => (some t107)) = some r := H
   have A21 := AM A210
   clear A210
   replace H := Option.bind_eq_some_iff.mp H
   obtain ⟨t107, A220, H⟩ := H
   replace H : (some t107) = some r := H
   have A22 := AM A220
   clear A220
   obtain rfl := Option.some.inj H
   obtain ⟨Ao23, co23, eo23⟩ := Kd.R_slice HO_9.out
   subst eo23
   go_wp2_with (first | ((with_reducible refine gate_callee (f := 81) rfl ?_); refine goesL_ (some 41) rfl rfl Try.func81 (by kernel_rfl) rfl #[.slice Ao23 x9_1.length co23] rfl (by (try simp only [mA, mB, mC]); first | done | rfl | (simp only [mD, mE]; rfl)) ?_; (with_reducible refine (slices_Sort_string_string.calls (fun k_ => some k_ = (.slice Ao23 x9_1.length co23 : Value).ownBlock) (.slice Ao23 x9_1.length co23) x9_1 t106 w _ ?side1 ?side2 A21.out).mono ?_); (case side1 => exact (bX HB.out)); (case side2 => exact Kd.R_tight rfl HO_9.out); rintro e w24 ⟨rfl, hy0, hb, hkp⟩; refine ⟨_, rfl, ?_⟩; have _ := AM (Kd.R_reok rfl hy0 (fun k_ e_ => HO_9.out.1 k_ e_)); have _ := AM (hb); clear HO_9 HB; rename_i HO_9 HB; (try clear hb); (try clear hkp); (try clear hy0)) | ((with_reducible refine gate_callee (f := 82) rfl ?_); refine goesL_ (some 43) rfl rfl Try.func82 (by kernel_rfl) rfl #[.slice Ao23 x9_1.length co23] rfl (by (try simp only [mA, mB, mC]); first | done | rfl | (simp only [mD, mE]; rfl)) ?_; (with_reducible refine (slices_Compact_string_string.calls (fun k_ => some k_ = (.slice Ao23 x9_1.length co23 : Value).ownBlock) (.slice Ao23 x9_1.length co23) t106 t107 w _ ?side1 ?side2 A22.out).mono ?_); (case side1 => exact (bX HB.out)); (case side2 => exact Kd.R_tight rfl HO_9.out); rintro e w25 ⟨v108, rfl, ho0, hb, hkp⟩; refine ⟨_, rfl, ?_⟩; have _ := AM (Kd.R_mono (ok' := fun k_ => True) ho0 (fun k_ hk_ => trivial)); have _ := AM (hb); clear HB HO_9; rename_i HO109 HB; (try clear hb); (try clear hkp); (try clear ho0)))
   go_ret
   exact ⟨_, by first | rfl | (simp [*, errW_none, errW_some] <;> rfl), rX HO109.out, bX HB.out⟩

/-! ### bits_Len: function 85 (by hand) -/
def bits_Len.f (a0 : Int) : Option Int := if 0 ≤ a0 ∧ a0 ≤ 18446744073709551615 then some (Lib.bitLen a0.toNat : Int) else none
theorem bits_Len.calls (a0 : Int) (r : Int) (w : World) (h : bits_Len.f a0 = some r) :
    Calls Try.prog 85 #[.int .u64 a0] w fun e w' => e = .returned (.int .i64 r) ∧ Drawn0 w w' := by
  unfold bits_Len.f at h
  split at h
  · rename_i hc
    obtain rfl := Option.some.inj h
    exact (Go.Proofs.Try.bits_Len a0 w hc.1 hc.2).mono (fun e w' he => ⟨he.1, he.2 ▸ Drawn0.refl _⟩)
  · exact absurd h (by simp)


/-! ### cmp_isNaN_int64: function 118 -/

def cmp_isNaN_int64.f (a0 : Int) : Option (Bool) := some (a0 != a0)
set_option maxHeartbeats 60000000 in
set_option maxRecDepth 100000 in
theorem cmp_isNaN_int64.calls (a0 : Int) (r : Bool) (w : World) (h : cmp_isNaN_int64.f a0 = some r) :
    Calls Try.prog 118 #[.int .i64 a0] w fun e w' => e = .returned (.bool r) ∧ Drawn0 w w' := by
 have H : (some (a0 != a0)) = some r := h
 clear h
 obtain rfl := Option.some.inj H
 go_enter Try.func118, Try.ntmps118
 go_wp2
 go_ret
 exact ⟨by first | rfl | (simp; done) | (simp [*]; done), by repeat (first | exact Drawn0.refl _ | apply Drawn0.step)⟩

/-! ### cmp_Less_int64: function 111 -/

def cmp_Less_int64.f (a0 : Int) (a1 : Int) : Option (Bool) := (cmp_isNaN_int64.f a0).bind fun t101 => (if t101 = true then ((cmp_isNaN_int64.f a1).bind fun t102 => (if t102 = true then (some (decide (a0 < a1))) else (some true))) else (some (decide (a0 < a1))))
set_option maxHeartbeats 60000000 in
set_option maxRecDepth 100000 in
theorem cmp_Less_int64.calls (a0 : Int) (a1 : Int) (r : Bool) (w : World) (h : cmp_Less_int64.f a0 a1 = some r) :
    Calls Try.prog 111 #[.int .i64 a0, .int .i64 a1] w fun e w' => e = .returned (.bool r) ∧ Drawn0 w w' := by
 have H : ((cmp_isNaN_int64.f a0).bind fun t101 => (if t101 = true then ((cmp_isNaN_int64.f a1).bind fun t102 => (if t102 = true then (some (decide (a0 < a1))) else (some true))) else (some (decide (a0 < a1))))) = some r := h
 clear h
 replace H := Option.bind_eq_some_iff.mp H
 obtain ⟨t101, A30, H⟩ := H
 replace H : (if t101 = true then ((cmp_isNaN_int64.f a1).bind fun t102 => (if t102 = true then (some (decide (a0 < a1))) else (some true))) else (some (decide (a0 < a1)))) = some r := H
 have A3 := AM A30
 clear A30
 by_cases c4 : t101 = true
 ·
  subst c4
  have H1 : ((cmp_isNaN_int64.f a1).bind fun t102 => (if t102 = true then (some (decide (a0 < a1))) else (some true))) = some r := by rw [if_pos rfl] at H; exact H
  clear H
  have H := H1
  clear H1
  replace H := Option.bind_eq_some_iff.mp H
  obtain ⟨t102, A50, H⟩ := H
  replace H : (if t102 = true then (some (decide (a0 < a1))) else (some true)) = some r := H
  have A5 := AM A50
  clear A50
  by_cases c6 : t102 = true
  ·
   subst c6
   have H1 : (some (decide (a0 < a1))) = some r := by rw [if_pos rfl] at H; exact H
   clear H
   have H := H1
   clear H1
   obtain rfl := Option.some.inj H
   go_enter Try.func111, Try.ntmps111
   go_wp2_with (first | ((with_reducible refine gate_callee (f := 118) rfl ?_); refine goesL_ (some 6) rfl rfl Try.func118 (by kernel_rfl) rfl #[.int .i64 a0] rfl (by (try simp only [mA, mB, mC]); first | done | rfl | (simp only [mD, mE]; rfl)) ?_; (with_reducible refine (cmp_isNaN_int64.calls a0 true _ A3.out).mono ?_); rintro e w' ⟨rfl, ⟨nd, rfl⟩⟩; refine ⟨_, rfl, ?_⟩) | (go_at_call 118; (with_reducible refine (cmp_isNaN_int64.calls a1 true _ A5.out).mono ?_); rintro e w' ⟨rfl, ⟨nd, rfl⟩⟩))
   go_ret
   exact ⟨by first | rfl | (simp; done) | (simp [*]; done), by repeat (first | exact Drawn0.refl _ | apply Drawn0.step)⟩
  replace c6 := Bool.eq_false_iff.mpr c6
  subst c6
  have H1 : (some true) = some r := by rw [if_neg (show ¬ (false = true) by decide)] at H; exact H
  clear H
  have H := H1
  clear H1
  obtain rfl := Option.some.inj H
  go_enter Try.func111, Try.ntmps111
  go_wp2_with (first | ((with_reducible refine gate_callee (f := 118) rfl ?_); refine goesL_ (some 6) rfl rfl Try.func118 (by kernel_rfl) rfl #[.int .i64 a0] rfl (by (try simp only [mA, mB, mC]); first | done | rfl | (simp only [mD, mE]; rfl)) ?_; (with_reducible refine (cmp_isNaN_int64.calls a0 true _ A3.out).mono ?_); rintro e w' ⟨rfl, ⟨nd, rfl⟩⟩; refine ⟨_, rfl, ?_⟩) | (go_at_call 118; (with_reducible refine (cmp_isNaN_int64.calls a1 false _ A5.out).mono ?_); rintro e w' ⟨rfl, ⟨nd, rfl⟩⟩))
  go_ret
  exact ⟨by first | rfl | (simp; done) | (simp [*]; done), by repeat (first | exact Drawn0.refl _ | apply Drawn0.step)⟩
 replace c4 := Bool.eq_false_iff.mpr c4
 subst c4
 have H1 : (some (decide (a0 < a1))) = some r := by rw [if_neg (show ¬ (false = true) by decide)] at H; exact H
 clear H
 have H := H1
 clear H1
 obtain rfl := Option.some.inj H
 go_enter Try.func111, Try.ntmps111
 go_wp2_with (first | ((with_reducible refine gate_callee (f := 118) rfl ?_); refine goesL_ (some 6) rfl rfl Try.func118 (by kernel_rfl) rfl #[.int .i64 a0] rfl (by (try simp only [mA, mB, mC]); first | done | rfl | (simp only [mD, mE]; rfl)) ?_; (with_reducible refine (cmp_isNaN_int64.calls a0 false _ A3.out).mono ?_); rintro e w' ⟨rfl, ⟨nd, rfl⟩⟩; refine ⟨_, rfl, ?_⟩))
 go_ret
 exact ⟨by first | rfl | (simp; done) | (simp [*]; done), by repeat (first | exact Drawn0.refl _ | apply Drawn0.step)⟩

/-! ### slices_insertionSortOrdered_int64: function 105 -/
abbrev slices_insertionSortOrdered_int64.b0 : Array Bool := #[true, true, true, true, true, true, true, false, true, false, false, false, false, false, false]
abbrev slices_insertionSortOrdered_int64.b1 : Array Bool := #[true, true, true, true, true, true, true, false, true, true, false, false, false, false, false]
abbrev slices_insertionSortOrdered_int64.b2 : Array Bool := #[true, true, true, true, true, true, true, false, true, true, true, false, false, false, false]
abbrev slices_insertionSortOrdered_int64.b3 : Array Bool := #[true, true, true, true, true, true, true, false, true, true, true, true, false, false, false]
abbrev slices_insertionSortOrdered_int64.b4 : Array Bool := #[true, true, true, true, true, true, true, true, true, false, true, false, false, false, false, false, false, false]
abbrev slices_insertionSortOrdered_int64.b5 : Array Bool := #[true, true, true, true, true, true, true, true, true, false, true, true, false, false, false, false, false, false]
abbrev slices_insertionSortOrdered_int64.b6 : Array Bool := #[true, true, true, true, true, true, true, true, true, false, true, true, true, false, false, false, false, false]
mutual
def slices_insertionSortOrdered_int64.l0 : Nat → List Int → Int → Int → Int → Option (List Int)
  | 0, _, _, _, _ => none
  | k + 1, x0, x1, x2, x6 => if x6 < x2 then (slices_insertionSortOrdered_int64.l1 k x0 x1 x2 x6 x6) else (some x0)
def slices_insertionSortOrdered_int64.l1 : Nat → List Int → Int → Int → Int → Int → Option (List Int)
  | 0, _, _, _, _, _ => none
  | k + 1, x0, x1, x2, x6, x7 => if x7 > x1 then (if 0 ≤ x7 then (if x7 < (x0.length : Int) then (if 0 ≤ (wrap64 (x7 - 1)) then (if (wrap64 (x7 - 1)) < (x0.length : Int) then ((cmp_Less_int64.f (rd x0 x7) (rd x0 (wrap64 (x7 - 1)))).bind fun t103 => (if t103 = true then (slices_insertionSortOrdered_int64.l1 k ((x0.set (x7 : Int).toNat (rd x0 (wrap64 (x7 - 1)))).set ((wrap64 (x7 - 1)) : Int).toNat (rd x0 x7)) x1 x2 x6 (wrap64 (x7 - 1))) else (slices_insertionSortOrdered_int64.l0 k x0 x1 x2 (wrap64 (x6 + 1))))) else (none)) else (none)) else (none)) else (none)) else (slices_insertionSortOrdered_int64.l0 k x0 x1 x2 (wrap64 (x6 + 1)))
end
def slices_insertionSortOrdered_int64.f (k : Nat) (l0 : List Int) (a1 : Int) (a2 : Int) : Option (List Int) := slices_insertionSortOrdered_int64.l0 k l0 a1 a2 (wrap64 (a1 + 1))
theorem slices_insertionSortOrdered_int64.mono_l : ∀ k, (∀ y0 y1 y2 y3, LeO (slices_insertionSortOrdered_int64.l0 k y0 y1 y2 y3) (slices_insertionSortOrdered_int64.l0 (k + 1) y0 y1 y2 y3)) ∧ (∀ y0 y1 y2 y3 y4, LeO (slices_insertionSortOrdered_int64.l1 k y0 y1 y2 y3 y4) (slices_insertionSortOrdered_int64.l1 (k + 1) y0 y1 y2 y3 y4))
  | 0 => ⟨fun _ _ _ _ r h => by simp [slices_insertionSortOrdered_int64.l0] at h, fun _ _ _ _ _ r h => by simp [slices_insertionSortOrdered_int64.l1] at h⟩
  | k + 1 => by
    obtain ⟨ih0, ih1⟩ := slices_insertionSortOrdered_int64.mono_l k
    refine ⟨?_, ?_⟩
    · intro y0 y1 y2 y3
      unfold slices_insertionSortOrdered_int64.l0
      repeat' first
      | (with_reducible exact ih0 _ _ _ _)
      | (with_reducible exact ih1 _ _ _ _ _)
      | (with_reducible exact LeO.refl _)
      | (with_reducible exact LeO.none _)
      | (with_reducible refine LeO.ite ?_ ?_)
      | (with_reducible refine LeO.bind ?_ (fun _ => ?_))
      | exact ih0 _ _ _ _
      | exact ih1 _ _ _ _ _
      | exact LeO.none _
      | refine LeO.ite ?_ ?_
      | refine LeO.bind ?_ (fun _ => ?_)
    · intro y0 y1 y2 y3 y4
      unfold slices_insertionSortOrdered_int64.l1
      repeat' first
      | (with_reducible exact ih0 _ _ _ _)
      | (with_reducible exact ih1 _ _ _ _ _)
      | (with_reducible exact LeO.refl _)
      | (with_reducible exact LeO.none _)
      | (with_reducible refine LeO.ite ?_ ?_)
      | (with_reducible refine LeO.bind ?_ (fun _ => ?_))
      | exact ih0 _ _ _ _
      | exact ih1 _ _ _ _ _
      | exact LeO.none _
      | refine LeO.ite ?_ ?_
      | refine LeO.bind ?_ (fun _ => ?_)
theorem slices_insertionSortOrdered_int64.mono : ∀ a0 a1 a2 k, LeO (slices_insertionSortOrdered_int64.f k a0 a1 a2) (slices_insertionSortOrdered_int64.f (k + 1) a0 a1 a2) := by
  intro a0 a1 a2 k
  obtain ⟨ih0, ih1⟩ := slices_insertionSortOrdered_int64.mono_l k
  unfold slices_insertionSortOrdered_int64.f
  repeat' first
      | (with_reducible exact ih0 _ _ _ _)
      | (with_reducible exact ih1 _ _ _ _ _)
      | (with_reducible exact LeO.refl _)
      | (with_reducible exact LeO.none _)
      | (with_reducible refine LeO.ite ?_ ?_)
      | (with_reducible refine LeO.bind ?_ (fun _ => ?_))
      | exact ih0 _ _ _ _
      | exact ih1 _ _ _ _ _
      | exact LeO.none _
      | refine LeO.ite ?_ ?_
      | refine LeO.bind ?_ (fun _ => ?_)
def slices_insertionSortOrdered_int64.T4 : Bool × List (List Nat × List Nat) := (true, [([], []), ([], []), ([0, 1], [0, 1]), ([2], [2]), ([3], [3]), ([3], [3]), ([4, 5, 3], [3, 4, 5]), ([6, 3], [3, 6]), ([3], [3]), ([3], [3]), ([9, 3], [3, 9]), ([8, 10, 3], [3, 8, 10]), ([11, 3], [3, 11]), ([7, 12, 3, 3], [3, 7, 12]), ([3, 13], [3, 13])])
def slices_insertionSortOrdered_int64.B4 : List Nat := [0, 0, 3, 7, 15, 15, 63, 127, 15, 15, 527, 1807, 3855, 8191, 16383]
theorem slices_insertionSortOrdered_int64.tab4 : rtab .any (opsOf Try.f105 4) = slices_insertionSortOrdered_int64.T4 := by kernel_rfl
theorem slices_insertionSortOrdered_int64.bits4 : waitsOk slices_insertionSortOrdered_int64.T4.2 slices_insertionSortOrdered_int64.B4 = true := by kernel_rfl
def slices_insertionSortOrdered_int64.T6 : Bool × List (List Nat × List Nat) := (true, [([], []), ([], []), ([], []), ([], []), ([3], [3]), ([], []), ([], []), ([6], [6]), ([5, 7], [5, 7]), ([8], [8]), ([], []), ([], []), ([10, 11], [10, 11]), ([12], [12]), ([0, 1, 0, 1, 5, 6, 7, 8, 9, 13], [0, 1]), ([14, 9, 0, 1, 5, 6, 7, 8, 9, 13], [9, 14]), ([2, 4, 0, 1, 2, 3, 4, 5, 6, 7, 8, 9, 10, 11, 12, 13, 14, 15], [2, 4]), ([16, 13, 15, 0, 1, 2, 3, 4, 5, 6, 7, 8, 9, 10, 11, 12, 13, 14, 15], [13, 16])])
def slices_insertionSortOrdered_int64.B6 : List Nat := [0, 0, 0, 0, 8, 0, 0, 64, 224, 480, 0, 0, 3072, 7168, 16355, 32739, 65535, 131071]
theorem slices_insertionSortOrdered_int64.tab6 : rtab .any (opsOf Try.f105 6) = slices_insertionSortOrdered_int64.T6 := by kernel_rfl
theorem slices_insertionSortOrdered_int64.bits6 : waitsOk slices_insertionSortOrdered_int64.T6.2 slices_insertionSortOrdered_int64.B6 = true := by kernel_rfl
set_option maxHeartbeats 60000000 in
set_option maxRecDepth 100000 in
theorem slices_insertionSortOrdered_int64.calls (k : Nat) (P0_ : Nat → Prop) (u9000_ : Value) (l0 : List Int) (a1 : Int) (a2 : Int) (r : List Int) (w0 w : World) (hB : Below w0.heap.size w0 w) (ho0 : Kd.R (Kd.int .i64) 2 w w0.heap.size P0_ u9000_ l0) (h : slices_insertionSortOrdered_int64.f k l0 a1 a2 = some r) :
    Calls Try.prog 105 #[u9000_, .int .i64 a1, .int .i64 a2] w fun e w' => e = .returned (.tuple #[]) ∧ Kd.R (Kd.int .i64) 2 w' w0.heap.size (fun k_ => (P0_ k_ ∨ w.heap.size ≤ k_)) u9000_ r ∧ Below w0.heap.size w0 w' ∧ Kept w w' (fun k_ => P0_ k_) := by
 have HO0 := AM (show Kd.R (Kd.int .i64) 2 w w0.heap.size (fun k_ => (P0_ k_ ∨ w.heap.size ≤ k_)) u9000_ l0 from Kd.R_mono ho0 (fun k_ hk => (.inl hk)))
 have HK := AM (Kept.refl w (fun k_ => P0_ k_))
 have HW0 := AM hB.size
 have HB := AM hB
 clear hB
 have H : (slices_insertionSortOrdered_int64.l0 k l0 a1 a2 (wrap64 (a1 + 1))) = some r := h
 clear h
 have H' := AM H
 clear H
 go_enter Try.func105, Try.ntmps105
 go_wp2
 go_loopg [6] k (fun kq v6 w' => ∃ (x0_1 : List Int) (x6_1 : Int), v6 = .int .i64 x6_1 ∧ Aside0 (slices_insertionSortOrdered_int64.l0 kq x0_1 a1 a2 x6_1 = some r) ∧ Aside0 (kq ≤ k) ∧ Aside0 (Kd.R (Kd.int .i64) 2 w' w0.heap.size (fun k_ => (P0_ k_ ∨ w.heap.size ≤ k_)) u9000_ x0_1) ∧ Aside0 (Kept w w' (fun k_ => P0_ k_)) ∧ Aside0 (Below w0.heap.size w0 w'))
 case atStart => exact ⟨(l0), (wrap64 (a1 + 1)), (by first | rfl | (simp; done) | (simp [*]; done)), H', ⟨Nat.le_refl _⟩, ⟨rX HO0.out⟩, ⟨tX HK.out⟩, ⟨bX HB.out⟩⟩
 case round =>
  clear H'
  (try clear c1); (try clear p2)
  obtain ⟨x0_1, x6_1, rfl, HA, HK1, HO_0, HK, HB⟩ := hrel
  cases gk with
  | zero => exact absurd HA.out (by simp [slices_insertionSortOrdered_int64.l0])
  | succ k1 =>
   have H := HA.out
   clear HA
   simp only [slices_insertionSortOrdered_int64.l0] at H
   by_cases c4 : x6_1 < a2
   ·
    rw [if_pos c4] at H
    have c4b0 : decide (x6_1 < a2) = true := decide_eq_true c4
    clear c4
    have H' := AM H
    clear H
    go_wp2
    go_loopg [7] k1 (fun kq v7 w' => ∃ (x0_2 : List Int) (x7_2 : Int), v7 = .int .i64 x7_2 ∧ Aside0 (slices_insertionSortOrdered_int64.l1 kq x0_2 a1 a2 x6_1 x7_2 = some r) ∧ Aside0 (kq ≤ k1) ∧ Aside0 (Kd.R (Kd.int .i64) 2 w' w0.heap.size (fun k_ => (P0_ k_ ∨ w.heap.size ≤ k_)) u9000_ x0_2) ∧ Aside0 (Kept w w' (fun k_ => P0_ k_)) ∧ Aside0 (Below w0.heap.size w0 w'))
    case atStart => exact ⟨(x0_1), (x6_1), (by first | rfl | (simp; done) | (simp [*]; done)), H', ⟨Nat.le_refl _⟩, ⟨rX HO_0.out⟩, ⟨tX HK.out⟩, ⟨bX HB.out⟩⟩
    case round =>
     clear H'
     (try clear c1); (try clear p2); (try clear c4); (try clear c4b0)
     obtain ⟨x0_2, x7_2, rfl, HA, HK2, HO_0, HK, HB⟩ := hrel
     cases gk with
     | zero => exact absurd HA.out (by simp [slices_insertionSortOrdered_int64.l1])
     | succ k2 =>
      have H := HA.out
      clear HA
      simp only [slices_insertionSortOrdered_int64.l1] at H
      by_cases c5 : x7_2 > a1
      ·
       rw [if_pos c5] at H
       have c5b0 : decide (a1 < x7_2) = true := decide_eq_true c5
       clear c5
       by_cases c6 : 0 ≤ x7_2
       ·
        rw [if_pos c6] at H
        have c6b0 : decide (0 ≤ x7_2) = true := decide_eq_true c6
        clear c6
        by_cases c7 : x7_2 < (x0_2.length : Int)
        ·
         rw [if_pos c7] at H
         have c7b0 : decide (x7_2 < (x0_2.length : Int)) = true := decide_eq_true c7
         clear c7
         obtain ⟨ji8, hji8⟩ : ∃ j_ : Int, (wrap64 (x7_2 - 1)) = j_ := ⟨_, rfl⟩
         replace H : (if 0 ≤ (ji8) then (if (ji8) < (x0_2.length : Int) then ((cmp_Less_int64.f (rd x0_2 x7_2) (rd x0_2 (ji8))).bind fun t103 => (if t103 = true then (slices_insertionSortOrdered_int64.l1 k2 ((x0_2.set (x7_2 : Int).toNat (rd x0_2 (ji8))).set ((ji8) : Int).toNat (rd x0_2 x7_2)) a1 a2 x6_1 ji8) else (slices_insertionSortOrdered_int64.l0 k2 x0_2 a1 a2 (wrap64 (x6_1 + 1))))) else (none)) else (none)) = some r := by first | (rw [hji8] at H; exact H) | (simp only [hji8] at H ⊢; exact H)
         have hji8w : (IntKind.i64.wrap (x7_2 - 1)) = ji8 := (i64_w _).trans hji8
         by_cases c9 : 0 ≤ (ji8)
         ·
          rw [if_pos c9] at H
          have c9b0 : decide (0 ≤ (ji8)) = true := decide_eq_true c9
          clear c9
          by_cases c10 : (ji8) < (x0_2.length : Int)
          ·
           rw [if_pos c10] at H
           have c10b0 : decide ((ji8) < (x0_2.length : Int)) = true := decide_eq_true c10
           clear c10
           replace H := Option.bind_eq_some_iff.mp H
           obtain ⟨t103, A110, H⟩ := H
           replace H : (if t103 = true then (slices_insertionSortOrdered_int64.l1 k2 ((x0_2.set (x7_2 : Int).toNat (rd x0_2 (ji8))).set ((ji8) : Int).toNat (rd x0_2 x7_2)) a1 a2 x6_1 ji8) else (slices_insertionSortOrdered_int64.l0 k2 x0_2 a1 a2 (wrap64 (x6_1 + 1)))) = some r := H
           have A11 := AM A110
           clear A110
           by_cases c12 : t103 = true
           ·
            subst c12
            have H1 : (slices_insertionSortOrdered_int64.l1 k2 ((x0_2.set (x7_2 : Int).toNat (rd x0_2 (ji8))).set ((ji8) : Int).toNat (rd x0_2 x7_2)) a1 a2 x6_1 ji8) = some r := by rw [if_pos rfl] at H; exact H
            clear H
            have H := H1
            clear H1
            obtain ⟨y106, hy106⟩ : ∃ y_ : List Int, y_ = (x0_2.set (x7_2 : Int).toNat (rd x0_2 (ji8))) := ⟨_, rfl⟩
            replace H : (slices_insertionSortOrdered_int64.l1 k2 (y106.set ((ji8) : Int).toNat (rd x0_2 x7_2)) a1 a2 x6_1 ji8) = some r := by first | (rw [hy106]; with_reducible exact H) | (have H2_ := (Option.bind_some _ _).symm.trans H; rw [hy106]; with_reducible exact H2_) | (have H2_ := (Option.bind_some _ _).symm.trans H; with_reducible exact H2_) | with_reducible exact H | (rw [hy106]; exact H) | exact H
            have Ny106 := AM hy106
            clear hy106
            obtain ⟨y107, hy107⟩ : ∃ y_ : List Int, y_ = (y106.set ((ji8) : Int).toNat (rd x0_2 x7_2)) := ⟨_, rfl⟩
            replace H : (slices_insertionSortOrdered_int64.l1 k2 y107 a1 a2 x6_1 ji8) = some r := by first | (rw [hy107]; with_reducible exact H) | (have H2_ := (Option.bind_some _ _).symm.trans H; rw [hy107]; with_reducible exact H2_) | (have H2_ := (Option.bind_some _ _).symm.trans H; with_reducible exact H2_) | with_reducible exact H | (rw [hy107]; exact H) | exact H
            have Ny107 := AM hy107
            clear hy107
            have H' := AM H
            clear H
            try go_wp2
            have _ := AM (rD HO_0.out)
            have _ := AM (Kept.drew HK.out)
            have _ := AM (bD HB.out)
            clear HO_0 HK HB
            rename_i HO_0 HK HB
            obtain ⟨Ao16, co16, eo16⟩ := Kd.R_slice HO_0.out
            (first | subst eo16 | (injection eo16 with f1_ f2_ f3_; have f4_ := f1_.symm; have f5_ := f3_.symm; clear f1_ f2_ f3_; subst f4_; subst f5_))
            have p101 : 0 ≤ (x7_2 : Int) := of_decide_eq_true (by assumption)
            have q101 : x7_2 < (x0_2.length : Int) := of_decide_eq_true (by assumption)
            obtain ⟨ad101, e101, hx101_0⟩ := Kd.at_int (Kd.R_reads' HO_0.out).2.2 x7_2 p101 q101
            cases e101
            replace p101 := eq_true p101
            replace q101 := eq_true q101
            have p102 : 0 ≤ ((ji8) : Int) := of_decide_eq_true (by assumption)
            have q102 : (ji8) < (x0_2.length : Int) := of_decide_eq_true (by assumption)
            obtain ⟨ad102, e102, hx102_0⟩ := Kd.at_int (Kd.R_reads' HO_0.out).2.2 (ji8) p102 q102
            obtain rfl : ad101 = ad102 := (by injection e102)
            replace p102 := eq_true p102
            replace q102 := eq_true q102
            refine start_ (n := 15) (S := fun w' => w'.cell? (ad101.add (x7_2).toNat) = some (.int .i64 (rd x0_2 x7_2)) ∧ w'.cell? (ad101.add ((ji8)).toNat) = some (.int .i64 (rd x0_2 (ji8)))) (ds := []) (upTo 0 15) (by kernel_rfl) rfl rfl ⟨hx101_0, hx102_0⟩ (fun hHeld => ?_); refine with_tabW slices_insertionSortOrdered_int64.tab4 slices_insertionSortOrdered_int64.bits4 (fun HT_ HW_ => ?_)
            generalize wr.drew = w15 at HO_0 HK HB hx101_0 hx102_0 hHeld ⊢
            refine pF 0 1 15 16 ?_
            refine pF 1 2 15 17 ?_
            refine pF 2 3 15 18 ?_
            refine pF 3 4 15 19 ?_
            refine pF 4 5 15 20 ?_
            refine pF 5 6 15 21 ?_
            refine pF 6 7 15 22 ?_
            refine pF2 8 24 slices_insertionSortOrdered_int64.b0 ?_
            refine pF2 9 25 slices_insertionSortOrdered_int64.b1 ?_
            refine pF2 10 26 slices_insertionSortOrdered_int64.b2 ?_
            refine pF2 11 27 slices_insertionSortOrdered_int64.b3 ?_
            refine pT2 7 23 (upTo 12 15) ?_ hHeld
            refine pT2 12 28 (upTo 13 15) ?_ hHeld
            refine one_ (i := 13) (N := some 29) (upTo 14 15) rfl rfl (one_of HT_.out (by kernel_rfl)) (by decide) (fun K hK => ?_)
            refine goes_ Try.func111 (by kernel_rfl) rfl #[.int .i64 (rd x0_2 x7_2), .int .i64 (rd x0_2 (ji8))] (by rfl) rfl rfl (by (try simp only [mA, mB, mC]); first | done | (simp only [hji8]; rfl) | rfl | (simp only [mD, mE]; rfl)) ?_
            with_reducible refine (cmp_Less_int64.calls (rd x0_2 x7_2) (rd x0_2 (ji8)) true _ A11.out).mono ?_
            rintro e w' ⟨rfl, ⟨nd, rfl⟩⟩
            refine ⟨_, rfl, ?_⟩
            refine hK.out _ _ ⟨hHeld.1, hHeld.2⟩ (fun hHeld => ?_)
            clear hK K
            refine norm_ (a' := ?_) ?_ ?_
            rotate_left
            ·
             show Act.put _ (some 29) _ = _
             simp only [Act.put, sA, sB, sC, i64_w, i32_w]
             rfl
            refine pF 14 15 15 30 ?_
            refine done_ (done_of HT_.out (by kernel_rfl)) ?_
            try go_wp2
            (try (rw [drewN_self w15]; generalize hq_ : World.drewN w15 _ = w15; have _ : Aside0 (Kd.R (Kd.int .i64) 2 w15 w0.heap.size (fun k_ => (P0_ k_ ∨ w.heap.size ≤ k_)) (.slice (some ad101) x0_2.length co16) x0_2) := ⟨by rw [← hq_]; exact (rX HO_0.out)⟩; have _ : Aside0 (Kept w w15 (fun k_ => P0_ k_)) := ⟨by rw [← hq_]; exact (tX HK.out)⟩; have _ : Aside0 (Below w0.heap.size w0 w15) := ⟨by rw [← hq_]; exact (bX HB.out)⟩; clear HO_0 HK HB hq_; rename_i HO_0 HK HB))
            have _ := AM (rD HO_0.out)
            have _ := AM (Kept.drew HK.out)
            have _ := AM (bD HB.out)
            clear HO_0 HK HB
            rename_i HO_0 HK HB
            have p104 : 0 ≤ ((ji8) : Int) := of_decide_eq_true (by assumption)
            have q104 : (ji8) < (x0_2.length : Int) := of_decide_eq_true (by assumption)
            obtain ⟨ad104, e104, hx104_0⟩ := Kd.at_int (Kd.R_reads' HO_0.out).2.2 (ji8) p104 q104
            obtain rfl : ad101 = ad104 := (by injection e104)
            replace p104 := eq_true p104
            replace q104 := eq_true q104
            have p105 : 0 ≤ (x7_2 : Int) := of_decide_eq_true (by assumption)
            have q105 : x7_2 < (x0_2.length : Int) := of_decide_eq_true (by assumption)
            obtain ⟨ad105, e105, hx105_0⟩ := Kd.at_int (Kd.R_reads' HO_0.out).2.2 x7_2 p105 q105
            obtain rfl : ad101 = ad105 := (by injection e105)
            replace p105 := eq_true p105
            replace q105 := eq_true q105
            have p13 : 0 ≤ (x7_2 : Int) := of_decide_eq_true (by assumption)
            have q13 : (x7_2 : Int) < ((x0_2.length : Int) : Int) := of_decide_eq_true (by assumption)
            obtain ⟨go13, co13, eo13, gb13, gl13, cl13, HG13⟩ := Kd.R_form HO_0.out (by omega)
            (first | cases eo13 | (injection eo13 with ea_ en_ ec_; (first | subst ea_ | (injection ea_ with ea_; subst ea_)); subst ec_; clear en_))
            have GB13 := AM gb13
            have GG13 := AM HG13
            clear gb13 gl13 HG13
            have HMgo13 := AM (show (P0_ go13 ∨ w.heap.size ≤ go13) from (HO_0.out.1 _ rfl))
            (first | simp only [add_plain] at hx101_0 | skip)
            (first | simp only [add_plain] at hx102_0 | skip)
            (first | simp only [add_plain] at hx104_0 | skip)
            (first | simp only [add_plain] at hx105_0 | skip)
            obtain ⟨hx13_0, hf13_0⟩ := Kd.R_celln 0 HO_0.out (x7_2 : Int) p13 q13
            replace p13 := eq_true p13
            replace q13 := eq_true q13
            have HP18 := Kd.R_putn HO_0.out (x7_2 : Int) (rd x0_2 (ji8))
            rw [← Ny106.out] at HP18
            have HQ18 := AM HP18
            clear HP18
            have p14 : 0 ≤ ((ji8) : Int) := of_decide_eq_true (by assumption)
            have q14 : ((ji8) : Int) < ((x0_2.length : Int) : Int) := of_decide_eq_true (by assumption)
            obtain ⟨hx14_0, hf14_0⟩ := Kd.R_celln 0 HQ18.out ((ji8) : Int) p14 q14
            replace p14 := eq_true p14
            replace q14 := eq_true q14
            have HP19 := Kd.R_putn HQ18.out ((ji8) : Int) (rd x0_2 x7_2)
            rw [← Ny107.out] at HP19
            have HQ19 := AM HP19
            clear HP19
            refine start_ (n := 18) (S := fun w' => w'.cell? ⟨go13, ((ji8)).toNat, none⟩ = some (.int .i64 (rd x0_2 (ji8))) ∧ w'.cell? ⟨go13, (x7_2).toNat, none⟩ = some (.int .i64 (rd x0_2 x7_2))) (ds := [15, 17]) (upTo 0 18) (by kernel_rfl) rfl rfl ⟨hx104_0, hx105_0⟩ (fun hHeld => ?_); refine with_tabW slices_insertionSortOrdered_int64.tab6 slices_insertionSortOrdered_int64.bits6 (fun HT_ HW_ => ?_)
            generalize w15.drew = w17 at HO_0 HK HB GG13 HQ18 HQ19 hf13_0 hf14_0 hx101_0 hx102_0 hx104_0 hx105_0 hx13_0 hx14_0 hHeld ⊢
            refine pF 0 1 18 33 ?_
            refine pF 1 2 18 34 ?_
            refine pF 2 3 18 35 ?_
            refine pF 3 4 18 36 ?_
            refine pF 4 5 18 37 ?_
            refine pF 5 6 18 38 ?_
            refine pF 6 7 18 39 ?_
            refine pF 7 8 18 40 ?_
            refine pF 8 9 18 41 ?_
            refine pF2 10 43 slices_insertionSortOrdered_int64.b4 ?_
            refine pF2 11 44 slices_insertionSortOrdered_int64.b5 ?_
            refine pF2 12 45 slices_insertionSortOrdered_int64.b6 ?_
            refine pT2 9 42 (upTo 13 18) ?_ hHeld
            refine pT2 13 46 (upTo 14 18) ?_ hHeld
            refine pF 14 15 18 47 ?_
            refine last_ (i := 15) (N := none) (upTo 16 18) rfl rfl (one_of HT_.out (by kernel_rfl)) (by decide) (fun K hK => ?_)
            refine skip_ (w1 := ?_) (by rfl) rfl ?_ ?_
            rotate_left
            ·
             go_simp
             rfl
            refine hK.out _ _ ?_
            clear hK K
            refine pF 16 17 18 48 ?_
            refine last_ (i := 17) (N := none) (upTo 18 18) rfl rfl (one_of HT_.out (by kernel_rfl)) (by decide) (fun K hK => ?_)
            refine skip_ (w1 := ?_) (by rfl) rfl ?_ ?_
            rotate_left
            ·
             go_simp
             rfl
            refine hK.out _ _ ?_
            clear hK K
            refine done_ (done_of HT_.out (by kernel_rfl)) ?_
            try go_wp2
            go_roundg k2
            case measure => have := HK1.out; have := HK2.out; omega
            case rel => exact ⟨(y107), (ji8), (by first | rfl | (simp; done) | (simp only [← hji8] <;> (first | rfl | simp)) | (simp [*]; done)), H', ⟨by have := HK1.out; have := HK2.out; omega⟩, ⟨rX HQ19.out⟩, ⟨by repeat (first | (with_reducible first | exact HK.out | apply Kept.alloc | apply Kept.drewN | apply Kept.drew | refine Kept.setCell ?_ HMgo13.out _ | refine Kept.setCell ?_ HMgo13.out _) | exact HK.out)⟩, ⟨by repeat (first | (with_reducible first | exact HB.out | apply bA | apply bN | apply bD | refine bS ?_ GB13.out | refine bS ?_ GB13.out) | exact HB.out)⟩⟩
           replace c12 := Bool.eq_false_iff.mpr c12
           subst c12
           have H1 : (slices_insertionSortOrdered_int64.l0 k2 x0_2 a1 a2 (wrap64 (x6_1 + 1))) = some r := by rw [if_neg (show ¬ (false = true) by decide)] at H; exact H
           clear H
           have H := H1
           clear H1
           have H' := AM H
           clear H
           try go_wp2
           have _ := AM (rD HO_0.out)
           have _ := AM (Kept.drew HK.out)
           have _ := AM (bD HB.out)
           clear HO_0 HK HB
           rename_i HO_0 HK HB
           obtain ⟨Ao21, co21, eo21⟩ := Kd.R_slice HO_0.out
           (first | subst eo21 | (injection eo21 with f1_ f2_ f3_; have f4_ := f1_.symm; have f5_ := f3_.symm; clear f1_ f2_ f3_; subst f4_; subst f5_))
           have p101 : 0 ≤ (x7_2 : Int) := of_decide_eq_true (by assumption)
           have q101 : x7_2 < (x0_2.length : Int) := of_decide_eq_true (by assumption)
           obtain ⟨ad101, e101, hx101_0⟩ := Kd.at_int (Kd.R_reads' HO_0.out).2.2 x7_2 p101 q101
           cases e101
           replace p101 := eq_true p101
           replace q101 := eq_true q101
           have p102 : 0 ≤ ((ji8) : Int) := of_decide_eq_true (by assumption)
           have q102 : (ji8) < (x0_2.length : Int) := of_decide_eq_true (by assumption)
           obtain ⟨ad102, e102, hx102_0⟩ := Kd.at_int (Kd.R_reads' HO_0.out).2.2 (ji8) p102 q102
           obtain rfl : ad101 = ad102 := (by injection e102)
           replace p102 := eq_true p102
           replace q102 := eq_true q102
           refine start_ (n := 15) (S := fun w' => w'.cell? (ad101.add (x7_2).toNat) = some (.int .i64 (rd x0_2 x7_2)) ∧ w'.cell? (ad101.add ((ji8)).toNat) = some (.int .i64 (rd x0_2 (ji8)))) (ds := []) (upTo 0 15) (by kernel_rfl) rfl rfl ⟨hx101_0, hx102_0⟩ (fun hHeld => ?_); refine with_tabW slices_insertionSortOrdered_int64.tab4 slices_insertionSortOrdered_int64.bits4 (fun HT_ HW_ => ?_)
           generalize wr.drew = w20 at HO_0 HK HB hx101_0 hx102_0 hHeld ⊢
           refine pF 0 1 15 16 ?_
           refine pF 1 2 15 17 ?_
           refine pF 2 3 15 18 ?_
           refine pF 3 4 15 19 ?_
           refine pF 4 5 15 20 ?_
           refine pF 5 6 15 21 ?_
           refine pF 6 7 15 22 ?_
           refine pF2 8 24 slices_insertionSortOrdered_int64.b0 ?_
           refine pF2 9 25 slices_insertionSortOrdered_int64.b1 ?_
           refine pF2 10 26 slices_insertionSortOrdered_int64.b2 ?_
           refine pF2 11 27 slices_insertionSortOrdered_int64.b3 ?_
           refine pT2 7 23 (upTo 12 15) ?_ hHeld
           refine pT2 12 28 (upTo 13 15) ?_ hHeld
           refine one_ (i := 13) (N := some 29) (upTo 14 15) rfl rfl (one_of HT_.out (by kernel_rfl)) (by decide) (fun K hK => ?_)
           refine goes_ Try.func111 (by kernel_rfl) rfl #[.int .i64 (rd x0_2 x7_2), .int .i64 (rd x0_2 (ji8))] (by rfl) rfl rfl (by (try simp only [mA, mB, mC]); first | done | (simp only [hji8]; rfl) | rfl | (simp only [mD, mE]; rfl)) ?_
           with_reducible refine (cmp_Less_int64.calls (rd x0_2 x7_2) (rd x0_2 (ji8)) false _ A11.out).mono ?_
           rintro e w' ⟨rfl, ⟨nd, rfl⟩⟩
           refine ⟨_, rfl, ?_⟩
           refine hK.out _ _ ⟨hHeld.1, hHeld.2⟩ (fun hHeld => ?_)
           clear hK K
           refine norm_ (a' := ?_) ?_ ?_
           rotate_left
           ·
            show Act.put _ (some 29) _ = _
            simp only [Act.put, sA, sB, sC, i64_w, i32_w]
            rfl
           refine pF 14 15 15 30 ?_
           refine done_ (done_of HT_.out (by kernel_rfl)) ?_
           try go_wp2
           go_roundg k2
           case measure => have := HK1.out; have := HK2.out; omega
           case rel => exact ⟨(x0_2), (wrap64 (x6_1 + 1)), (by first | rfl | (simp; done) | (simp [*]; done)), H', ⟨by have := HK1.out; have := HK2.out; omega⟩, ⟨rX HO_0.out⟩, ⟨tX HK.out⟩, ⟨bX HB.out⟩⟩
          rw [if_neg c10] at H
          exact absurd H (by simp)
         rw [if_neg c9] at H
         exact absurd H (by simp)
        rw [if_neg c7] at H
        exact absurd H (by simp)
       rw [if_neg c6] at H
       exact absurd H (by simp)
      rw [if_neg c5] at H
      have c5b0 : decide (a1 < x7_2) = false := decide_eq_false c5
      clear c5
      have H' := AM H
      clear H
      try go_wp2
      have _ := AM (rD HO_0.out)
      have _ := AM (Kept.drew HK.out)
      have _ := AM (bD HB.out)
      clear HO_0 HK HB
      rename_i HO_0 HK HB
      refine start_ (n := 15) (S := fun w' => True) (ds := []) (upTo 0 15) (by kernel_rfl) rfl rfl trivial (fun hHeld => ?_); refine with_tabW slices_insertionSortOrdered_int64.tab4 slices_insertionSortOrdered_int64.bits4 (fun HT_ HW_ => ?_)
      generalize wr.drew = w22 at HO_0 HK HB hHeld ⊢
      refine pF 0 1 15 16 ?_
      refine pF 1 2 15 17 ?_
      refine pF 2 3 15 18 ?_
      refine pF 3 4 15 19 ?_
      refine pU 4 5 15 20 ?_
      refine pU 5 6 15 21 ?_
      refine pU 6 7 15 22 ?_
      refine pU 7 8 15 23 ?_
      refine pU 8 9 15 24 ?_
      refine pU 9 10 15 25 ?_
      refine pU 10 11 15 26 ?_
      refine pU 11 12 15 27 ?_
      refine pU 12 13 15 28 ?_
      refine pU 13 14 15 29 ?_
      refine pF 14 15 15 30 ?_
      refine done_ (done_of HT_.out (by kernel_rfl)) ?_
      try go_wp2
      go_roundg k2
      case measure => have := HK1.out; have := HK2.out; omega
      case rel => exact ⟨(x0_2), (wrap64 (x6_1 + 1)), (by first | rfl | (simp; done) | (simp [*]; done)), H', ⟨by have := HK1.out; have := HK2.out; omega⟩, ⟨rX HO_0.out⟩, ⟨tX HK.out⟩, ⟨bX HB.out⟩⟩
   rw [if_neg c4] at H
   have c4b0 : decide (x6_1 < a2) = false := decide_eq_false c4
   clear c4
   obtain rfl := Option.some.inj H
   go_wp2
   first | go_end0 | ((try simp only [Exit.inBlock, Exit.then]); refine bodyPost_ret (results_none rfl _ _ _) rfl ?_)
   exact ⟨by first | rfl | (simp [*, errW_none, errW_some] <;> rfl), rX HO_0.out, bX HB.out, tX HK.out⟩

/-! ### slices_pdqsortOrdered_int64: function 98 -/

mutual
def slices_pdqsortOrdered_int64.l0 : Nat → List Int → Int → Int → Int → Bool → Option (List Int)
  | 0, _, _, _, _, _ => none
  | k + 1, x0, x1, x2, x3, x8 => if (wrap64 (x2 - x1)) ≤ 12 then ((slices_insertionSortOrdered_int64.f k x0 x1 x2).bind fun t101 => (some t101)) else (if x3 = 0 then (none) else (if x8 = true then (none) else (none)))
def slices_pdqsortOrdered_int64.f : Nat → List Int → Int → Int → Int → Option (List Int)
  | 0, _, _, _, _ => none
  | k + 1, l0, a1, a2, a3 => slices_pdqsortOrdered_int64.l0 k l0 a1 a2 a3 true
end
theorem slices_pdqsortOrdered_int64.mono_l : ∀ k, (∀ y0 y1 y2 y3, LeO (slices_pdqsortOrdered_int64.f k y0 y1 y2 y3) (slices_pdqsortOrdered_int64.f (k + 1) y0 y1 y2 y3)) ∧ (∀ y0 y1 y2 y3 y4, LeO (slices_pdqsortOrdered_int64.l0 k y0 y1 y2 y3 y4) (slices_pdqsortOrdered_int64.l0 (k + 1) y0 y1 y2 y3 y4))
  | 0 => ⟨fun _ _ _ _ r h => by simp [slices_pdqsortOrdered_int64.f] at h, fun _ _ _ _ _ r h => by simp [slices_pdqsortOrdered_int64.l0] at h⟩
  | k + 1 => by
    obtain ⟨ih0, ih1⟩ := slices_pdqsortOrdered_int64.mono_l k
    refine ⟨?_, ?_⟩
    · intro y0 y1 y2 y3
      unfold slices_pdqsortOrdered_int64.f
      repeat' first
      | (with_reducible exact ih0 _ _ _ _)
      | (with_reducible exact ih1 _ _ _ _ _)
      | (with_reducible exact slices_insertionSortOrdered_int64.mono _ _ _ _)
      | (with_reducible exact LeO.refl _)
      | (with_reducible exact LeO.none _)
      | (with_reducible refine LeO.ite ?_ ?_)
      | (with_reducible refine LeO.bind ?_ (fun _ => ?_))
      | exact ih0 _ _ _ _
      | exact ih1 _ _ _ _ _
      | exact slices_insertionSortOrdered_int64.mono _ _ _ _
      | exact LeO.none _
      | refine LeO.ite ?_ ?_
      | refine LeO.bind ?_ (fun _ => ?_)
    · intro y0 y1 y2 y3 y4
      unfold slices_pdqsortOrdered_int64.l0
      repeat' first
      | (with_reducible exact ih0 _ _ _ _)
      | (with_reducible exact ih1 _ _ _ _ _)
      | (with_reducible exact slices_insertionSortOrdered_int64.mono _ _ _ _)
      | (with_reducible exact LeO.refl _)
      | (with_reducible exact LeO.none _)
      | (with_reducible refine LeO.ite ?_ ?_)
      | (with_reducible refine LeO.bind ?_ (fun _ => ?_))
      | exact ih0 _ _ _ _
      | exact ih1 _ _ _ _ _
      | exact slices_insertionSortOrdered_int64.mono _ _ _ _
      | exact LeO.none _
      | refine LeO.ite ?_ ?_
      | refine LeO.bind ?_ (fun _ => ?_)
theorem slices_pdqsortOrdered_int64.mono : ∀ a0 a1 a2 a3 k, LeO (slices_pdqsortOrdered_int64.f k a0 a1 a2 a3) (slices_pdqsortOrdered_int64.f (k + 1) a0 a1 a2 a3) := by
  intro a0 a1 a2 a3 k
  obtain ⟨ih0, ih1⟩ := slices_pdqsortOrdered_int64.mono_l k
  exact ih0 a0 a1 a2 a3
set_option maxHeartbeats 60000000 in
set_option maxRecDepth 100000 in
theorem slices_pdqsortOrdered_int64.calls (k : Nat) : ∀ (P0_ : Nat → Prop) (u9000_ : Value) (l0 : List Int) (a1 : Int) (a2 : Int) (a3 : Int) (r : List Int) (w0 w : World) (hB : Below w0.heap.size w0 w) (ho0 : Kd.R (Kd.int .i64) 2 w w0.heap.size P0_ u9000_ l0) (h : slices_pdqsortOrdered_int64.f k l0 a1 a2 a3 = some r),
    Calls Try.prog 98 #[u9000_, .int .i64 a1, .int .i64 a2, .int .i64 a3] w fun e w' => e = .returned (.tuple #[]) ∧ Kd.R (Kd.int .i64) 2 w' w0.heap.size (fun k_ => (P0_ k_ ∨ w.heap.size ≤ k_)) u9000_ r ∧ Below w0.heap.size w0 w' ∧ Kept w w' (fun k_ => P0_ k_) := by
 induction k using Nat.strongRecOn with
  | _ k ih =>
 intro P0_ u9000_ l0 a1 a2 a3 r w0 w hB ho0 h
 cases k with
  | zero => exact absurd h (by simp [slices_pdqsortOrdered_int64.f])
  | succ k =>
 simp only [slices_pdqsortOrdered_int64.f] at h
 have HO0 := AM (show Kd.R (Kd.int .i64) 2 w w0.heap.size (fun k_ => (P0_ k_ ∨ w.heap.size ≤ k_)) u9000_ l0 from Kd.R_mono ho0 (fun k_ hk => (.inl hk)))
 have HK := AM (Kept.refl w (fun k_ => P0_ k_))
 have HW0 := AM hB.size
 have HB := AM hB
 clear hB
 have H : (slices_pdqsortOrdered_int64.l0 k l0 a1 a2 a3 true) = some r := h
 clear h
 have H' := AM H
 clear H
 go_enter Try.func98, Try.ntmps98
 go_wp2
 repeat (go_quiet (fail); try go_wp2)
 go_loopg [1, 2, 3, 8] k (fun kq v1 v2 v3 v8 w' => ∃ (x0_1 : List Int) (x1_1 : Int) (x2_1 : Int) (x3_1 : Int) (x8_1 : Bool), v1 = .int .i64 x1_1 ∧ v2 = .int .i64 x2_1 ∧ v3 = .int .i64 x3_1 ∧ v8 = .bool x8_1 ∧ Aside0 (slices_pdqsortOrdered_int64.l0 kq x0_1 x1_1 x2_1 x3_1 x8_1 = some r) ∧ Aside0 (kq ≤ k) ∧ Aside0 (Kd.R (Kd.int .i64) 2 w' w0.heap.size (fun k_ => (P0_ k_ ∨ w.heap.size ≤ k_)) u9000_ x0_1) ∧ Aside0 (Kept w w' (fun k_ => P0_ k_)) ∧ Aside0 (Below w0.heap.size w0 w'))
 case atStart => exact ⟨(l0), (a1), (a2), (a3), (true), (by first | rfl | (simp; done) | (simp [*]; done)), (by first | rfl | (simp; done) | (simp [*]; done)), (by first | rfl | (simp; done) | (simp [*]; done)), (by first | rfl | (simp; done) | (simp [*]; done)), H', ⟨Nat.le_refl _⟩, ⟨rX HO0.out⟩, ⟨tX HK.out⟩, ⟨bX HB.out⟩⟩
 case round =>
  clear H'
  try clear p2
  obtain ⟨x0_1, x1_1, x2_1, x3_1, x8_1, rfl, rfl, rfl, rfl, HA, HK1, HO_0, HK, HB⟩ := hrel
  cases gk with
  | zero => exact absurd HA.out (by simp [slices_pdqsortOrdered_int64.l0])
  | succ k1 =>
   have H := HA.out
   clear HA
   simp only [slices_pdqsortOrdered_int64.l0] at H
   by_cases c5 : (wrap64 (x2_1 - x1_1)) ≤ 12
   ·
    rw [if_pos c5] at H
    have c5b0 : decide ((wrap64 (x2_1 - x1_1)) ≤ 12) = true := decide_eq_true c5
    clear c5
    replace H := Option.bind_eq_some_iff.mp H
    obtain ⟨t101, A60, H⟩ := H
    replace H : (some t101) = some r := H
    have A6 := AM A60
    clear A60
    obtain rfl := Option.some.inj H
    obtain ⟨Ao7, co7, eo7⟩ := Kd.R_slice HO_0.out
    subst eo7
    go_wp2_with (first | (go_at_call 105; (with_reducible refine (slices_insertionSortOrdered_int64.calls k1 (fun k_ => some k_ = (.slice Ao7 x0_1.length co7 : Value).ownBlock) (.slice Ao7 x0_1.length co7) x0_1 x1_1 x2_1 t101 w0 _ ?side1 ?side2 A6.out).mono ?_); (case side1 => exact (bX HB.out)); (case side2 => exact Kd.R_tight rfl HO_0.out); rintro e w8 ⟨rfl, hy0, hb, hkp⟩; have _ := AM (Kd.R_reok rfl hy0 (fun k_ e_ => HO_0.out.1 k_ e_)); have _ := AM (Kept.then_ (S := (fun k_ => P0_ k_)) (tX HK.out) hkp (fun k_ hs_ => (fun e_ => (HO_0.out.1 k_ e_.symm)) hs_)); have _ := AM (hb); clear HO_0 HK HB; rename_i HO_0 HK HB; (try clear hb); (try clear hkp); (try clear hy0)))
    repeat (go_quiet (first | (go_at_call 105; (with_reducible refine (slices_insertionSortOrdered_int64.calls k1 (fun k_ => some k_ = (.slice Ao7 x0_1.length co7 : Value).ownBlock) (.slice Ao7 x0_1.length co7) x0_1 x1_1 x2_1 t101 w0 _ ?side1 ?side2 A6.out).mono ?_); (case side1 => exact (bX HB.out)); (case side2 => exact Kd.R_tight rfl HO_0.out); rintro e w8 ⟨rfl, hy0, hb, hkp⟩; have _ := AM (Kd.R_reok rfl hy0 (fun k_ e_ => HO_0.out.1 k_ e_)); have _ := AM (Kept.then_ (S := (fun k_ => P0_ k_)) (tX HK.out) hkp (fun k_ hs_ => (fun e_ => (HO_0.out.1 k_ e_.symm)) hs_)); have _ := AM (hb); clear HO_0 HK HB; rename_i HO_0 HK HB; (try clear hb); (try clear hkp); (try clear hy0))); try go_wp2_with (first | (go_at_call 105; (with_reducible refine (slices_insertionSortOrdered_int64.calls k1 (fun k_ => some k_ = (.slice Ao7 x0_1.length co7 : Value).ownBlock) (.slice Ao7 x0_1.length co7) x0_1 x1_1 x2_1 t101 w0 _ ?side1 ?side2 A6.out).mono ?_); (case side1 => exact (bX HB.out)); (case side2 => exact Kd.R_tight rfl HO_0.out); rintro e w8 ⟨rfl, hy0, hb, hkp⟩; have _ := AM (Kd.R_reok rfl hy0 (fun k_ e_ => HO_0.out.1 k_ e_)); have _ := AM (Kept.then_ (S := (fun k_ => P0_ k_)) (tX HK.out) hkp (fun k_ hs_ => (fun e_ => (HO_0.out.1 k_ e_.symm)) hs_)); have _ := AM (hb); clear HO_0 HK HB; rename_i HO_0 HK HB; (try clear hb); (try clear hkp); (try clear hy0))))
    first | go_end0 | ((try simp only [Exit.inBlock, Exit.then]); refine bodyPost_ret (results_none rfl _ _ _) rfl ?_)
    exact ⟨by first | rfl | (simp [*, errW_none, errW_some] <;> rfl), rX HO_0.out, bX HB.out, tX HK.out⟩
   rw [if_neg c5] at H
   have c5b0 : decide ((wrap64 (x2_1 - x1_1)) ≤ 12) = false := decide_eq_false c5
   clear c5
   by_cases c9 : x3_1 = 0
   ·
    rw [if_pos c9] at H
    exact absurd H (by simp)
   rw [if_neg c9] at H
   have c9b0 : (x3_1 == 0) = false := beq_eq_false_iff_ne.mpr c9
   have c9b1 : (x3_1 != 0) = true := bne_iff_ne.mpr c9
   by_cases c10 : x8_1 = true
   ·
    subst c10
    have H1 : (none) = some r := by rw [if_pos rfl] at H; exact H
    clear H
    have H := H1
    clear H1
    exact absurd H (by simp)
   replace c10 := Bool.eq_false_iff.mpr c10
   subst c10
   have H1 : (none) = some r := by rw [if_neg (show ¬ (false = true) by decide)] at H; exact H
   clear H
   have H := H1
   clear H1
   exact absurd H (by simp)

end Go.Proofs.Ytmaliehmbodioaa.Q
