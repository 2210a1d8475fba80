/- Printed by wip/mp.py: functions as plain Lean functions, and their calls. -/
import Derived.Test.YtmfbkkjlijaabaaQx5
namespace Go.Proofs.Ytmfbkkjlijaabaa.Q
open Go.RowKit Go.Proofs.Ytmfbkkjlijaabaa.HB Go.Proofs.YtmfbkkjlijaabaaW.PrintWords Go.Proofs.YtmfbkkjlijaabaaW.PrintLast Go.Proofs.YtmfbkkjlijaabaaW.PrintMore
attribute [local go_sem] max2_int min2_int max_two min_two max_three min_three max_four min_four   -- for this text's walks alone
set_option linter.unusedVariables false
set_option linter.unusedSimpArgs false

/-! ### spec_l11Vote: function 42 -/

def spec_l11Vote.f (a0_0 : Int) (a0_1 : Int) (a0_2 : Int) (a0_3 : ByteArray) (a0_4 : Int) : Option (Bool) := if a0_0 = 2 then ((spec_l10View.f a0_1).bind fun t102 => (if t102 = true then ((spec_l10Seq.f a0_2).bind fun t103 => (if t103 = true then ((spec_OpRight.f a0_3).bind fun t104 => (if t104 = true then ((spec_l09Who.f a0_4).bind fun t105 => (some t105)) else (some false))) else (some false))) else (some false))) else (if a0_0 = 3 then ((spec_l10View.f a0_1).bind fun t106 => (if t106 = true then ((spec_l10Seq.f a0_2).bind fun t107 => (if t107 = true then ((spec_OpRight.f a0_3).bind fun t108 => (if t108 = true then ((spec_l09Who.f a0_4).bind fun t109 => (some t109)) else (some false))) else (some false))) else (some false))) else (some false))
set_option maxHeartbeats 60000000 in
set_option maxRecDepth 100000 in
theorem spec_l11Vote.calls (a0_0 : Int) (a0_1 : Int) (a0_2 : Int) (a0_3 : ByteArray) (a0_4 : Int) (r : Bool) (w : World) (h : spec_l11Vote.f a0_0 a0_1 a0_2 a0_3 a0_4 = some r) :
    Calls Try.prog 42 #[.agg #[.int .i64 a0_0, .int .i64 a0_1, .int .i64 a0_2, .string a0_3, .int .i64 a0_4]] w fun e w' => e = .returned (.bool r) ∧ Below w.heap.size w w' := by
 have hu67 := Try.underlying67; have HB := AM (Below.refl w.heap.size w); have H : (if a0_0 = 2 then ((spec_l10View.f a0_1).bind fun t102 => (if t102 = true then ((spec_l10Seq.f a0_2).bind fun t103 => (if t103 = true then ((spec_OpRight.f a0_3).bind fun t104 => (if t104 = true then ((spec_l09Who.f a0_4).bind fun t105 => (some t105)) else (some false))) else (some false))) else (some false))) else (if a0_0 = 3 then ((spec_l10View.f a0_1).bind fun t106 => (if t106 = true then ((spec_l10Seq.f a0_2).bind fun t107 => (if t107 = true then ((spec_OpRight.f a0_3).bind fun t108 => (if t108 = true then ((spec_l09Who.f a0_4).bind fun t109 => (some t109)) else (some false))) else (some false))) else (some false))) else (some false))) = some r := h; clear h; by_cases c2 : a0_0 = 2
 ·
  rw [if_pos c2] at H; have c2b0 : (a0_0 == 2) = true := beq_iff_eq.mpr c2; have c2b1 : (a0_0 != 2) = false := bne_eq_false_iff_eq.mpr c2; clear c2; replace H := oM H; obtain ⟨t102, A30, H⟩ := H; have A3 := AM A30; clear A30; by_cases c4 : t102 = true
  ·
   subst c4; rw [if_pos rfl] at H; replace H := oM H; obtain ⟨t103, A50, H⟩ := H; have A5 := AM A50; clear A50; by_cases c6 : t103 = true
   ·
    subst c6; rw [if_pos rfl] at H; replace H := oM H; obtain ⟨t104, A70, H⟩ := H; have A7 := AM A70; clear A70; by_cases c8 : t104 = true
    ·
     subst c8; rw [if_pos rfl] at H; replace H := oM H; obtain ⟨t105, A90, H⟩ := H; have A9 := AM A90; clear A90; obtain rfl := Option.some.inj H; go_enter Try.func42, Try.ntmps42
     go_wp2_with (first | (refine bE (N := 1) (cs := #[.int .i64 a0_0, .int .i64 a0_1, .int .i64 a0_2, .string a0_3, .int .i64 a0_4]) (t := 67) ?_; intro gb101 hg w10 hbox hb; have GW101 := gY hg HB; have GE101 := GW101; have BK101 := AM (hbox); replace HB := bY HB hb; clear hb hbox hg; have hcz11 := q5 BK101.out; have hfz11 := fZ BK101.out) | (go_at_call 46; (with_reducible refine (spec_l10View.calls _ _ _ A3.out).mono ?_); rintro e w' ⟨rfl, ⟨nd, rfl⟩⟩) | (go_at_call 47; (with_reducible refine (spec_l10Seq.calls _ _ _ A5.out).mono ?_); rintro e w' ⟨rfl, ⟨nd, rfl⟩⟩) | (go_at_call 48; (with_reducible refine (spec_OpRight.calls _ _ _ A7.out).mono ?_); rintro e w' ⟨rfl, ⟨nd, rfl⟩⟩) | (go_at_call 27; (with_reducible refine (spec_l09Who.calls _ _ _ A9.out).mono ?_); rintro e w' ⟨rfl, ⟨nd, rfl⟩⟩))
     go_ret
     exact ⟨rE, bX HB.out⟩
    replace c8 := oE c8; subst c8; rw [if_neg nft] at H; obtain rfl := Option.some.inj H; go_enter Try.func42, Try.ntmps42
    go_wp2_with (first | (refine bE (N := 1) (cs := #[.int .i64 a0_0, .int .i64 a0_1, .int .i64 a0_2, .string a0_3, .int .i64 a0_4]) (t := 67) ?_; intro gb101 hg w12 hbox hb; have GW101 := gY hg HB; have GE101 := GW101; have BK101 := AM (hbox); replace HB := bY HB hb; clear hb hbox hg; have hcz13 := q5 BK101.out; have hfz13 := fZ BK101.out) | (go_at_call 46; (with_reducible refine (spec_l10View.calls _ _ _ A3.out).mono ?_); rintro e w' ⟨rfl, ⟨nd, rfl⟩⟩) | (go_at_call 47; (with_reducible refine (spec_l10Seq.calls _ _ _ A5.out).mono ?_); rintro e w' ⟨rfl, ⟨nd, rfl⟩⟩) | (go_at_call 48; (with_reducible refine (spec_OpRight.calls _ _ _ A7.out).mono ?_); rintro e w' ⟨rfl, ⟨nd, rfl⟩⟩))
    go_ret
    exact ⟨rE, bX HB.out⟩
   replace c6 := oE c6; subst c6; rw [if_neg nft] at H; obtain rfl := Option.some.inj H; go_enter Try.func42, Try.ntmps42
   go_wp2_with (first | (refine bE (N := 1) (cs := #[.int .i64 a0_0, .int .i64 a0_1, .int .i64 a0_2, .string a0_3, .int .i64 a0_4]) (t := 67) ?_; intro gb101 hg w14 hbox hb; have GW101 := gY hg HB; have GE101 := GW101; have BK101 := AM (hbox); replace HB := bY HB hb; clear hb hbox hg; have hcz15 := q5 BK101.out; have hfz15 := fZ BK101.out) | (go_at_call 46; (with_reducible refine (spec_l10View.calls _ _ _ A3.out).mono ?_); rintro e w' ⟨rfl, ⟨nd, rfl⟩⟩) | (go_at_call 47; (with_reducible refine (spec_l10Seq.calls _ _ _ A5.out).mono ?_); rintro e w' ⟨rfl, ⟨nd, rfl⟩⟩))
   go_ret
   exact ⟨rE, bX HB.out⟩
  replace c4 := oE c4; subst c4; rw [if_neg nft] at H; obtain rfl := Option.some.inj H; go_enter Try.func42, Try.ntmps42
  go_wp2_with (first | (refine bE (N := 1) (cs := #[.int .i64 a0_0, .int .i64 a0_1, .int .i64 a0_2, .string a0_3, .int .i64 a0_4]) (t := 67) ?_; intro gb101 hg w16 hbox hb; have GW101 := gY hg HB; have GE101 := GW101; have BK101 := AM (hbox); replace HB := bY HB hb; clear hb hbox hg; have hcz17 := q5 BK101.out; have hfz17 := fZ BK101.out) | (go_at_call 46; (with_reducible refine (spec_l10View.calls _ _ _ A3.out).mono ?_); rintro e w' ⟨rfl, ⟨nd, rfl⟩⟩))
  go_ret
  exact ⟨rE, bX HB.out⟩
 rw [if_neg c2] at H; have c2b0 : (a0_0 == 2) = false := beq_eq_false_iff_ne.mpr c2; have c2b1 : (a0_0 != 2) = true := bne_iff_ne.mpr c2; by_cases c18 : a0_0 = 3
 ·
  rw [if_pos c18] at H; have c18b0 : (a0_0 == 3) = true := beq_iff_eq.mpr c18; have c18b1 : (a0_0 != 3) = false := bne_eq_false_iff_eq.mpr c18; clear c18; replace H := oM H; obtain ⟨t106, A190, H⟩ := H; have A19 := AM A190; clear A190; by_cases c20 : t106 = true
  ·
   subst c20; rw [if_pos rfl] at H; replace H := oM H; obtain ⟨t107, A210, H⟩ := H; have A21 := AM A210; clear A210; by_cases c22 : t107 = true
   ·
    subst c22; rw [if_pos rfl] at H; replace H := oM H; obtain ⟨t108, A230, H⟩ := H; have A23 := AM A230; clear A230; by_cases c24 : t108 = true
    ·
     subst c24; rw [if_pos rfl] at H; replace H := oM H; obtain ⟨t109, A250, H⟩ := H; have A25 := AM A250; clear A250; obtain rfl := Option.some.inj H; go_enter Try.func42, Try.ntmps42
     go_wp2_with (first | (refine bE (N := 1) (cs := #[.int .i64 a0_0, .int .i64 a0_1, .int .i64 a0_2, .string a0_3, .int .i64 a0_4]) (t := 67) ?_; intro gb101 hg w26 hbox hb; have GW101 := gY hg HB; have GE101 := GW101; have BK101 := AM (hbox); replace HB := bY HB hb; clear hb hbox hg; have hcz27 := q5 BK101.out; have hfz27 := fZ BK101.out) | (go_at_call 46; (with_reducible refine (spec_l10View.calls _ _ _ A19.out).mono ?_); rintro e w' ⟨rfl, ⟨nd, rfl⟩⟩) | (go_at_call 47; (with_reducible refine (spec_l10Seq.calls _ _ _ A21.out).mono ?_); rintro e w' ⟨rfl, ⟨nd, rfl⟩⟩) | (go_at_call 48; (with_reducible refine (spec_OpRight.calls _ _ _ A23.out).mono ?_); rintro e w' ⟨rfl, ⟨nd, rfl⟩⟩) | (go_at_call 27; (with_reducible refine (spec_l09Who.calls _ _ _ A25.out).mono ?_); rintro e w' ⟨rfl, ⟨nd, rfl⟩⟩))
     go_ret
     exact ⟨rE, bX HB.out⟩
    replace c24 := oE c24; subst c24; rw [if_neg nft] at H; obtain rfl := Option.some.inj H; go_enter Try.func42, Try.ntmps42
    go_wp2_with (first | (refine bE (N := 1) (cs := #[.int .i64 a0_0, .int .i64 a0_1, .int .i64 a0_2, .string a0_3, .int .i64 a0_4]) (t := 67) ?_; intro gb101 hg w28 hbox hb; have GW101 := gY hg HB; have GE101 := GW101; have BK101 := AM (hbox); replace HB := bY HB hb; clear hb hbox hg; have hcz29 := q5 BK101.out; have hfz29 := fZ BK101.out) | (go_at_call 46; (with_reducible refine (spec_l10View.calls _ _ _ A19.out).mono ?_); rintro e w' ⟨rfl, ⟨nd, rfl⟩⟩) | (go_at_call 47; (with_reducible refine (spec_l10Seq.calls _ _ _ A21.out).mono ?_); rintro e w' ⟨rfl, ⟨nd, rfl⟩⟩) | (go_at_call 48; (with_reducible refine (spec_OpRight.calls _ _ _ A23.out).mono ?_); rintro e w' ⟨rfl, ⟨nd, rfl⟩⟩))
    go_ret
    exact ⟨rE, bX HB.out⟩
   replace c22 := oE c22; subst c22; rw [if_neg nft] at H; obtain rfl := Option.some.inj H; go_enter Try.func42, Try.ntmps42
   go_wp2_with (first | (refine bE (N := 1) (cs := #[.int .i64 a0_0, .int .i64 a0_1, .int .i64 a0_2, .string a0_3, .int .i64 a0_4]) (t := 67) ?_; intro gb101 hg w30 hbox hb; have GW101 := gY hg HB; have GE101 := GW101; have BK101 := AM (hbox); replace HB := bY HB hb; clear hb hbox hg; have hcz31 := q5 BK101.out; have hfz31 := fZ BK101.out) | (go_at_call 46; (with_reducible refine (spec_l10View.calls _ _ _ A19.out).mono ?_); rintro e w' ⟨rfl, ⟨nd, rfl⟩⟩) | (go_at_call 47; (with_reducible refine (spec_l10Seq.calls _ _ _ A21.out).mono ?_); rintro e w' ⟨rfl, ⟨nd, rfl⟩⟩))
   go_ret
   exact ⟨rE, bX HB.out⟩
  replace c20 := oE c20; subst c20; rw [if_neg nft] at H; obtain rfl := Option.some.inj H; go_enter Try.func42, Try.ntmps42
  go_wp2_with (first | (refine bE (N := 1) (cs := #[.int .i64 a0_0, .int .i64 a0_1, .int .i64 a0_2, .string a0_3, .int .i64 a0_4]) (t := 67) ?_; intro gb101 hg w32 hbox hb; have GW101 := gY hg HB; have GE101 := GW101; have BK101 := AM (hbox); replace HB := bY HB hb; clear hb hbox hg; have hcz33 := q5 BK101.out; have hfz33 := fZ BK101.out) | (go_at_call 46; (with_reducible refine (spec_l10View.calls _ _ _ A19.out).mono ?_); rintro e w' ⟨rfl, ⟨nd, rfl⟩⟩))
  go_ret
  exact ⟨rE, bX HB.out⟩
 rw [if_neg c18] at H; have c18b0 : (a0_0 == 3) = false := beq_eq_false_iff_ne.mpr c18; have c18b1 : (a0_0 != 3) = true := bne_iff_ne.mpr c18; obtain rfl := Option.some.inj H; go_enter Try.func42, Try.ntmps42
 go_wp2_with (first | (refine bE (N := 1) (cs := #[.int .i64 a0_0, .int .i64 a0_1, .int .i64 a0_2, .string a0_3, .int .i64 a0_4]) (t := 67) ?_; intro gb101 hg w34 hbox hb; have GW101 := gY hg HB; have GE101 := GW101; have BK101 := AM (hbox); replace HB := bY HB hb; clear hb hbox hg; have hcz35 := q5 BK101.out; have hfz35 := fZ BK101.out))
 go_ret
 exact ⟨rE, bX HB.out⟩

/-! ### spec_l11Same: function 59 -/

def spec_l11Same.f (a0_0 : Int) (a0_1 : Int) (a0_2 : Int) (a0_3 : ByteArray) (a0_4 : Int) (a1_0 : Int) (a1_1 : Int) (a1_2 : Int) (a1_3 : ByteArray) (a1_4 : Int) : Option (Bool) := if a0_0 = a1_0 then (if a0_1 = a1_1 then (if a0_2 = a1_2 then (some (a0_4 == a1_4)) else (some false)) else (some false)) else (some false)
set_option maxHeartbeats 60000000 in
set_option maxRecDepth 100000 in
theorem spec_l11Same.calls (a0_0 : Int) (a0_1 : Int) (a0_2 : Int) (a0_3 : ByteArray) (a0_4 : Int) (a1_0 : Int) (a1_1 : Int) (a1_2 : Int) (a1_3 : ByteArray) (a1_4 : Int) (r : Bool) (w : World) (h : spec_l11Same.f a0_0 a0_1 a0_2 a0_3 a0_4 a1_0 a1_1 a1_2 a1_3 a1_4 = some r) :
    Calls Try.prog 59 #[.agg #[.int .i64 a0_0, .int .i64 a0_1, .int .i64 a0_2, .string a0_3, .int .i64 a0_4], .agg #[.int .i64 a1_0, .int .i64 a1_1, .int .i64 a1_2, .string a1_3, .int .i64 a1_4]] w fun e w' => e = .returned (.bool r) ∧ Below w.heap.size w w' := by
 have hu67 := Try.underlying67; have HB := AM (Below.refl w.heap.size w); have H : (if a0_0 = a1_0 then (if a0_1 = a1_1 then (if a0_2 = a1_2 then (some (a0_4 == a1_4)) else (some false)) else (some false)) else (some false)) = some r := h; clear h; by_cases c3 : a0_0 = a1_0
 ·
  rw [if_pos c3] at H; have c3b0 : (a0_0 == a1_0) = true := beq_iff_eq.mpr c3; have c3b1 : (a0_0 != a1_0) = false := bne_eq_false_iff_eq.mpr c3; clear c3; by_cases c4 : a0_1 = a1_1
  ·
   rw [if_pos c4] at H; have c4b0 : (a0_1 == a1_1) = true := beq_iff_eq.mpr c4; have c4b1 : (a0_1 != a1_1) = false := bne_eq_false_iff_eq.mpr c4; clear c4; by_cases c5 : a0_2 = a1_2
   ·
    rw [if_pos c5] at H; have c5b0 : (a0_2 == a1_2) = true := beq_iff_eq.mpr c5; have c5b1 : (a0_2 != a1_2) = false := bne_eq_false_iff_eq.mpr c5; clear c5; obtain rfl := Option.some.inj H; go_enter Try.func59, Try.ntmps59
    go_wp2_with (first | (refine bE (N := 2) (cs := #[.int .i64 a0_0, .int .i64 a0_1, .int .i64 a0_2, .string a0_3, .int .i64 a0_4]) (t := 67) ?_; intro gb101 hg w6 hbox hb; have GW101 := gY hg HB; have GE101 := GW101; have BK101 := AM (hbox); replace HB := bY HB hb; clear hb hbox hg) | (refine bE (N := 3) (cs := #[.int .i64 a1_0, .int .i64 a1_1, .int .i64 a1_2, .string a1_3, .int .i64 a1_4]) (t := 67) ?_; intro gb102 hg w7 hbox hb; have GW102 := gY hg HB; have GE102 := GW102; have BK102 := AM (hbox); have NB101_102 := lY hg BK101; have NB102_101 := sY NB101_102; replace BK101 := nY BK101 hb; replace HB := bY HB hb; clear hb hbox hg; have hnb8 := nP NB101_102; have hcz9 := q5 BK101.out; have hfz9 := fZ BK101.out; have hcz10 := q5 BK102.out; have hfz10 := fZ BK102.out))
    go_ret
    exact ⟨rE, bX HB.out⟩
   rw [if_neg c5] at H; have c5b0 : (a0_2 == a1_2) = false := beq_eq_false_iff_ne.mpr c5; have c5b1 : (a0_2 != a1_2) = true := bne_iff_ne.mpr c5; obtain rfl := Option.some.inj H; go_enter Try.func59, Try.ntmps59
   go_wp2_with (first | (refine bE (N := 2) (cs := #[.int .i64 a0_0, .int .i64 a0_1, .int .i64 a0_2, .string a0_3, .int .i64 a0_4]) (t := 67) ?_; intro gb101 hg w11 hbox hb; have GW101 := gY hg HB; have GE101 := GW101; have BK101 := AM (hbox); replace HB := bY HB hb; clear hb hbox hg) | (refine bE (N := 3) (cs := #[.int .i64 a1_0, .int .i64 a1_1, .int .i64 a1_2, .string a1_3, .int .i64 a1_4]) (t := 67) ?_; intro gb102 hg w12 hbox hb; have GW102 := gY hg HB; have GE102 := GW102; have BK102 := AM (hbox); have NB101_102 := lY hg BK101; have NB102_101 := sY NB101_102; replace BK101 := nY BK101 hb; replace HB := bY HB hb; clear hb hbox hg; have hnb13 := nP NB101_102; have hcz14 := q5 BK101.out; have hfz14 := fZ BK101.out; have hcz15 := q5 BK102.out; have hfz15 := fZ BK102.out))
   go_ret
   exact ⟨rE, bX HB.out⟩
  rw [if_neg c4] at H; have c4b0 : (a0_1 == a1_1) = false := beq_eq_false_iff_ne.mpr c4; have c4b1 : (a0_1 != a1_1) = true := bne_iff_ne.mpr c4; obtain rfl := Option.some.inj H; go_enter Try.func59, Try.ntmps59
  go_wp2_with (first | (refine bE (N := 2) (cs := #[.int .i64 a0_0, .int .i64 a0_1, .int .i64 a0_2, .string a0_3, .int .i64 a0_4]) (t := 67) ?_; intro gb101 hg w16 hbox hb; have GW101 := gY hg HB; have GE101 := GW101; have BK101 := AM (hbox); replace HB := bY HB hb; clear hb hbox hg) | (refine bE (N := 3) (cs := #[.int .i64 a1_0, .int .i64 a1_1, .int .i64 a1_2, .string a1_3, .int .i64 a1_4]) (t := 67) ?_; intro gb102 hg w17 hbox hb; have GW102 := gY hg HB; have GE102 := GW102; have BK102 := AM (hbox); have NB101_102 := lY hg BK101; have NB102_101 := sY NB101_102; replace BK101 := nY BK101 hb; replace HB := bY HB hb; clear hb hbox hg; have hnb18 := nP NB101_102; have hcz19 := q5 BK101.out; have hfz19 := fZ BK101.out; have hcz20 := q5 BK102.out; have hfz20 := fZ BK102.out))
  go_ret
  exact ⟨rE, bX HB.out⟩
 rw [if_neg c3] at H; have c3b0 : (a0_0 == a1_0) = false := beq_eq_false_iff_ne.mpr c3; have c3b1 : (a0_0 != a1_0) = true := bne_iff_ne.mpr c3; obtain rfl := Option.some.inj H; go_enter Try.func59, Try.ntmps59
 go_wp2_with (first | (refine bE (N := 2) (cs := #[.int .i64 a0_0, .int .i64 a0_1, .int .i64 a0_2, .string a0_3, .int .i64 a0_4]) (t := 67) ?_; intro gb101 hg w21 hbox hb; have GW101 := gY hg HB; have GE101 := GW101; have BK101 := AM (hbox); replace HB := bY HB hb; clear hb hbox hg) | (refine bE (N := 3) (cs := #[.int .i64 a1_0, .int .i64 a1_1, .int .i64 a1_2, .string a1_3, .int .i64 a1_4]) (t := 67) ?_; intro gb102 hg w22 hbox hb; have GW102 := gY hg HB; have GE102 := GW102; have BK102 := AM (hbox); have NB101_102 := lY hg BK101; have NB102_101 := sY NB101_102; replace BK101 := nY BK101 hb; replace HB := bY HB hb; clear hb hbox hg; have hnb23 := nP NB101_102; have hcz24 := q5 BK101.out; have hfz24 := fZ BK101.out; have hcz25 := q5 BK102.out; have hfz25 := fZ BK102.out))
 go_ret
 exact ⟨rE, bX HB.out⟩

/-! ### spec_l11Has: function 43 -/

def spec_l11Has.l0 : Nat → List (S67) → Int → Int → Int → Int → ByteArray → Int → Option (Bool)
  | 0, _, _, _, _, _, _, _ => none
  | k + 1, x0, x5, x102000, x102001, x102002, x102003, x102004 => if x5 < (x0.length : Int) then (if 0 ≤ x5 then ((spec_l11Same.f ((rd_T67 x0 x5).f0) ((rd_T67 x0 x5).f1) ((rd_T67 x0 x5).f2) ((rd_T67 x0 x5).f3) ((rd_T67 x0 x5).f4) x102000 x102001 x102002 x102003 x102004).bind fun t103 => (if t103 = true then (some true) else (spec_l11Has.l0 k x0 (wrap64 (x5 + 1)) x102000 x102001 x102002 x102003 x102004))) else (none)) else (some false)
def spec_l11Has.f (k : Nat) (l0 : List (S67)) (a1_0 : Int) (a1_1 : Int) (a1_2 : Int) (a1_3 : ByteArray) (a1_4 : Int) : Option (Bool) := spec_l11Has.l0 k l0 0 a1_0 a1_1 a1_2 a1_3 a1_4
set_option maxHeartbeats 60000000 in
set_option maxRecDepth 100000 in
theorem spec_l11Has.calls (k : Nat) (A0 : Option Addr) (c0 : Nat) (l0 : List (S67)) (a1_0 : Int) (a1_1 : Int) (a1_2 : Int) (a1_3 : ByteArray) (a1_4 : Int) (r : Bool) (w : World) (hr0 : Kd.C k67 w A0 l0.length l0) (hc0 : l0.length ≤ c0) (h : spec_l11Has.f k l0 a1_0 a1_1 a1_2 a1_3 a1_4 = some r) :
    Calls Try.prog 43 #[.slice A0 l0.length c0, .agg #[.int .i64 a1_0, .int .i64 a1_1, .int .i64 a1_2, .string a1_3, .int .i64 a1_4]] w fun e w' => e = .returned (.bool r) ∧ Below w.heap.size w w' := by
 have hu67 := Try.underlying67; have HR0 := AM hr0; have HC0 := AM hc0; clear hr0 hc0; have HB := AM (Below.refl w.heap.size w); have H : (spec_l11Has.l0 k l0 0 a1_0 a1_1 a1_2 a1_3 a1_4) = some r := h; clear h; have H' := AM H; clear H; go_enter Try.func43, Try.ntmps43
 go_wp2_with (first | (refine bE (N := 3) (cs := #[.int .i64 a1_0, .int .i64 a1_1, .int .i64 a1_2, .string a1_3, .int .i64 a1_4]) (t := 67) ?_; intro gb101 hg w3 hbox hb; have GW101 := gY hg HB; have GE101 := GW101; have BK101 := AM (hbox); replace HB := bY HB hb; clear hb hbox hg))
 go_loopg [5] k (fun kq v5 w' => ∃ (x5_1 : Int), v5 = .int .i64 x5_1 ∧ Aside0 (spec_l11Has.l0 kq l0 x5_1 a1_0 a1_1 a1_2 a1_3 a1_4 = some r) ∧ Aside0 (kq ≤ k) ∧ Aside0 (w'.heap[gb101]? = some (.cells #[.int .i64 a1_0, .int .i64 a1_1, .int .i64 a1_2, .string a1_3, .int .i64 a1_4] 67 (0, 0))) ∧ Aside0 (Below w.heap.size w w'))
 case atStart => exact ⟨(0), rR, H', ⟨Nat.le_refl _⟩, ⟨kX BK101.out⟩, ⟨bX HB.out⟩⟩
 case round =>
  clear H'; try clear p2
  obtain ⟨x5_1, rfl, HA, HK1, BK101, HB⟩ := hrel
  cases gk with
  | zero => exact absurd HA.out (by simp [spec_l11Has.l0])
  | succ k1 =>
   have H := HA.out; clear HA; simp only [spec_l11Has.l0] at H
   by_cases c4 : x5_1 < (l0.length : Int)
   ·
    rw [if_pos c4] at H; have c4b0 := dY c4; clear c4; by_cases c5 : 0 ≤ x5_1
    ·
     rw [if_pos c5] at H; have c5b0 := dY c5; clear c5; replace H := oM H; obtain ⟨t103, A60, H⟩ := H; have A6 := AM A60; clear A60; by_cases c7 : t103 = true
     ·
      subst c7; rw [if_pos rfl] at H; obtain rfl := Option.some.inj H; try go_wp2
      replace BK101 := kDY BK101; replace HB := bDY HB; obtain ⟨p102, q102, ad102, e102, hx102_0, hx102_1, hx102_2, hx102_3, hx102_4⟩ := pQ (at_T67 HR0.out x5_1); have hw102_4 := hx102_4; have hw102_3 := hx102_3; have hw102_2 := hx102_2; have hw102_1 := hx102_1; have hw102_0 := hx102_0; cases e102; replace hx102_0 := pB HB.out hx102_0; replace hx102_1 := pB HB.out hx102_1; replace hx102_2 := pB HB.out hx102_2; replace hx102_3 := pB HB.out hx102_3; replace hx102_4 := pB HB.out hx102_4; refine start_ (n := 6) (S := fun w' => w'.cell? ⟨gb101, 0, none⟩ = some (.int .i64 a1_0) ∧ w'.cell? ⟨gb101, 1, none⟩ = some (.int .i64 a1_1) ∧ w'.cell? ⟨gb101, 2, none⟩ = some (.int .i64 a1_2) ∧ w'.cell? ⟨gb101, 3, none⟩ = some (.string a1_3) ∧ w'.cell? ⟨gb101, 4, none⟩ = some (.int .i64 a1_4) ∧ w'.cell? (ad102.add ((x5_1).toNat * 5)) = some (.int .i64 ((rd_T67 l0 x5_1).f0)) ∧ w'.cell? ⟨(ad102.add ((x5_1).toNat * 5)).block, (ad102.add ((x5_1).toNat * 5)).off + 1, none⟩ = some (.int .i64 ((rd_T67 l0 x5_1).f1)) ∧ w'.cell? ⟨(ad102.add ((x5_1).toNat * 5)).block, (ad102.add ((x5_1).toNat * 5)).off + 2, none⟩ = some (.int .i64 ((rd_T67 l0 x5_1).f2)) ∧ w'.cell? ⟨(ad102.add ((x5_1).toNat * 5)).block, (ad102.add ((x5_1).toNat * 5)).off + 3, none⟩ = some (.string ((rd_T67 l0 x5_1).f3)) ∧ w'.cell? ⟨(ad102.add ((x5_1).toNat * 5)).block, (ad102.add ((x5_1).toNat * 5)).off + 4, none⟩ = some (.int .i64 ((rd_T67 l0 x5_1).f4))) (ds := []) (upTo 0 6) (by kernel_rfl) rfl rfl ⟨hC BK101.out 0, hC BK101.out 1, hC BK101.out 2, hC BK101.out 3, hC BK101.out 4, (pB HB.out hw102_0), (pB HB.out hw102_1), (pB HB.out hw102_2), (pB HB.out hw102_3), (pB HB.out hw102_4)⟩ (fun hHeld => ?_); generalize wr.drew = w8 at BK101 HB hx102_0 hx102_1 hx102_2 hx102_3 hx102_4 hHeld ⊢; refine pure_ (i := 0) (N := some 12) (v := ?_) (a' := ?_) (upTo 1 6) rfl rfl (by kernel_rfl) (fun _ _ _ h => h) (Or.inl ⟨by rfl, ?_⟩) ?_ ?_; rotate_left
      ·
       intro w'; go_simp
       with_reducible rfl
      rotate_left
      ·
       simp only [Act.put, sA, sB, sC, i64_w, i32_w]
       rfl
      refine pure_ (i := 1) (N := some 13) (v := ?_) (a' := ?_) (upTo 2 6) rfl rfl (by kernel_rfl) (fun _ _ _ h => h) (Or.inl ⟨by rfl, ?_⟩) ?_ ?_; rotate_left
      ·
       intro w'; go_simp
       with_reducible rfl
      rotate_left
      ·
       simp only [Act.put, sA, sB, sC, i64_w, i32_w]
       rfl
      refine pure_ (i := 2) (N := some 14) (v := ?_) (a' := ?_) (upTo 3 6) rfl rfl (by kernel_rfl) (fun _ _ _ h => h) (Or.inl ⟨by rfl, ?_⟩) ?_ ?_; rotate_left
      ·
       intro w'; go_simp
       with_reducible rfl
      rotate_left
      ·
       simp only [Act.put, sA, sB, sC, i64_w, i32_w]
       rfl
      refine take_ (i := 3) (N := some 15) (v := ?_) (a' := ?_) (upTo 4 6) rfl rfl (by kernel_rfl) (fun _ _ _ h => h) (Or.inl ⟨by rfl, ?_⟩) hHeld ?_ ?_
      rotate_left; (focus (rintro w' ⟨s0, s1, s2, s3, s4, s5, s6, s7, s8, s9⟩; go_simp; with_reducible rfl))
      rotate_left; (focus (simp only [Act.put, sA, sB, sC, i64_w, i32_w]; rfl))
      refine take_ (i := 4) (N := some 16) (v := ?_) (a' := ?_) (upTo 5 6) rfl rfl (by kernel_rfl) (fun _ _ _ h => h) (Or.inl ⟨by rfl, ?_⟩) hHeld ?_ ?_
      rotate_left; (focus (rintro w' ⟨s0, s1, s2, s3, s4, s5, s6, s7, s8, s9⟩; go_simp; with_reducible rfl))
      rotate_left; (focus (simp only [Act.put, sA, sB, sC, i64_w, i32_w]; rfl))
      refine one_ (i := 5) (N := some 17) (upTo 6 6) rfl rfl (by kernel_rfl) (by decide) (fun K hK => ?_); refine gs Try.func59 #[.agg #[.int .i64 ((rd_T67 l0 x5_1).f0), .int .i64 ((rd_T67 l0 x5_1).f1), .int .i64 ((rd_T67 l0 x5_1).f2), .string ((rd_T67 l0 x5_1).f3), .int .i64 ((rd_T67 l0 x5_1).f4)], .agg #[.int .i64 a1_0, .int .i64 a1_1, .int .i64 a1_2, .string a1_3, .int .i64 a1_4]] ?_; with_reducible refine (spec_l11Same.calls ((rd_T67 l0 x5_1).f0) ((rd_T67 l0 x5_1).f1) ((rd_T67 l0 x5_1).f2) ((rd_T67 l0 x5_1).f3) ((rd_T67 l0 x5_1).f4) a1_0 a1_1 a1_2 a1_3 a1_4 true _ A6.out).mono ?_
      rintro e w9 ⟨rfl, hb⟩; refine ⟨_, rfl, ?_⟩; replace BK101 := nY BK101 hb; replace HB := bY HB hb; refine hK.out _ _ ⟨hC BK101.out 0, hC BK101.out 1, hC BK101.out 2, hC BK101.out 3, hC BK101.out 4, (pB HB.out hw102_0), (pB HB.out hw102_1), (pB HB.out hw102_2), (pB HB.out hw102_3), (pB HB.out hw102_4)⟩ (fun hHeld => ?_); clear hK K; refine nS 17 ?_
      refine done_ (by kernel_rfl) ?_; try go_wp2
      go_ret
      exact ⟨rE, bX HB.out⟩
     replace c7 := oE c7; subst c7; rw [if_neg nft] at H; have H' := AM H; clear H; try go_wp2
     replace BK101 := kDY BK101; replace HB := bDY HB; obtain ⟨p102, q102, ad102, e102, hx102_0, hx102_1, hx102_2, hx102_3, hx102_4⟩ := pQ (at_T67 HR0.out x5_1); have hw102_4 := hx102_4; have hw102_3 := hx102_3; have hw102_2 := hx102_2; have hw102_1 := hx102_1; have hw102_0 := hx102_0; cases e102; replace hx102_0 := pB HB.out hx102_0; replace hx102_1 := pB HB.out hx102_1; replace hx102_2 := pB HB.out hx102_2; replace hx102_3 := pB HB.out hx102_3; replace hx102_4 := pB HB.out hx102_4; refine start_ (n := 6) (S := fun w' => w'.cell? ⟨gb101, 0, none⟩ = some (.int .i64 a1_0) ∧ w'.cell? ⟨gb101, 1, none⟩ = some (.int .i64 a1_1) ∧ w'.cell? ⟨gb101, 2, none⟩ = some (.int .i64 a1_2) ∧ w'.cell? ⟨gb101, 3, none⟩ = some (.string a1_3) ∧ w'.cell? ⟨gb101, 4, none⟩ = some (.int .i64 a1_4) ∧ w'.cell? (ad102.add ((x5_1).toNat * 5)) = some (.int .i64 ((rd_T67 l0 x5_1).f0)) ∧ w'.cell? ⟨(ad102.add ((x5_1).toNat * 5)).block, (ad102.add ((x5_1).toNat * 5)).off + 1, none⟩ = some (.int .i64 ((rd_T67 l0 x5_1).f1)) ∧ w'.cell? ⟨(ad102.add ((x5_1).toNat * 5)).block, (ad102.add ((x5_1).toNat * 5)).off + 2, none⟩ = some (.int .i64 ((rd_T67 l0 x5_1).f2)) ∧ w'.cell? ⟨(ad102.add ((x5_1).toNat * 5)).block, (ad102.add ((x5_1).toNat * 5)).off + 3, none⟩ = some (.string ((rd_T67 l0 x5_1).f3)) ∧ w'.cell? ⟨(ad102.add ((x5_1).toNat * 5)).block, (ad102.add ((x5_1).toNat * 5)).off + 4, none⟩ = some (.int .i64 ((rd_T67 l0 x5_1).f4))) (ds := []) (upTo 0 6) (by kernel_rfl) rfl rfl ⟨hC BK101.out 0, hC BK101.out 1, hC BK101.out 2, hC BK101.out 3, hC BK101.out 4, (pB HB.out hw102_0), (pB HB.out hw102_1), (pB HB.out hw102_2), (pB HB.out hw102_3), (pB HB.out hw102_4)⟩ (fun hHeld => ?_); generalize wr.drew = w10 at BK101 HB hx102_0 hx102_1 hx102_2 hx102_3 hx102_4 hHeld ⊢; refine pure_ (i := 0) (N := some 12) (v := ?_) (a' := ?_) (upTo 1 6) rfl rfl (by kernel_rfl) (fun _ _ _ h => h) (Or.inl ⟨by rfl, ?_⟩) ?_ ?_; rotate_left
     ·
      intro w'; go_simp
      with_reducible rfl
     rotate_left
     ·
      simp only [Act.put, sA, sB, sC, i64_w, i32_w]
      rfl
     refine pure_ (i := 1) (N := some 13) (v := ?_) (a' := ?_) (upTo 2 6) rfl rfl (by kernel_rfl) (fun _ _ _ h => h) (Or.inl ⟨by rfl, ?_⟩) ?_ ?_; rotate_left
     ·
      intro w'; go_simp
      with_reducible rfl
     rotate_left
     ·
      simp only [Act.put, sA, sB, sC, i64_w, i32_w]
      rfl
     refine pure_ (i := 2) (N := some 14) (v := ?_) (a' := ?_) (upTo 3 6) rfl rfl (by kernel_rfl) (fun _ _ _ h => h) (Or.inl ⟨by rfl, ?_⟩) ?_ ?_; rotate_left
     ·
      intro w'; go_simp
      with_reducible rfl
     rotate_left
     ·
      simp only [Act.put, sA, sB, sC, i64_w, i32_w]
      rfl
     refine take_ (i := 3) (N := some 15) (v := ?_) (a' := ?_) (upTo 4 6) rfl rfl (by kernel_rfl) (fun _ _ _ h => h) (Or.inl ⟨by rfl, ?_⟩) hHeld ?_ ?_
     rotate_left; (focus (rintro w' ⟨s0, s1, s2, s3, s4, s5, s6, s7, s8, s9⟩; go_simp; with_reducible rfl))
     rotate_left; (focus (simp only [Act.put, sA, sB, sC, i64_w, i32_w]; rfl))
     refine take_ (i := 4) (N := some 16) (v := ?_) (a' := ?_) (upTo 5 6) rfl rfl (by kernel_rfl) (fun _ _ _ h => h) (Or.inl ⟨by rfl, ?_⟩) hHeld ?_ ?_
     rotate_left; (focus (rintro w' ⟨s0, s1, s2, s3, s4, s5, s6, s7, s8, s9⟩; go_simp; with_reducible rfl))
     rotate_left; (focus (simp only [Act.put, sA, sB, sC, i64_w, i32_w]; rfl))
     refine one_ (i := 5) (N := some 17) (upTo 6 6) rfl rfl (by kernel_rfl) (by decide) (fun K hK => ?_); refine gs Try.func59 #[.agg #[.int .i64 ((rd_T67 l0 x5_1).f0), .int .i64 ((rd_T67 l0 x5_1).f1), .int .i64 ((rd_T67 l0 x5_1).f2), .string ((rd_T67 l0 x5_1).f3), .int .i64 ((rd_T67 l0 x5_1).f4)], .agg #[.int .i64 a1_0, .int .i64 a1_1, .int .i64 a1_2, .string a1_3, .int .i64 a1_4]] ?_; with_reducible refine (spec_l11Same.calls ((rd_T67 l0 x5_1).f0) ((rd_T67 l0 x5_1).f1) ((rd_T67 l0 x5_1).f2) ((rd_T67 l0 x5_1).f3) ((rd_T67 l0 x5_1).f4) a1_0 a1_1 a1_2 a1_3 a1_4 false _ A6.out).mono ?_
     rintro e w11 ⟨rfl, hb⟩; refine ⟨_, rfl, ?_⟩; replace BK101 := nY BK101 hb; replace HB := bY HB hb; refine hK.out _ _ ⟨hC BK101.out 0, hC BK101.out 1, hC BK101.out 2, hC BK101.out 3, hC BK101.out 4, (pB HB.out hw102_0), (pB HB.out hw102_1), (pB HB.out hw102_2), (pB HB.out hw102_3), (pB HB.out hw102_4)⟩ (fun hHeld => ?_); clear hK K; refine nS 17 ?_
     refine done_ (by kernel_rfl) ?_; try go_wp2
     go_roundg k1
     case measure => have := HK1.out; omega
     case rel => exact ⟨(wrap64 (x5_1 + 1)), rR, H', ⟨by have := HK1.out; omega⟩, ⟨kX BK101.out⟩, ⟨bX HB.out⟩⟩
    rw [if_neg c5] at H; exact absurd H (by simp)
   rw [if_neg c4] at H; have c4b0 := dN c4; clear c4; obtain rfl := Option.some.inj H; go_wp2
   go_ret
   exact ⟨rE, bX HB.out⟩

/-! ### spec_VotesRight: function 26 -/

def spec_VotesRight.l0 : Nat → List (S67) → Int → Option (Bool)
  | 0, _, _ => none
  | k + 1, x0, x3 => if x3 < (x0.length : Int) then (if 0 ≤ x3 then ((spec_l11Vote.f ((rd_T67 x0 x3).f0) ((rd_T67 x0 x3).f1) ((rd_T67 x0 x3).f2) ((rd_T67 x0 x3).f3) ((rd_T67 x0 x3).f4)).bind fun t102 => (if t102 = true then (if x3 ≤ (x0.length : Int) then ((spec_l11Has.f k (x0.take (x3 : Int).toNat) ((rd_T67 x0 x3).f0) ((rd_T67 x0 x3).f1) ((rd_T67 x0 x3).f2) ((rd_T67 x0 x3).f3) ((rd_T67 x0 x3).f4)).bind fun t108 => (if t108 = true then (some false) else (spec_VotesRight.l0 k x0 (wrap64 (x3 + 1))))) else (none)) else (some false))) else (none)) else (some true)
def spec_VotesRight.f (k : Nat) (l0 : List (S67)) : Option (Bool) := if (l0.length : Int) > 400 then (some false) else (spec_VotesRight.l0 k l0 0)
def spec_VotesRight.T6 : Bool × List (List Nat × List Nat) := (true, [([], []), ([], []), ([0, 1], [0, 1]), ([2], [2]), ([3], [3]), ([4], [4]), ([5, 4], [5]), ([6], [6]), ([6], [6]), ([7, 8, 6], [6, 7, 8]), ([6], [6]), ([6], [6]), ([10, 11, 6], [6, 10, 11]), ([12, 6], [6, 12]), ([9, 13, 6, 6], [6, 9, 13]), ([6, 14], [6, 14])])
def spec_VotesRight.B6 : List Nat := [0, 0, 3, 7, 15, 31, 63, 127, 127, 511, 127, 127, 3199, 7295, 16383, 32767]
theorem spec_VotesRight.tab6 : rtab .any (opsOf Try.f26 6) = spec_VotesRight.T6 := by kernel_rfl
theorem spec_VotesRight.bits6 : waitsOk spec_VotesRight.T6.2 spec_VotesRight.B6 = true := by kernel_rfl
set_option maxHeartbeats 60000000 in
set_option maxRecDepth 100000 in
theorem spec_VotesRight.calls (k : Nat) (A0 : Option Addr) (c0 : Nat) (l0 : List (S67)) (r : Bool) (w : World) (hr0 : Kd.C k67 w A0 l0.length l0) (hc0 : l0.length ≤ c0) (h : spec_VotesRight.f k l0 = some r) :
    Calls Try.prog 26 #[.slice A0 l0.length c0] w fun e w' => e = .returned (.bool r) ∧ Below w.heap.size w w' := by
 have hu67 := Try.underlying67; have HR0 := AM hr0; have HC0 := AM hc0; clear hr0 hc0; have HB := AM (Below.refl w.heap.size w); have H : (if (l0.length : Int) > 400 then (some false) else (spec_VotesRight.l0 k l0 0)) = some r := h; clear h; by_cases c2 : (l0.length : Int) > 400
 ·
  rw [if_pos c2] at H; have c2b0 : decide (400 < (l0.length : Int)) = true := dY c2; have c2b1 : decide (400 < l0.length) = true := dY (by omega); clear c2; obtain rfl := Option.some.inj H; go_enter Try.func26, Try.ntmps26
  go_wp2
  go_ret
  exact ⟨rE, bX HB.out⟩
 rw [if_neg c2] at H; have c2b0 : decide (400 < (l0.length : Int)) = false := dN c2; have c2b1 : decide (400 < l0.length) = false := dN (by omega); clear c2; have H' := AM H; clear H; go_enter Try.func26, Try.ntmps26
 go_wp2
 go_loopg [3] k (fun kq v3 w' => ∃ (x3_1 : Int), v3 = .int .i64 x3_1 ∧ Aside0 (spec_VotesRight.l0 kq l0 x3_1 = some r) ∧ Aside0 (kq ≤ k) ∧ Aside0 (Below w.heap.size w w'))
 case atStart => exact ⟨(0), rR, H', ⟨Nat.le_refl _⟩, ⟨bX HB.out⟩⟩
 case round =>
  clear H'; (try clear c2); (try clear c2b0); (try clear c2b1); (try clear p2); obtain ⟨x3_1, rfl, HA, HK1, HB⟩ := hrel
  cases gk with
  | zero => exact absurd HA.out (by simp [spec_VotesRight.l0])
  | succ k1 =>
   have H := HA.out; clear HA; simp only [spec_VotesRight.l0] at H
   by_cases c3 : x3_1 < (l0.length : Int)
   ·
    rw [if_pos c3] at H; have c3b0 := dY c3; clear c3; by_cases c4 : 0 ≤ x3_1
    ·
     rw [if_pos c4] at H; have c4b0 := dY c4; clear c4; replace H := oM H; obtain ⟨t102, A50, H⟩ := H; have A5 := AM A50; clear A50; by_cases c6 : t102 = true
     ·
      subst c6; rw [if_pos rfl] at H; have c7b0 := eq_true (oD ‹_› : 0 ≤ x3_1); by_cases c8 : x3_1 ≤ (l0.length : Int)
      ·
       rw [if_pos c8] at H; have c8b0 := eq_true c8; have c8b1 := dY c8; clear c8; obtain ⟨y103, hy103⟩ : ∃ y_ : List (S67), y_ = (l0.take (x3_1 : Int).toNat) := ⟨_, rfl⟩; replace H : ((spec_l11Has.f k1 y103 ((rd_T67 l0 x3_1).f0) ((rd_T67 l0 x3_1).f1) ((rd_T67 l0 x3_1).f2) ((rd_T67 l0 x3_1).f3) ((rd_T67 l0 x3_1).f4)).bind fun t108 => (if t108 = true then (some false) else (spec_VotesRight.l0 k1 l0 (wrap64 (x3_1 + 1))))) = some r := hS hy103 H
       have Ny103 := AM hy103; clear hy103; replace H := oM H; obtain ⟨t108, A90, H⟩ := H; have A9 := AM A90; clear A90; by_cases c10 : t108 = true
       ·
        subst c10; rw [if_pos rfl] at H; obtain rfl := Option.some.inj H; try go_wp2
        replace HB := bDY HB; obtain ⟨p101, q101, ad101, e101, hx101_0, hx101_1, hx101_2, hx101_3, hx101_4⟩ := pQ (at_T67 HR0.out x3_1); have hw101_4 := hx101_4; have hw101_3 := hx101_3; have hw101_2 := hx101_2; have hw101_1 := hx101_1; have hw101_0 := hx101_0; cases e101; replace hx101_0 := pB HB.out hx101_0; replace hx101_1 := pB HB.out hx101_1; replace hx101_2 := pB HB.out hx101_2; replace hx101_3 := pB HB.out hx101_3; replace hx101_4 := pB HB.out hx101_4; obtain ⟨p107, q107, ad107, e107, hx107_0, hx107_1, hx107_2, hx107_3, hx107_4⟩ := pQ (at_T67 HR0.out x3_1); have hw107_4 := hx107_4; have hw107_3 := hx107_3; have hw107_2 := hx107_2; have hw107_1 := hx107_1; have hw107_0 := hx107_0; obtain rfl : ad101 = ad107 := (by injection e107); replace hx107_0 := pB HB.out hx107_0; replace hx107_1 := pB HB.out hx107_1; replace hx107_2 := pB HB.out hx107_2; replace hx107_3 := pB HB.out hx107_3; replace hx107_4 := pB HB.out hx107_4; refine start_ (n := 16) (S := fun w' => w'.cell? (ad101.add ((x3_1).toNat * 5)) = some (.int .i64 ((rd_T67 l0 x3_1).f0)) ∧ w'.cell? ⟨(ad101.add ((x3_1).toNat * 5)).block, (ad101.add ((x3_1).toNat * 5)).off + 1, none⟩ = some (.int .i64 ((rd_T67 l0 x3_1).f1)) ∧ w'.cell? ⟨(ad101.add ((x3_1).toNat * 5)).block, (ad101.add ((x3_1).toNat * 5)).off + 2, none⟩ = some (.int .i64 ((rd_T67 l0 x3_1).f2)) ∧ w'.cell? ⟨(ad101.add ((x3_1).toNat * 5)).block, (ad101.add ((x3_1).toNat * 5)).off + 3, none⟩ = some (.string ((rd_T67 l0 x3_1).f3)) ∧ w'.cell? ⟨(ad101.add ((x3_1).toNat * 5)).block, (ad101.add ((x3_1).toNat * 5)).off + 4, none⟩ = some (.int .i64 ((rd_T67 l0 x3_1).f4)) ∧ w'.cell? (ad101.add ((x3_1).toNat * 5)) = some (.int .i64 ((rd_T67 l0 x3_1).f0)) ∧ w'.cell? ⟨(ad101.add ((x3_1).toNat * 5)).block, (ad101.add ((x3_1).toNat * 5)).off + 1, none⟩ = some (.int .i64 ((rd_T67 l0 x3_1).f1)) ∧ w'.cell? ⟨(ad101.add ((x3_1).toNat * 5)).block, (ad101.add ((x3_1).toNat * 5)).off + 2, none⟩ = some (.int .i64 ((rd_T67 l0 x3_1).f2)) ∧ w'.cell? ⟨(ad101.add ((x3_1).toNat * 5)).block, (ad101.add ((x3_1).toNat * 5)).off + 3, none⟩ = some (.string ((rd_T67 l0 x3_1).f3)) ∧ w'.cell? ⟨(ad101.add ((x3_1).toNat * 5)).block, (ad101.add ((x3_1).toNat * 5)).off + 4, none⟩ = some (.int .i64 ((rd_T67 l0 x3_1).f4))) (ds := []) (upTo 0 16) (by kernel_rfl) rfl rfl ⟨(pB HB.out hw101_0), (pB HB.out hw101_1), (pB HB.out hw101_2), (pB HB.out hw101_3), (pB HB.out hw101_4), (pB HB.out hw107_0), (pB HB.out hw107_1), (pB HB.out hw107_2), (pB HB.out hw107_3), (pB HB.out hw107_4)⟩ (fun hHeld => ?_); refine with_tabW spec_VotesRight.tab6 spec_VotesRight.bits6 (fun HT_ HW_ => ?_); generalize wr.drew = w11 at HB hx101_0 hx101_1 hx101_2 hx101_3 hx101_4 hx107_0 hx107_1 hx107_2 hx107_3 hx107_4 hHeld ⊢; refine pF 0 1 16 13 ?_; refine pF 1 2 16 14 ?_; refine pF 2 3 16 15 ?_; refine pT2 3 16 (upTo 4 16) ?_ hHeld; refine oU 4 17 (upTo 5 16) HT_.out (fun K hK => ?_); refine gs Try.func42 #[.agg #[.int .i64 ((rd_T67 l0 x3_1).f0), .int .i64 ((rd_T67 l0 x3_1).f1), .int .i64 ((rd_T67 l0 x3_1).f2), .string ((rd_T67 l0 x3_1).f3), .int .i64 ((rd_T67 l0 x3_1).f4)]] ?_; with_reducible refine (spec_l11Vote.calls ((rd_T67 l0 x3_1).f0) ((rd_T67 l0 x3_1).f1) ((rd_T67 l0 x3_1).f2) ((rd_T67 l0 x3_1).f3) ((rd_T67 l0 x3_1).f4) true _ A5.out).mono ?_
        rintro e w12 ⟨rfl, hb⟩; refine ⟨_, rfl, ?_⟩; replace HB := bY HB hb; have q13 : (x3_1 : Int) ≤ ((l0.length : Int) : Int) := oD ‹_›; obtain ⟨i013, hi013, _, hsz13, _⟩ := info_parts info67; have hroom13 : l0.length ≤ c0 := HC0.out; have hC13 : Kd.C k67 _ (some ad101) l0.length l0 := HR0.out; have hcut13 := cut_to (P := Try.prog) 35 67 .i64 Try.underlying35 hi013 (some ad101) l0.length c0 x3_1 (oD ‹_›) q13 hroom13; have hr13 := Kd.C_take (m := (x3_1 : Int).toNat) hC13 (by omega); have hy13 : y103.length = (x3_1 : Int).toNat := (by rw [Ny103.out, mE]; omega); rw [← Ny103.out] at hr13; rw [← hy13] at hcut13; have HR106 := AM hr13; have HC106 := AM (show y103.length ≤ c0 from by omega); clear hr13 hC13 hroom13 hi013 hsz13; have KY13 := AM hy13; clear hy13; replace q13 := eq_true q13; refine hK.out _ _ ⟨(pB HB.out hw101_0), (pB HB.out hw101_1), (pB HB.out hw101_2), (pB HB.out hw101_3), (pB HB.out hw101_4), (pB HB.out hw107_0), (pB HB.out hw107_1), (pB HB.out hw107_2), (pB HB.out hw107_3), (pB HB.out hw107_4)⟩ (fun hHeld => ?_); clear hK K; refine nS 17 ?_
        refine pF 5 6 16 18 ?_; refine pF 6 7 16 19 ?_; refine pF 7 8 16 20 ?_; refine pF 8 9 16 21 ?_; refine pF 9 10 16 22 ?_; refine pF 10 11 16 23 ?_; refine pF 11 12 16 24 ?_; refine pF 12 13 16 25 ?_; refine pT2 13 26 (upTo 14 16) ?_ hHeld; refine oU 14 27 (upTo 15 16) HT_.out (fun K hK => ?_); refine gs Try.func43 #[.slice (some ad101) y103.length c0, .agg #[.int .i64 ((rd_T67 l0 x3_1).f0), .int .i64 ((rd_T67 l0 x3_1).f1), .int .i64 ((rd_T67 l0 x3_1).f2), .string ((rd_T67 l0 x3_1).f3), .int .i64 ((rd_T67 l0 x3_1).f4)]] ?_; with_reducible refine (spec_l11Has.calls k1 _ _ y103 ((rd_T67 l0 x3_1).f0) ((rd_T67 l0 x3_1).f1) ((rd_T67 l0 x3_1).f2) ((rd_T67 l0 x3_1).f3) ((rd_T67 l0 x3_1).f4) true _ ?s1 ?s2 A9.out).mono ?_
        (case s1 => exact cY HR106 HB)
        (case s2 => exact HC106.out)
        rintro e w14 ⟨rfl, hb⟩; refine ⟨_, rfl, ?_⟩; replace HB := bY HB hb; refine hK.out _ _ ⟨(pB HB.out hw101_0), (pB HB.out hw101_1), (pB HB.out hw101_2), (pB HB.out hw101_3), (pB HB.out hw101_4), (pB HB.out hw107_0), (pB HB.out hw107_1), (pB HB.out hw107_2), (pB HB.out hw107_3), (pB HB.out hw107_4)⟩ (fun hHeld => ?_); clear hK K; refine nS 27 ?_
        refine pF 15 16 16 28 ?_; refine done_ (done_of HT_.out (by kernel_rfl)) ?_; try go_wp2
        go_ret
        exact ⟨rE, bX HB.out⟩
       replace c10 := oE c10; subst c10; rw [if_neg nft] at H; have H' := AM H; clear H; try go_wp2
       replace HB := bDY HB; obtain ⟨p101, q101, ad101, e101, hx101_0, hx101_1, hx101_2, hx101_3, hx101_4⟩ := pQ (at_T67 HR0.out x3_1); have hw101_4 := hx101_4; have hw101_3 := hx101_3; have hw101_2 := hx101_2; have hw101_1 := hx101_1; have hw101_0 := hx101_0; cases e101; replace hx101_0 := pB HB.out hx101_0; replace hx101_1 := pB HB.out hx101_1; replace hx101_2 := pB HB.out hx101_2; replace hx101_3 := pB HB.out hx101_3; replace hx101_4 := pB HB.out hx101_4; obtain ⟨p107, q107, ad107, e107, hx107_0, hx107_1, hx107_2, hx107_3, hx107_4⟩ := pQ (at_T67 HR0.out x3_1); have hw107_4 := hx107_4; have hw107_3 := hx107_3; have hw107_2 := hx107_2; have hw107_1 := hx107_1; have hw107_0 := hx107_0; obtain rfl : ad101 = ad107 := (by injection e107); replace hx107_0 := pB HB.out hx107_0; replace hx107_1 := pB HB.out hx107_1; replace hx107_2 := pB HB.out hx107_2; replace hx107_3 := pB HB.out hx107_3; replace hx107_4 := pB HB.out hx107_4; refine start_ (n := 16) (S := fun w' => w'.cell? (ad101.add ((x3_1).toNat * 5)) = some (.int .i64 ((rd_T67 l0 x3_1).f0)) ∧ w'.cell? ⟨(ad101.add ((x3_1).toNat * 5)).block, (ad101.add ((x3_1).toNat * 5)).off + 1, none⟩ = some (.int .i64 ((rd_T67 l0 x3_1).f1)) ∧ w'.cell? ⟨(ad101.add ((x3_1).toNat * 5)).block, (ad101.add ((x3_1).toNat * 5)).off + 2, none⟩ = some (.int .i64 ((rd_T67 l0 x3_1).f2)) ∧ w'.cell? ⟨(ad101.add ((x3_1).toNat * 5)).block, (ad101.add ((x3_1).toNat * 5)).off + 3, none⟩ = some (.string ((rd_T67 l0 x3_1).f3)) ∧ w'.cell? ⟨(ad101.add ((x3_1).toNat * 5)).block, (ad101.add ((x3_1).toNat * 5)).off + 4, none⟩ = some (.int .i64 ((rd_T67 l0 x3_1).f4)) ∧ w'.cell? (ad101.add ((x3_1).toNat * 5)) = some (.int .i64 ((rd_T67 l0 x3_1).f0)) ∧ w'.cell? ⟨(ad101.add ((x3_1).toNat * 5)).block, (ad101.add ((x3_1).toNat * 5)).off + 1, none⟩ = some (.int .i64 ((rd_T67 l0 x3_1).f1)) ∧ w'.cell? ⟨(ad101.add ((x3_1).toNat * 5)).block, (ad101.add ((x3_1).toNat * 5)).off + 2, none⟩ = some (.int .i64 ((rd_T67 l0 x3_1).f2)) ∧ w'.cell? ⟨(ad101.add ((x3_1).toNat * 5)).block, (ad101.add ((x3_1).toNat * 5)).off + 3, none⟩ = some (.string ((rd_T67 l0 x3_1).f3)) ∧ w'.cell? ⟨(ad101.add ((x3_1).toNat * 5)).block, (ad101.add ((x3_1).toNat * 5)).off + 4, none⟩ = some (.int .i64 ((rd_T67 l0 x3_1).f4))) (ds := []) (upTo 0 16) (by kernel_rfl) rfl rfl ⟨(pB HB.out hw101_0), (pB HB.out hw101_1), (pB HB.out hw101_2), (pB HB.out hw101_3), (pB HB.out hw101_4), (pB HB.out hw107_0), (pB HB.out hw107_1), (pB HB.out hw107_2), (pB HB.out hw107_3), (pB HB.out hw107_4)⟩ (fun hHeld => ?_); refine with_tabW spec_VotesRight.tab6 spec_VotesRight.bits6 (fun HT_ HW_ => ?_); generalize wr.drew = w15 at HB hx101_0 hx101_1 hx101_2 hx101_3 hx101_4 hx107_0 hx107_1 hx107_2 hx107_3 hx107_4 hHeld ⊢; refine pF 0 1 16 13 ?_; refine pF 1 2 16 14 ?_; refine pF 2 3 16 15 ?_; refine pT2 3 16 (upTo 4 16) ?_ hHeld; refine oU 4 17 (upTo 5 16) HT_.out (fun K hK => ?_); refine gs Try.func42 #[.agg #[.int .i64 ((rd_T67 l0 x3_1).f0), .int .i64 ((rd_T67 l0 x3_1).f1), .int .i64 ((rd_T67 l0 x3_1).f2), .string ((rd_T67 l0 x3_1).f3), .int .i64 ((rd_T67 l0 x3_1).f4)]] ?_; with_reducible refine (spec_l11Vote.calls ((rd_T67 l0 x3_1).f0) ((rd_T67 l0 x3_1).f1) ((rd_T67 l0 x3_1).f2) ((rd_T67 l0 x3_1).f3) ((rd_T67 l0 x3_1).f4) true _ A5.out).mono ?_
       rintro e w16 ⟨rfl, hb⟩; refine ⟨_, rfl, ?_⟩; replace HB := bY HB hb; have q17 : (x3_1 : Int) ≤ ((l0.length : Int) : Int) := oD ‹_›; obtain ⟨i017, hi017, _, hsz17, _⟩ := info_parts info67; have hroom17 : l0.length ≤ c0 := HC0.out; have hC17 : Kd.C k67 _ (some ad101) l0.length l0 := HR0.out; have hcut17 := cut_to (P := Try.prog) 35 67 .i64 Try.underlying35 hi017 (some ad101) l0.length c0 x3_1 (oD ‹_›) q17 hroom17; have hr17 := Kd.C_take (m := (x3_1 : Int).toNat) hC17 (by omega); have hy17 : y103.length = (x3_1 : Int).toNat := (by rw [Ny103.out, mE]; omega); rw [← Ny103.out] at hr17; rw [← hy17] at hcut17; have HR106 := AM hr17; have HC106 := AM (show y103.length ≤ c0 from by omega); clear hr17 hC17 hroom17 hi017 hsz17; have KY17 := AM hy17; clear hy17; replace q17 := eq_true q17; refine hK.out _ _ ⟨(pB HB.out hw101_0), (pB HB.out hw101_1), (pB HB.out hw101_2), (pB HB.out hw101_3), (pB HB.out hw101_4), (pB HB.out hw107_0), (pB HB.out hw107_1), (pB HB.out hw107_2), (pB HB.out hw107_3), (pB HB.out hw107_4)⟩ (fun hHeld => ?_); clear hK K; refine nS 17 ?_
       refine pF 5 6 16 18 ?_; refine pF 6 7 16 19 ?_; refine pF 7 8 16 20 ?_; refine pF 8 9 16 21 ?_; refine pF 9 10 16 22 ?_; refine pF 10 11 16 23 ?_; refine pF 11 12 16 24 ?_; refine pF 12 13 16 25 ?_; refine pT2 13 26 (upTo 14 16) ?_ hHeld; refine oU 14 27 (upTo 15 16) HT_.out (fun K hK => ?_); refine gs Try.func43 #[.slice (some ad101) y103.length c0, .agg #[.int .i64 ((rd_T67 l0 x3_1).f0), .int .i64 ((rd_T67 l0 x3_1).f1), .int .i64 ((rd_T67 l0 x3_1).f2), .string ((rd_T67 l0 x3_1).f3), .int .i64 ((rd_T67 l0 x3_1).f4)]] ?_; with_reducible refine (spec_l11Has.calls k1 _ _ y103 ((rd_T67 l0 x3_1).f0) ((rd_T67 l0 x3_1).f1) ((rd_T67 l0 x3_1).f2) ((rd_T67 l0 x3_1).f3) ((rd_T67 l0 x3_1).f4) false _ ?s1 ?s2 A9.out).mono ?_
       (case s1 => exact cY HR106 HB)
       (case s2 => exact HC106.out)
       rintro e w18 ⟨rfl, hb⟩; refine ⟨_, rfl, ?_⟩; replace HB := bY HB hb; refine hK.out _ _ ⟨(pB HB.out hw101_0), (pB HB.out hw101_1), (pB HB.out hw101_2), (pB HB.out hw101_3), (pB HB.out hw101_4), (pB HB.out hw107_0), (pB HB.out hw107_1), (pB HB.out hw107_2), (pB HB.out hw107_3), (pB HB.out hw107_4)⟩ (fun hHeld => ?_); clear hK K; refine nS 27 ?_
       refine pF 15 16 16 28 ?_; refine done_ (done_of HT_.out (by kernel_rfl)) ?_; try go_wp2
       go_roundg k1
       case measure => have := HK1.out; omega
       case rel => exact ⟨(wrap64 (x3_1 + 1)), rR, H', ⟨by have := HK1.out; omega⟩, ⟨bX HB.out⟩⟩
      rw [if_neg c8] at H; exact absurd H (by simp)
     replace c6 := oE c6; subst c6; rw [if_neg nft] at H; obtain rfl := Option.some.inj H; try go_wp2
     replace HB := bDY HB; obtain ⟨p101, q101, ad101, e101, hx101_0, hx101_1, hx101_2, hx101_3, hx101_4⟩ := pQ (at_T67 HR0.out x3_1); have hw101_4 := hx101_4; have hw101_3 := hx101_3; have hw101_2 := hx101_2; have hw101_1 := hx101_1; have hw101_0 := hx101_0; cases e101; replace hx101_0 := pB HB.out hx101_0; replace hx101_1 := pB HB.out hx101_1; replace hx101_2 := pB HB.out hx101_2; replace hx101_3 := pB HB.out hx101_3; replace hx101_4 := pB HB.out hx101_4; refine start_ (n := 16) (S := fun w' => w'.cell? (ad101.add ((x3_1).toNat * 5)) = some (.int .i64 ((rd_T67 l0 x3_1).f0)) ∧ w'.cell? ⟨(ad101.add ((x3_1).toNat * 5)).block, (ad101.add ((x3_1).toNat * 5)).off + 1, none⟩ = some (.int .i64 ((rd_T67 l0 x3_1).f1)) ∧ w'.cell? ⟨(ad101.add ((x3_1).toNat * 5)).block, (ad101.add ((x3_1).toNat * 5)).off + 2, none⟩ = some (.int .i64 ((rd_T67 l0 x3_1).f2)) ∧ w'.cell? ⟨(ad101.add ((x3_1).toNat * 5)).block, (ad101.add ((x3_1).toNat * 5)).off + 3, none⟩ = some (.string ((rd_T67 l0 x3_1).f3)) ∧ w'.cell? ⟨(ad101.add ((x3_1).toNat * 5)).block, (ad101.add ((x3_1).toNat * 5)).off + 4, none⟩ = some (.int .i64 ((rd_T67 l0 x3_1).f4))) (ds := []) (upTo 0 16) (by kernel_rfl) rfl rfl ⟨(pB HB.out hw101_0), (pB HB.out hw101_1), (pB HB.out hw101_2), (pB HB.out hw101_3), (pB HB.out hw101_4)⟩ (fun hHeld => ?_); refine with_tabW spec_VotesRight.tab6 spec_VotesRight.bits6 (fun HT_ HW_ => ?_); generalize wr.drew = w19 at HB hx101_0 hx101_1 hx101_2 hx101_3 hx101_4 hHeld ⊢; refine pF 0 1 16 13 ?_; refine pF 1 2 16 14 ?_; refine pF 2 3 16 15 ?_; refine pT2 3 16 (upTo 4 16) ?_ hHeld; refine oU 4 17 (upTo 5 16) HT_.out (fun K hK => ?_); refine gs Try.func42 #[.agg #[.int .i64 ((rd_T67 l0 x3_1).f0), .int .i64 ((rd_T67 l0 x3_1).f1), .int .i64 ((rd_T67 l0 x3_1).f2), .string ((rd_T67 l0 x3_1).f3), .int .i64 ((rd_T67 l0 x3_1).f4)]] ?_; with_reducible refine (spec_l11Vote.calls ((rd_T67 l0 x3_1).f0) ((rd_T67 l0 x3_1).f1) ((rd_T67 l0 x3_1).f2) ((rd_T67 l0 x3_1).f3) ((rd_T67 l0 x3_1).f4) false _ A5.out).mono ?_
     rintro e w20 ⟨rfl, hb⟩; refine ⟨_, rfl, ?_⟩; replace HB := bY HB hb; refine hK.out _ _ ⟨(pB HB.out hw101_0), (pB HB.out hw101_1), (pB HB.out hw101_2), (pB HB.out hw101_3), (pB HB.out hw101_4)⟩ (fun hHeld => ?_); clear hK K; refine nS 17 ?_
     refine pF 5 6 16 18 ?_; refine pF 6 7 16 19 ?_; refine pU 7 8 16 20 ?_; refine pU 8 9 16 21 ?_; refine pU 9 10 16 22 ?_; refine pU 10 11 16 23 ?_; refine pU 11 12 16 24 ?_; refine pU 12 13 16 25 ?_; refine pU 13 14 16 26 ?_; refine pU 14 15 16 27 ?_; refine pF 15 16 16 28 ?_; refine done_ (done_of HT_.out (by kernel_rfl)) ?_; try go_wp2
     go_ret
     exact ⟨rE, bX HB.out⟩
    rw [if_neg c4] at H; exact absurd H (by simp)
   rw [if_neg c3] at H; have c3b0 := dN c3; clear c3; obtain rfl := Option.some.inj H; go_wp2
   go_ret
   exact ⟨rE, bX HB.out⟩

end Go.Proofs.Ytmfbkkjlijaabaa.Q
