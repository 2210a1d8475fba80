/- Printed by a program of this session (wip/mp.py over the kit's print.py): functions of the translation as plain Lean functions, and that the machine's calls do what these say. -/
import Derived.Test.YtokgloeondfkiaaQx0
import Derived.Test.YtokgloeondfkiaaQx5
namespace Go.Proofs.Ytokgloeondfkiaa.Q
open Go.RowKit Go.Proofs.Ytokgloeondfkiaa.HB Go.Proofs.YtokgloeondfkiaaW.PrintWords Go.Proofs.YtokgloeondfkiaaW.PrintLast Go.Proofs.YtokgloeondfkiaaW.PrintMore
attribute [local go_sem] max2_int min2_int max_two min_two max_three min_three max_four min_four   -- for this text's walks alone
set_option linter.unusedVariables false
set_option linter.unusedSimpArgs false

/-! ### impl_isTopic: function 39 -/

mutual
def impl_isTopic.j0 : Nat → Bool → ByteArray → Int → List ByteArray → List (S78) → Option (Bool)
  | 0, _, _, _, _, _ => none
  | k + 1, x30, x102000, x102001, x102002, x102003 => if x30 = true then (some false) else (impl_isTopic.l0 k x102003 (x102003.length : Int) 0 x102000 x102001 x102002 x102003)
def impl_isTopic.l0 : Nat → List (S78) → Int → Int → ByteArray → Int → List ByteArray → List (S78) → Option (Bool)
  | 0, _, _, _, _, _, _, _ => none
  | k + 1, x32, x33, x34, x102000, x102001, x102002, x102003 => if x34 < x33 then (if 0 ≤ x34 then (if x34 < (x32.length : Int) then ((impl_isName.f k ((rd_T78 x32 x34).f0)).bind fun t108 => (if t108 = true then (if x34 > 0 then (if 0 ≤ (wrap64 (x34 - 1)) then (if (wrap64 (x34 - 1)) < (x102003.length : Int) then (if ((Op.bytesLess (((rd_T78 x102003 (wrap64 (x34 - 1))).f0).toList) (((rd_T78 x32 x34).f0).toList)) = true) then ((impl_Topic_end.f x102000 x102001 x102002 x102003).bind fun t110 => ((impl_within.f ((rd_T78 x32 x34).f1) x102001 t110).bind fun t111 => (if t111 = true then (impl_isTopic.l0 k x32 x33 (wrap64 (x34 + 1)) x102000 x102001 x102002 x102003) else (some false)))) else (some false)) else (none)) else (none)) else ((impl_Topic_end.f x102000 x102001 x102002 x102003).bind fun t112 => ((impl_within.f ((rd_T78 x32 x34).f1) x102001 t112).bind fun t113 => (if t113 = true then (impl_isTopic.l0 k x32 x33 (wrap64 (x34 + 1)) x102000 x102001 x102002 x102003) else (some false))))) else (some false))) else (none)) else (none)) else ((slices_ContainsFunc_string_string.f x102002).bind fun t105 => (some (!t105)))
end
def impl_isTopic.f (k : Nat) (a0_0 : ByteArray) (a0_1 : Int) (l0_2 : List ByteArray) (l0_3 : List (S78)) : Option (Bool) := (impl_isName.f k a0_0).bind fun t102 => (if t102 = true then ((impl_isTime.f a0_1).bind fun t103 => (if t103 = true then (if (l0_2.length : Int) > 20 then (impl_isTopic.j0 k true a0_0 a0_1 l0_2 l0_3) else ((impl_Topic_end.f a0_0 a0_1 l0_2 l0_3).bind fun t104 => (if t104 > 1000000000 then (impl_isTopic.j0 k true a0_0 a0_1 l0_2 l0_3) else (impl_isTopic.j0 k (decide ((l0_3.length : Int) > 4)) a0_0 a0_1 l0_2 l0_3)))) else (impl_isTopic.j0 k true a0_0 a0_1 l0_2 l0_3))) else (impl_isTopic.j0 k true a0_0 a0_1 l0_2 l0_3))
theorem impl_isTopic.mono_l : ∀ k, (∀ y0 y1 y2 y3 y4, LeO (impl_isTopic.j0 k y0 y1 y2 y3 y4) (impl_isTopic.j0 (k + 1) y0 y1 y2 y3 y4)) ∧ (∀ y0 y1 y2 y3 y4 y5 y6, LeO (impl_isTopic.l0 k y0 y1 y2 y3 y4 y5 y6) (impl_isTopic.l0 (k + 1) y0 y1 y2 y3 y4 y5 y6))
  | 0 => ⟨fun _ _ _ _ _ r h => by simp [impl_isTopic.j0] at h, fun _ _ _ _ _ _ _ r h => by simp [impl_isTopic.l0] at h⟩
  | k + 1 => by
    obtain ⟨ih0, ih1⟩ := impl_isTopic.mono_l k
    refine ⟨?_, ?_⟩
    · intro y0 y1 y2 y3 y4
      unfold impl_isTopic.j0
      repeat' first
      | (with_reducible exact ih0 _ _ _ _ _)
      | (with_reducible exact ih1 _ _ _ _ _ _ _)
      | (with_reducible exact impl_isName.mono _ _)
      | (with_reducible exact LeO.refl _)
      | (with_reducible exact LeO.none _)
      | (with_reducible refine LeO.ite ?_ ?_)
      | (with_reducible refine LeO.bind ?_ (fun _ => ?_))
      | exact ih0 _ _ _ _ _
      | exact ih1 _ _ _ _ _ _ _
      | exact impl_isName.mono _ _
      | exact LeO.none _
      | refine LeO.ite ?_ ?_
      | refine LeO.bind ?_ (fun _ => ?_)
    · intro y0 y1 y2 y3 y4 y5 y6
      unfold impl_isTopic.l0
      repeat' first
      | (with_reducible exact ih0 _ _ _ _ _)
      | (with_reducible exact ih1 _ _ _ _ _ _ _)
      | (with_reducible exact impl_isName.mono _ _)
      | (with_reducible exact LeO.refl _)
      | (with_reducible exact LeO.none _)
      | (with_reducible refine LeO.ite ?_ ?_)
      | (with_reducible refine LeO.bind ?_ (fun _ => ?_))
      | exact ih0 _ _ _ _ _
      | exact ih1 _ _ _ _ _ _ _
      | exact impl_isName.mono _ _
      | exact LeO.none _
      | refine LeO.ite ?_ ?_
      | refine LeO.bind ?_ (fun _ => ?_)
theorem impl_isTopic.mono : ∀ a0 a1 a2 a3 k, LeO (impl_isTopic.f k a0 a1 a2 a3) (impl_isTopic.f (k + 1) a0 a1 a2 a3) := by
  intro a0 a1 a2 a3 k
  obtain ⟨ih0, ih1⟩ := impl_isTopic.mono_l k
  unfold impl_isTopic.f
  repeat' first
      | (with_reducible exact ih0 _ _ _ _ _)
      | (with_reducible exact ih1 _ _ _ _ _ _ _)
      | (with_reducible exact impl_isName.mono _ _)
      | (with_reducible exact LeO.refl _)
      | (with_reducible exact LeO.none _)
      | (with_reducible refine LeO.ite ?_ ?_)
      | (with_reducible refine LeO.bind ?_ (fun _ => ?_))
      | exact ih0 _ _ _ _ _
      | exact ih1 _ _ _ _ _ _ _
      | exact impl_isName.mono _ _
      | exact LeO.none _
      | refine LeO.ite ?_ ?_
      | refine LeO.bind ?_ (fun _ => ?_)
set_option maxHeartbeats 60000000 in
set_option maxRecDepth 100000 in
theorem impl_isTopic.calls (k : Nat) (a0_0 : ByteArray) (a0_1 : Int) (A0_2 : Option Addr) (c0_2 : Nat) (l0_2 : List ByteArray) (A0_3 : Option Addr) (c0_3 : Nat) (l0_3 : List (S78)) (r : Bool) (w : World) (hr0_2 : Kd.C Kd.string w A0_2 l0_2.length l0_2) (hc0_2 : l0_2.length ≤ c0_2) (hr0_3 : Kd.C k78 w A0_3 l0_3.length l0_3) (hc0_3 : l0_3.length ≤ c0_3) (h : impl_isTopic.f k a0_0 a0_1 l0_2 l0_3 = some r) :
    Calls Try.prog 39 #[.agg #[.string a0_0, .int .i64 a0_1, .slice A0_2 l0_2.length c0_2, .slice A0_3 l0_3.length c0_3]] w fun e w' => e = .returned (.bool r) ∧ Below w.heap.size w w' := by
 have hu30 := Try.underlying30
 have hu78 := Try.underlying78
 have HR0_2 := AM hr0_2
 have HC0_2 := AM hc0_2
 clear hr0_2 hc0_2
 have HR0_3 := AM hr0_3
 have HC0_3 := AM hc0_3
 clear hr0_3 hc0_3
 have HB := AM (Below.refl w.heap.size w)
 have H : ((impl_isName.f k a0_0).bind fun t102 => (if t102 = true then ((impl_isTime.f a0_1).bind fun t103 => (if t103 = true then (if (l0_2.length : Int) > 20 then (impl_isTopic.j0 k true a0_0 a0_1 l0_2 l0_3) else ((impl_Topic_end.f a0_0 a0_1 l0_2 l0_3).bind fun t104 => (if t104 > 1000000000 then (impl_isTopic.j0 k true a0_0 a0_1 l0_2 l0_3) else (impl_isTopic.j0 k (decide ((l0_3.length : Int) > 4)) a0_0 a0_1 l0_2 l0_3)))) else (impl_isTopic.j0 k true a0_0 a0_1 l0_2 l0_3))) else (impl_isTopic.j0 k true a0_0 a0_1 l0_2 l0_3))) = some r := h
 clear h
 have HC2 := AM H
 clear H
 go_enter Try.func39, Try.ntmps39
 go_upto_region 1 with (first | ((with_reducible refine gate_dst (N := 1) rfl ?_); (try (refine gate_guard (by rfl) ?_; dsimp only)); refine box_event (by rfl) (N := 1) (by rfl) (cs := #[.string a0_0, .int .i64 a0_1, .slice A0_2 l0_2.length c0_2, .slice A0_3 l0_3.length c0_3]) (t := 30) (by first | (go_simp; done) | (go_simp; rfl)) ?_; intro gb101 hg w3 hbox hb; have _ := AM (below_step (bX HB.out) hb); have _ := AM (hbox); have n2_ := AM ((by rw [hg]; exact (bZ (bX HB.out)) : w.heap.size ≤ gb101)); clear HB; rename_i HB BK101; have GW101 := n2_; have GE101 := n2_; clear n2_; clear hb hbox hg))
 repeat (go_quiet (first | ((with_reducible refine gate_dst (N := 1) rfl ?_); (try (refine gate_guard (by rfl) ?_; dsimp only)); refine box_event (by rfl) (N := 1) (by rfl) (cs := #[.string a0_0, .int .i64 a0_1, .slice A0_2 l0_2.length c0_2, .slice A0_3 l0_3.length c0_3]) (t := 30) (by first | (go_simp; done) | (go_simp; rfl)) ?_; intro gb101 hg w3 hbox hb; have _ := AM (below_step (bX HB.out) hb); have _ := AM (hbox); have n2_ := AM ((by rw [hg]; exact (bZ (bX HB.out)) : w.heap.size ≤ gb101)); clear HB; rename_i HB BK101; have GW101 := n2_; have GE101 := n2_; clear n2_; clear hb hbox hg)); go_upto_region 1 with (first | ((with_reducible refine gate_dst (N := 1) rfl ?_); (try (refine gate_guard (by rfl) ?_; dsimp only)); refine box_event (by rfl) (N := 1) (by rfl) (cs := #[.string a0_0, .int .i64 a0_1, .slice A0_2 l0_2.length c0_2, .slice A0_3 l0_3.length c0_3]) (t := 30) (by first | (go_simp; done) | (go_simp; rfl)) ?_; intro gb101 hg w3 hbox hb; have _ := AM (below_step (bX HB.out) hb); have _ := AM (hbox); have n2_ := AM ((by rw [hg]; exact (bZ (bX HB.out)) : w.heap.size ≤ gb101)); clear HB; rename_i HB BK101; have GW101 := n2_; have GE101 := n2_; clear n2_; clear hb hbox hg)))
 (try simp only [Act.put, List.setIfInBounds_toArray, List.set_cons_zero, List.set_cons_succ])
 go_cut [30] (fun v30 wc => ∃ (kq : Nat) (x30_1 : Bool), v30 = .bool x30_1 ∧ Aside0 (impl_isTopic.j0 kq x30_1 a0_0 a0_1 l0_2 l0_3 = some r) ∧ Aside0 (kq ≤ k) ∧ Aside0 (wc.heap[gb101]? = some (.cells #[.string a0_0, .int .i64 a0_1, (.slice A0_2 l0_2.length c0_2), (.slice A0_3 l0_3.length c0_3)] 30 (0, 0))) ∧ Aside0 (Below w.heap.size w wc))
 case first =>
  have H := HC2.out
  clear HC2
  replace H := Option.bind_eq_some_iff.mp H
  obtain ⟨t102, A40, H⟩ := H
  replace H : (if t102 = true then ((impl_isTime.f a0_1).bind fun t103 => (if t103 = true then (if (l0_2.length : Int) > 20 then (impl_isTopic.j0 k true a0_0 a0_1 l0_2 l0_3) else ((impl_Topic_end.f a0_0 a0_1 l0_2 l0_3).bind fun t104 => (if t104 > 1000000000 then (impl_isTopic.j0 k true a0_0 a0_1 l0_2 l0_3) else (impl_isTopic.j0 k (decide ((l0_3.length : Int) > 4)) a0_0 a0_1 l0_2 l0_3)))) else (impl_isTopic.j0 k true a0_0 a0_1 l0_2 l0_3))) else (impl_isTopic.j0 k true a0_0 a0_1 l0_2 l0_3)) = some r := H
  have A4 := AM A40
  clear A40
  by_cases c5 : t102 = true
  ·
   subst c5
   have H1 : ((impl_isTime.f a0_1).bind fun t103 => (if t103 = true then (if (l0_2.length : Int) > 20 then (impl_isTopic.j0 k true a0_0 a0_1 l0_2 l0_3) else ((impl_Topic_end.f a0_0 a0_1 l0_2 l0_3).bind fun t104 => (if t104 > 1000000000 then (impl_isTopic.j0 k true a0_0 a0_1 l0_2 l0_3) else (impl_isTopic.j0 k (decide ((l0_3.length : Int) > 4)) a0_0 a0_1 l0_2 l0_3)))) else (impl_isTopic.j0 k true a0_0 a0_1 l0_2 l0_3))) = some r := by rw [if_pos rfl] at H; exact H
   clear H
   have H := H1
   clear H1
   replace H := Option.bind_eq_some_iff.mp H
   obtain ⟨t103, A60, H⟩ := H
   replace H : (if t103 = true then (if (l0_2.length : Int) > 20 then (impl_isTopic.j0 k true a0_0 a0_1 l0_2 l0_3) else ((impl_Topic_end.f a0_0 a0_1 l0_2 l0_3).bind fun t104 => (if t104 > 1000000000 then (impl_isTopic.j0 k true a0_0 a0_1 l0_2 l0_3) else (impl_isTopic.j0 k (decide ((l0_3.length : Int) > 4)) a0_0 a0_1 l0_2 l0_3)))) else (impl_isTopic.j0 k true a0_0 a0_1 l0_2 l0_3)) = some r := H
   have A6 := AM A60
   clear A60
   by_cases c7 : t103 = true
   ·
    subst c7
    have H1 : (if (l0_2.length : Int) > 20 then (impl_isTopic.j0 k true a0_0 a0_1 l0_2 l0_3) else ((impl_Topic_end.f a0_0 a0_1 l0_2 l0_3).bind fun t104 => (if t104 > 1000000000 then (impl_isTopic.j0 k true a0_0 a0_1 l0_2 l0_3) else (impl_isTopic.j0 k (decide ((l0_3.length : Int) > 4)) a0_0 a0_1 l0_2 l0_3)))) = some r := by rw [if_pos rfl] at H; exact H
    clear H
    have H := H1
    clear H1
    by_cases c8 : (l0_2.length : Int) > 20
    ·
     rw [if_pos c8] at H
     have c8b0 : decide (20 < (l0_2.length : Int)) = true := decide_eq_true c8
     have c8b1 : decide (20 < l0_2.length) = true := decide_eq_true (by omega)
     clear c8
     (first | rw [c8b0] | (simp only [i64_w, i32_w]; rw [c8b0]) | skip)
     have H' := AM H
     clear H
     have hcz9 := q4 BK101.out
     have hfz9 := fZ BK101.out
     go_wp2_with (first | (go_at_call 56; (with_reducible refine (impl_isName.calls k a0_0 true _ A4.out).mono ?_); rintro e w' ⟨rfl, ⟨nd, rfl⟩⟩; (try first | exact ⟨rfl, _, dD⟩ | exact ⟨rfl, _, dA⟩)) | (go_at_call 57; (with_reducible refine (impl_isTime.calls a0_1 true _ A6.out).mono ?_); rintro e w' ⟨rfl, ⟨nd, rfl⟩⟩; (try first | exact ⟨rfl, _, dD⟩ | exact ⟨rfl, _, dA⟩)))
     repeat (go_quiet (first | (go_at_call 56; (with_reducible refine (impl_isName.calls k a0_0 true _ A4.out).mono ?_); rintro e w' ⟨rfl, ⟨nd, rfl⟩⟩; (try first | exact ⟨rfl, _, dD⟩ | exact ⟨rfl, _, dA⟩)) | (go_at_call 57; (with_reducible refine (impl_isTime.calls a0_1 true _ A6.out).mono ?_); rintro e w' ⟨rfl, ⟨nd, rfl⟩⟩; (try first | exact ⟨rfl, _, dD⟩ | exact ⟨rfl, _, dA⟩))); try go_wp2_with (first | (go_at_call 56; (with_reducible refine (impl_isName.calls k a0_0 true _ A4.out).mono ?_); rintro e w' ⟨rfl, ⟨nd, rfl⟩⟩; (try first | exact ⟨rfl, _, dD⟩ | exact ⟨rfl, _, dA⟩)) | (go_at_call 57; (with_reducible refine (impl_isTime.calls a0_1 true _ A6.out).mono ?_); rintro e w' ⟨rfl, ⟨nd, rfl⟩⟩; (try first | exact ⟨rfl, _, dD⟩ | exact ⟨rfl, _, dA⟩))))
     go_meet
     case rel => exact ⟨_, (true), (by first | rfl | (simp; done) | (simp [*]; done)), H', ⟨by first | omega | exact Nat.le_refl _⟩, ⟨kX BK101.out⟩, ⟨bX HB.out⟩⟩
    rw [if_neg c8] at H
    have c8b0 : decide (20 < (l0_2.length : Int)) = false := decide_eq_false c8
    have c8b1 : decide (20 < l0_2.length) = false := decide_eq_false (by omega)
    clear c8
    (first | rw [c8b0] | (simp only [i64_w, i32_w]; rw [c8b0]) | skip)
    replace H := Option.bind_eq_some_iff.mp H
    obtain ⟨t104, A100, H⟩ := H
    replace H : (if t104 > 1000000000 then (impl_isTopic.j0 k true a0_0 a0_1 l0_2 l0_3) else (impl_isTopic.j0 k (decide ((l0_3.length : Int) > 4)) a0_0 a0_1 l0_2 l0_3)) = some r := H
    have A10 := AM A100
    clear A100
    by_cases c11 : t104 > 1000000000
    ·
     rw [if_pos c11] at H
     have c11b0 : decide (1000000000 < t104) = true := decide_eq_true c11
     clear c11
     have H' := AM H
     clear H
     have hcz12 := q4 BK101.out
     have hfz12 := fZ BK101.out
     go_wp2_with (first | (go_at_call 56; (with_reducible refine (impl_isName.calls k a0_0 true _ A4.out).mono ?_); rintro e w' ⟨rfl, ⟨nd, rfl⟩⟩; (try first | exact ⟨rfl, _, dD⟩ | exact ⟨rfl, _, dA⟩)) | (go_at_call 57; (with_reducible refine (impl_isTime.calls a0_1 true _ A6.out).mono ?_); rintro e w' ⟨rfl, ⟨nd, rfl⟩⟩; (try first | exact ⟨rfl, _, dD⟩ | exact ⟨rfl, _, dA⟩)) | (go_at_call 58; (with_reducible refine (impl_Topic_end.calls _ _ _ A0_2 c0_2 _ _ t104 _ ?side1 ?side2 A10.out).mono ?_); (case side1 => first | exact hcz12_1 | (go_simp; done)); (case side2 => first | exact hcz12_2 | (go_simp; done)); rintro e w' ⟨rfl, ⟨nd, rfl⟩⟩; (try first | exact ⟨rfl, _, dD⟩ | exact ⟨rfl, _, dA⟩)))
     repeat (go_quiet (first | (go_at_call 56; (with_reducible refine (impl_isName.calls k a0_0 true _ A4.out).mono ?_); rintro e w' ⟨rfl, ⟨nd, rfl⟩⟩; (try first | exact ⟨rfl, _, dD⟩ | exact ⟨rfl, _, dA⟩)) | (go_at_call 57; (with_reducible refine (impl_isTime.calls a0_1 true _ A6.out).mono ?_); rintro e w' ⟨rfl, ⟨nd, rfl⟩⟩; (try first | exact ⟨rfl, _, dD⟩ | exact ⟨rfl, _, dA⟩)) | (go_at_call 58; (with_reducible refine (impl_Topic_end.calls _ _ _ A0_2 c0_2 _ _ t104 _ ?side1 ?side2 A10.out).mono ?_); (case side1 => first | exact hcz12_1 | (go_simp; done)); (case side2 => first | exact hcz12_2 | (go_simp; done)); rintro e w' ⟨rfl, ⟨nd, rfl⟩⟩; (try first | exact ⟨rfl, _, dD⟩ | exact ⟨rfl, _, dA⟩))); try go_wp2_with (first | (go_at_call 56; (with_reducible refine (impl_isName.calls k a0_0 true _ A4.out).mono ?_); rintro e w' ⟨rfl, ⟨nd, rfl⟩⟩; (try first | exact ⟨rfl, _, dD⟩ | exact ⟨rfl, _, dA⟩)) | (go_at_call 57; (with_reducible refine (impl_isTime.calls a0_1 true _ A6.out).mono ?_); rintro e w' ⟨rfl, ⟨nd, rfl⟩⟩; (try first | exact ⟨rfl, _, dD⟩ | exact ⟨rfl, _, dA⟩)) | (go_at_call 58; (with_reducible refine (impl_Topic_end.calls _ _ _ A0_2 c0_2 _ _ t104 _ ?side1 ?side2 A10.out).mono ?_); (case side1 => first | exact hcz12_1 | (go_simp; done)); (case side2 => first | exact hcz12_2 | (go_simp; done)); rintro e w' ⟨rfl, ⟨nd, rfl⟩⟩; (try first | exact ⟨rfl, _, dD⟩ | exact ⟨rfl, _, dA⟩))))
     go_meet
     case rel => exact ⟨_, (true), (by first | rfl | (simp; done) | (simp [*]; done)), H', ⟨by first | omega | exact Nat.le_refl _⟩, ⟨kX BK101.out⟩, ⟨bX HB.out⟩⟩
    rw [if_neg c11] at H
    have c11b0 : decide (1000000000 < t104) = false := decide_eq_false c11
    clear c11
    have H' := AM H
    clear H
    have hcz13 := q4 BK101.out
    have hfz13 := fZ BK101.out
    go_wp2_with (first | (go_at_call 56; (with_reducible refine (impl_isName.calls k a0_0 true _ A4.out).mono ?_); rintro e w' ⟨rfl, ⟨nd, rfl⟩⟩; (try first | exact ⟨rfl, _, dD⟩ | exact ⟨rfl, _, dA⟩)) | (go_at_call 57; (with_reducible refine (impl_isTime.calls a0_1 true _ A6.out).mono ?_); rintro e w' ⟨rfl, ⟨nd, rfl⟩⟩; (try first | exact ⟨rfl, _, dD⟩ | exact ⟨rfl, _, dA⟩)) | (go_at_call 58; (with_reducible refine (impl_Topic_end.calls _ _ _ A0_2 c0_2 _ _ t104 _ ?side1 ?side2 A10.out).mono ?_); (case side1 => first | exact hcz13_1 | (go_simp; done)); (case side2 => first | exact hcz13_2 | (go_simp; done)); rintro e w' ⟨rfl, ⟨nd, rfl⟩⟩; (try first | exact ⟨rfl, _, dD⟩ | exact ⟨rfl, _, dA⟩)))
    repeat (go_quiet (first | (go_at_call 56; (with_reducible refine (impl_isName.calls k a0_0 true _ A4.out).mono ?_); rintro e w' ⟨rfl, ⟨nd, rfl⟩⟩; (try first | exact ⟨rfl, _, dD⟩ | exact ⟨rfl, _, dA⟩)) | (go_at_call 57; (with_reducible refine (impl_isTime.calls a0_1 true _ A6.out).mono ?_); rintro e w' ⟨rfl, ⟨nd, rfl⟩⟩; (try first | exact ⟨rfl, _, dD⟩ | exact ⟨rfl, _, dA⟩)) | (go_at_call 58; (with_reducible refine (impl_Topic_end.calls _ _ _ A0_2 c0_2 _ _ t104 _ ?side1 ?side2 A10.out).mono ?_); (case side1 => first | exact hcz13_1 | (go_simp; done)); (case side2 => first | exact hcz13_2 | (go_simp; done)); rintro e w' ⟨rfl, ⟨nd, rfl⟩⟩; (try first | exact ⟨rfl, _, dD⟩ | exact ⟨rfl, _, dA⟩))); try go_wp2_with (first | (go_at_call 56; (with_reducible refine (impl_isName.calls k a0_0 true _ A4.out).mono ?_); rintro e w' ⟨rfl, ⟨nd, rfl⟩⟩; (try first | exact ⟨rfl, _, dD⟩ | exact ⟨rfl, _, dA⟩)) | (go_at_call 57; (with_reducible refine (impl_isTime.calls a0_1 true _ A6.out).mono ?_); rintro e w' ⟨rfl, ⟨nd, rfl⟩⟩; (try first | exact ⟨rfl, _, dD⟩ | exact ⟨rfl, _, dA⟩)) | (go_at_call 58; (with_reducible refine (impl_Topic_end.calls _ _ _ A0_2 c0_2 _ _ t104 _ ?side1 ?side2 A10.out).mono ?_); (case side1 => first | exact hcz13_1 | (go_simp; done)); (case side2 => first | exact hcz13_2 | (go_simp; done)); rintro e w' ⟨rfl, ⟨nd, rfl⟩⟩; (try first | exact ⟨rfl, _, dD⟩ | exact ⟨rfl, _, dA⟩))))
    go_meet
    case rel => exact ⟨_, (decide ((l0_3.length : Int) > 4)), (by first | rfl | (simp; done) | (simp [*]; done)), H', ⟨by first | omega | exact Nat.le_refl _⟩, ⟨kX BK101.out⟩, ⟨bX HB.out⟩⟩
   replace c7 := Bool.eq_false_iff.mpr c7
   subst c7
   have H1 : (impl_isTopic.j0 k true a0_0 a0_1 l0_2 l0_3) = some r := by rw [if_neg (show ¬ (false = true) by decide)] at H; exact H
   clear H
   have H := H1
   clear H1
   have H' := AM H
   clear H
   have hcz14 := q4 BK101.out
   have hfz14 := fZ BK101.out
   go_wp2_with (first | (go_at_call 56; (with_reducible refine (impl_isName.calls k a0_0 true _ A4.out).mono ?_); rintro e w' ⟨rfl, ⟨nd, rfl⟩⟩; (try first | exact ⟨rfl, _, dD⟩ | exact ⟨rfl, _, dA⟩)) | (go_at_call 57; (with_reducible refine (impl_isTime.calls a0_1 false _ A6.out).mono ?_); rintro e w' ⟨rfl, ⟨nd, rfl⟩⟩; (try first | exact ⟨rfl, _, dD⟩ | exact ⟨rfl, _, dA⟩)))
   repeat (go_quiet (first | (go_at_call 56; (with_reducible refine (impl_isName.calls k a0_0 true _ A4.out).mono ?_); rintro e w' ⟨rfl, ⟨nd, rfl⟩⟩; (try first | exact ⟨rfl, _, dD⟩ | exact ⟨rfl, _, dA⟩)) | (go_at_call 57; (with_reducible refine (impl_isTime.calls a0_1 false _ A6.out).mono ?_); rintro e w' ⟨rfl, ⟨nd, rfl⟩⟩; (try first | exact ⟨rfl, _, dD⟩ | exact ⟨rfl, _, dA⟩))); try go_wp2_with (first | (go_at_call 56; (with_reducible refine (impl_isName.calls k a0_0 true _ A4.out).mono ?_); rintro e w' ⟨rfl, ⟨nd, rfl⟩⟩; (try first | exact ⟨rfl, _, dD⟩ | exact ⟨rfl, _, dA⟩)) | (go_at_call 57; (with_reducible refine (impl_isTime.calls a0_1 false _ A6.out).mono ?_); rintro e w' ⟨rfl, ⟨nd, rfl⟩⟩; (try first | exact ⟨rfl, _, dD⟩ | exact ⟨rfl, _, dA⟩))))
   go_meet
   case rel => exact ⟨_, (true), (by first | rfl | (simp; done) | (simp [*]; done)), H', ⟨by first | omega | exact Nat.le_refl _⟩, ⟨kX BK101.out⟩, ⟨bX HB.out⟩⟩
  replace c5 := Bool.eq_false_iff.mpr c5
  subst c5
  have H1 : (impl_isTopic.j0 k true a0_0 a0_1 l0_2 l0_3) = some r := by rw [if_neg (show ¬ (false = true) by decide)] at H; exact H
  clear H
  have H := H1
  clear H1
  have H' := AM H
  clear H
  have hcz15 := q4 BK101.out
  have hfz15 := fZ BK101.out
  go_wp2_with (first | (go_at_call 56; (with_reducible refine (impl_isName.calls k a0_0 false _ A4.out).mono ?_); rintro e w' ⟨rfl, ⟨nd, rfl⟩⟩; (try first | exact ⟨rfl, _, dD⟩ | exact ⟨rfl, _, dA⟩)))
  repeat (go_quiet (first | (go_at_call 56; (with_reducible refine (impl_isName.calls k a0_0 false _ A4.out).mono ?_); rintro e w' ⟨rfl, ⟨nd, rfl⟩⟩; (try first | exact ⟨rfl, _, dD⟩ | exact ⟨rfl, _, dA⟩))); try go_wp2_with (first | (go_at_call 56; (with_reducible refine (impl_isName.calls k a0_0 false _ A4.out).mono ?_); rintro e w' ⟨rfl, ⟨nd, rfl⟩⟩; (try first | exact ⟨rfl, _, dD⟩ | exact ⟨rfl, _, dA⟩))))
  go_meet
  case rel => exact ⟨_, (true), (by first | rfl | (simp; done) | (simp [*]; done)), H', ⟨by first | omega | exact Nat.le_refl _⟩, ⟨kX BK101.out⟩, ⟨bX HB.out⟩⟩
 case rest =>
  clear HC2
  (try clear c1); (try clear p2); (try clear c3); (try clear c5); (try clear c7); (try clear c8); (try clear c8b0); (try clear c8b1); (try clear c11); (try clear c11b0); (try clear hcz12); (try clear hcz13); (try clear hcz14); (try clear hcz15); (try clear hcz9); (try clear hfz12); (try clear hfz13); (try clear hfz14); (try clear hfz15); (try clear hfz9)
  obtain ⟨kq, x30_1, rfl, HA, HJ1, BK101, HB⟩ := hcut
  cases kq with
  | zero => exact absurd HA.out (by simp [impl_isTopic.j0])
  | succ kj1 =>
   have H := HA.out
   clear HA
   simp only [impl_isTopic.j0] at H
   by_cases c16 : x30_1 = true
   ·
    subst c16
    have H1 : (some false) = some r := by rw [if_pos rfl] at H; exact H
    clear H
    have H := H1
    clear H1
    obtain rfl := Option.some.inj H
    go_wp2
    repeat (go_quiet (fail); try go_wp2)
    go_ret
    exact ⟨by first | rfl | (simp [*, errW_none, errW_some] <;> rfl), bX HB.out⟩
   replace c16 := Bool.eq_false_iff.mpr c16
   subst c16
   have H1 : (impl_isTopic.l0 kj1 l0_3 (l0_3.length : Int) 0 a0_0 a0_1 l0_2 l0_3) = some r := by rw [if_neg (show ¬ (false = true) by decide)] at H; exact H
   clear H
   have H := H1
   clear H1
   have H' := AM H
   clear H
   have hcz17 := q4 BK101.out
   have hfz17 := fZ BK101.out
   go_wp2
   repeat (go_quiet (fail); try go_wp2)
   go_loopg [34] kj1 (fun kq v34 w' => ∃ (x34_2 : Int), v34 = .int .i64 x34_2 ∧ Aside0 (impl_isTopic.l0 kq l0_3 (l0_3.length : Int) x34_2 a0_0 a0_1 l0_2 l0_3 = some r) ∧ Aside0 (kq ≤ kj1) ∧ Aside0 (w'.heap[gb101]? = some (.cells #[.string a0_0, .int .i64 a0_1, (.slice A0_2 l0_2.length c0_2), (.slice A0_3 l0_3.length c0_3)] 30 (0, 0))) ∧ Aside0 (Below w.heap.size w w'))
   case atStart => exact ⟨(0), (by first | rfl | (simp; done) | (simp [*]; done)), H', ⟨Nat.le_refl _⟩, ⟨kX BK101.out⟩, ⟨bX HB.out⟩⟩
   case round =>
    clear H'
    (try clear c1); (try clear p2); (try clear c3); (try clear c5); (try clear c7); (try clear c8); (try clear c8b0); (try clear c8b1); (try clear c11); (try clear c11b0); (try clear c16); (try clear hcz12); (try clear hcz13); (try clear hcz14); (try clear hcz15); (try clear hcz17); (try clear hcz9); (try clear hfz12); (try clear hfz13); (try clear hfz14); (try clear hfz15); (try clear hfz17); (try clear hfz9)
    obtain ⟨x34_2, rfl, HA, HK2, BK101, HB⟩ := hrel
    cases gk with
    | zero => exact absurd HA.out (by simp [impl_isTopic.l0])
    | succ k2 =>
     have H := HA.out
     clear HA
     simp only [impl_isTopic.l0] at H
     by_cases c18 : x34_2 < (l0_3.length : Int)
     ·
      rw [if_pos c18] at H
      have c18b0 : decide (x34_2 < (l0_3.length : Int)) = true := decide_eq_true c18
      clear c18
      by_cases c19 : 0 ≤ x34_2
      ·
       rw [if_pos c19] at H
       have c19b0 : decide (0 ≤ x34_2) = true := decide_eq_true c19
       clear c19
       by_cases c20 : x34_2 < (l0_3.length : Int)
       ·
        rw [if_pos c20] at H
        have c20b0 : decide (x34_2 < (l0_3.length : Int)) = true := decide_eq_true c20
        clear c20
        replace H := Option.bind_eq_some_iff.mp H
        obtain ⟨t108, A210, H⟩ := H
        replace H : (if t108 = true then (if x34_2 > 0 then (if 0 ≤ (wrap64 (x34_2 - 1)) then (if (wrap64 (x34_2 - 1)) < (l0_3.length : Int) then (if ((Op.bytesLess (((rd_T78 l0_3 (wrap64 (x34_2 - 1))).f0).toList) (((rd_T78 l0_3 x34_2).f0).toList)) = true) then ((impl_Topic_end.f a0_0 a0_1 l0_2 l0_3).bind fun t110 => ((impl_within.f ((rd_T78 l0_3 x34_2).f1) a0_1 t110).bind fun t111 => (if t111 = true then (impl_isTopic.l0 k2 l0_3 (l0_3.length : Int) (wrap64 (x34_2 + 1)) a0_0 a0_1 l0_2 l0_3) else (some false)))) else (some false)) else (none)) else (none)) else ((impl_Topic_end.f a0_0 a0_1 l0_2 l0_3).bind fun t112 => ((impl_within.f ((rd_T78 l0_3 x34_2).f1) a0_1 t112).bind fun t113 => (if t113 = true then (impl_isTopic.l0 k2 l0_3 (l0_3.length : Int) (wrap64 (x34_2 + 1)) a0_0 a0_1 l0_2 l0_3) else (some false))))) else (some false)) = some r := H
        have A21 := AM A210
        clear A210
        by_cases c22 : t108 = true
        ·
         subst c22
         have H1 : (if x34_2 > 0 then (if 0 ≤ (wrap64 (x34_2 - 1)) then (if (wrap64 (x34_2 - 1)) < (l0_3.length : Int) then (if ((Op.bytesLess (((rd_T78 l0_3 (wrap64 (x34_2 - 1))).f0).toList) (((rd_T78 l0_3 x34_2).f0).toList)) = true) then ((impl_Topic_end.f a0_0 a0_1 l0_2 l0_3).bind fun t110 => ((impl_within.f ((rd_T78 l0_3 x34_2).f1) a0_1 t110).bind fun t111 => (if t111 = true then (impl_isTopic.l0 k2 l0_3 (l0_3.length : Int) (wrap64 (x34_2 + 1)) a0_0 a0_1 l0_2 l0_3) else (some false)))) else (some false)) else (none)) else (none)) else ((impl_Topic_end.f a0_0 a0_1 l0_2 l0_3).bind fun t112 => ((impl_within.f ((rd_T78 l0_3 x34_2).f1) a0_1 t112).bind fun t113 => (if t113 = true then (impl_isTopic.l0 k2 l0_3 (l0_3.length : Int) (wrap64 (x34_2 + 1)) a0_0 a0_1 l0_2 l0_3) else (some false))))) = some r := by rw [if_pos rfl] at H; exact H
         clear H
         have H := H1
         clear H1
         by_cases c23 : x34_2 > 0
         ·
          rw [if_pos c23] at H
          have c23b0 : decide (0 < x34_2) = true := decide_eq_true c23
          clear c23
          obtain ⟨ji24, hji24⟩ : ∃ j_ : Int, (wrap64 (x34_2 - 1)) = j_ := ⟨_, rfl⟩
          replace H : (if 0 ≤ (ji24) then (if (ji24) < (l0_3.length : Int) then (if ((Op.bytesLess (((rd_T78 l0_3 (ji24)).f0).toList) (((rd_T78 l0_3 x34_2).f0).toList)) = true) then ((impl_Topic_end.f a0_0 a0_1 l0_2 l0_3).bind fun t110 => ((impl_within.f ((rd_T78 l0_3 x34_2).f1) a0_1 t110).bind fun t111 => (if t111 = true then (impl_isTopic.l0 k2 l0_3 (l0_3.length : Int) (wrap64 (x34_2 + 1)) a0_0 a0_1 l0_2 l0_3) else (some false)))) else (some false)) else (none)) else (none)) = some r := by first | (rw [hji24] at H; exact H) | (simp only [hji24] at H ⊢; exact H)
          (try rw [hji24] at A21)
          have hji24w : (IntKind.i64.wrap (x34_2 - 1)) = ji24 := (i64_w _).trans hji24
          by_cases c25 : 0 ≤ (ji24)
          ·
           rw [if_pos c25] at H
           have c25b0 : decide (0 ≤ (ji24)) = true := decide_eq_true c25
           clear c25
           by_cases c26 : (ji24) < (l0_3.length : Int)
           ·
            rw [if_pos c26] at H
            have c26b0 : decide ((ji24) < (l0_3.length : Int)) = true := decide_eq_true c26
            clear c26
            by_cases c27 : ((Op.bytesLess (((rd_T78 l0_3 (ji24)).f0).toList) (((rd_T78 l0_3 x34_2).f0).toList)) = true)
            ·
             rw [if_pos c27] at H
             have c27b0 : (Op.bytesLess (((rd_T78 l0_3 (ji24)).f0).toList) (((rd_T78 l0_3 x34_2).f0).toList)) = true := c27
             clear c27
             replace H := Option.bind_eq_some_iff.mp H
             obtain ⟨t110, A280, H⟩ := H
             replace H : ((impl_within.f ((rd_T78 l0_3 x34_2).f1) a0_1 t110).bind fun t111 => (if t111 = true then (impl_isTopic.l0 k2 l0_3 (l0_3.length : Int) (wrap64 (x34_2 + 1)) a0_0 a0_1 l0_2 l0_3) else (some false))) = some r := H
             have A28 := AM A280
             clear A280
             replace H := Option.bind_eq_some_iff.mp H
             obtain ⟨t111, A290, H⟩ := H
             replace H : (if t111 = true then (impl_isTopic.l0 k2 l0_3 (l0_3.length : Int) (wrap64 (x34_2 + 1)) a0_0 a0_1 l0_2 l0_3) else (some false)) = some r := H
             have A29 := AM A290
             clear A290
             by_cases c30 : t111 = true
             ·
              subst c30
              have H1 : (impl_isTopic.l0 k2 l0_3 (l0_3.length : Int) (wrap64 (x34_2 + 1)) a0_0 a0_1 l0_2 l0_3) = some r := by rw [if_pos rfl] at H; exact H
              clear H
              have H := H1
              clear H1
              have H' := AM H
              clear H
              have p106 : 0 ≤ (x34_2 : Int) := of_decide_eq_true (by assumption)
              have q106 : x34_2 < (l0_3.length : Int) := of_decide_eq_true (by assumption)
              obtain ⟨ad106, e106, hx106_0, hx106_1⟩ := at_T78 HR0_3.out x34_2 p106 q106
              cases e106
              replace hx106_0 := pw_cell_below HB.out hx106_0
              replace hx106_1 := pw_cell_below HB.out hx106_1
              replace p106 := eq_true p106
              replace q106 := eq_true q106
              go_wp2_with (first | ((with_reducible refine gate_dst (N := 4) rfl ?_); (try (refine gate_guard (by rfl) ?_; dsimp only)); refine box_event (by rfl) (N := 4) (by rfl) (cs := #[.string (⟨#[]⟩ : ByteArray), .int .i64 0]) (t := 78) (by first | (go_simp; done) | (go_simp; rfl)) ?_; intro gb107 hg w31 hbox hb; have _ := AM (nB BK101.out hb); have _ := AM (below_step (bX HB.out) hb); have _ := AM (hbox); have n3_ := AM ((by rw [hg]; exact (bZ (bX HB.out)) : w.heap.size ≤ gb107)); have _ := AM (lX hg BK101.out); have _ := AM (lX hg BK101.out).symm; clear BK101 HB; rename_i BK101 HB BK107 NB101_107 NB107_101; have GW107 := n3_; have GE107 := n3_; clear n3_; clear hb hbox hg; have hnb32 := NB107_101.out; have hnc32 := NB101_107.out; have hcz33 := q2 BK107.out; have hfz33 := fZ BK107.out) | (go_at_call 56; (with_reducible refine (impl_isName.calls k2 ((rd_T78 l0_3 x34_2).f0) true _ A21.out).mono ?_); rintro e w' ⟨rfl, ⟨nd, rfl⟩⟩; (try first | exact ⟨rfl, _, dD⟩ | exact ⟨rfl, _, dA⟩)) | (go_at_call 58; (with_reducible refine (impl_Topic_end.calls _ _ _ A0_2 c0_2 _ _ t110 _ ?side1 ?side2 A28.out).mono ?_); (case side1 => first | exact hcz34_1 | (go_simp; done)); (case side2 => first | exact hcz34_2 | (go_simp; done)); rintro e w' ⟨rfl, ⟨nd, rfl⟩⟩; (try first | exact ⟨rfl, _, dD⟩ | exact ⟨rfl, _, dA⟩)) | (go_at_call 40; (with_reducible refine (impl_within.calls ((rd_T78 l0_3 x34_2).f1) a0_1 t110 true _ A29.out).mono ?_); rintro e w' ⟨rfl, ⟨nd, rfl⟩⟩; (try first | exact ⟨rfl, _, dD⟩ | exact ⟨rfl, _, dA⟩)))
              have hcz34 := q4 BK101.out
              have hfz34 := fZ BK101.out
              have p109 : 0 ≤ ((ji24) : Int) := of_decide_eq_true (by assumption)
              have q109 : (ji24) < (l0_3.length : Int) := of_decide_eq_true (by assumption)
              obtain ⟨ad109, e109, hx109_0, hx109_1⟩ := at_T78 HR0_3.out (ji24) p109 q109
              obtain rfl : ad106 = ad109 := (by injection e109)
              have hn109_0 : ad106.block ≠ gb107 := Nat.ne_of_lt (Nat.lt_of_lt_of_le (by have := World.block_lt_of_cell? _ _ hx109_0; first | rwa [add_block] at this | exact this) GW107.out)
              have hn109_1 : ad106.block ≠ gb107 := Nat.ne_of_lt (Nat.lt_of_lt_of_le (by have := World.block_lt_of_cell? _ _ hx109_0; first | rwa [add_block] at this | exact this) GW107.out)
              replace hx109_0 := pw_cell_below HB.out hx109_0
              replace hx109_1 := pw_cell_below HB.out hx109_1
              replace hx109_0 := (cell_far (p := ⟨gb107, 0, none⟩) (by first | (rw [add_block]; exact hn109_0) | (show (Addr.add _ _).block ≠ _; rw [add_block]; exact hn109_0) | exact hn109_0) (.string ((rd_T78 l0_3 x34_2).f0))).trans hx109_0
              replace hx109_1 := (cell_far (p := ⟨gb107, 0, none⟩) (by first | (rw [add_block]; exact hn109_0) | (show (Addr.add _ _).block ≠ _; rw [add_block]; exact hn109_0) | exact hn109_0) (.string ((rd_T78 l0_3 x34_2).f0))).trans hx109_1
              replace hx109_0 := (cell_far (p := ⟨gb107, 1, none⟩) (by first | (rw [add_block]; exact hn109_1) | (show (Addr.add _ _).block ≠ _; rw [add_block]; exact hn109_1) | exact hn109_1) (.int .i64 ((rd_T78 l0_3 x34_2).f1))).trans hx109_0
              replace hx109_1 := (cell_far (p := ⟨gb107, 1, none⟩) (by first | (rw [add_block]; exact hn109_1) | (show (Addr.add _ _).block ≠ _; rw [add_block]; exact hn109_1) | exact hn109_1) (.int .i64 ((rd_T78 l0_3 x34_2).f1))).trans hx109_1
              (try have hy109_0 := fun (n_ : Nat) => (show ((((w31.drewN n_).setCell ⟨gb107, 0, none⟩ (.string ((rd_T78 l0_3 x34_2).f0))).setCell ⟨gb107, 1, none⟩ (.int .i64 ((rd_T78 l0_3 x34_2).f1)))).cell? _ = some _ from hx109_0))
              (try have hy109_1 := fun (n_ : Nat) => (show ((((w31.drewN n_).setCell ⟨gb107, 0, none⟩ (.string ((rd_T78 l0_3 x34_2).f0))).setCell ⟨gb107, 1, none⟩ (.int .i64 ((rd_T78 l0_3 x34_2).f1)))).cell? _ = some _ from hx109_1))
              clear hn109_0
              clear hn109_1
              replace p109 := eq_true p109
              replace q109 := eq_true q109
              repeat (go_quiet (first | ((with_reducible refine gate_dst (N := 4) rfl ?_); (try (refine gate_guard (by rfl) ?_; dsimp only)); refine box_event (by rfl) (N := 4) (by rfl) (cs := #[.string (⟨#[]⟩ : ByteArray), .int .i64 0]) (t := 78) (by first | (go_simp; done) | (go_simp; rfl)) ?_; intro gb107 hg w31 hbox hb; have _ := AM (nB BK101.out hb); have _ := AM (below_step (bX HB.out) hb); have _ := AM (hbox); have n3_ := AM ((by rw [hg]; exact (bZ (bX HB.out)) : w.heap.size ≤ gb107)); have _ := AM (lX hg BK101.out); have _ := AM (lX hg BK101.out).symm; clear BK101 HB; rename_i BK101 HB BK107 NB101_107 NB107_101; have GW107 := n3_; have GE107 := n3_; clear n3_; clear hb hbox hg; have hnb32 := NB107_101.out; have hnc32 := NB101_107.out; have hcz33 := q2 BK107.out; have hfz33 := fZ BK107.out) | (go_at_call 56; (with_reducible refine (impl_isName.calls k2 ((rd_T78 l0_3 x34_2).f0) true _ A21.out).mono ?_); rintro e w' ⟨rfl, ⟨nd, rfl⟩⟩; (try first | exact ⟨rfl, _, dD⟩ | exact ⟨rfl, _, dA⟩)) | (go_at_call 58; (with_reducible refine (impl_Topic_end.calls _ _ _ A0_2 c0_2 _ _ t110 _ ?side1 ?side2 A28.out).mono ?_); (case side1 => first | exact hcz34_1 | (go_simp; done)); (case side2 => first | exact hcz34_2 | (go_simp; done)); rintro e w' ⟨rfl, ⟨nd, rfl⟩⟩; (try first | exact ⟨rfl, _, dD⟩ | exact ⟨rfl, _, dA⟩)) | (go_at_call 40; (with_reducible refine (impl_within.calls ((rd_T78 l0_3 x34_2).f1) a0_1 t110 true _ A29.out).mono ?_); rintro e w' ⟨rfl, ⟨nd, rfl⟩⟩; (try first | exact ⟨rfl, _, dD⟩ | exact ⟨rfl, _, dA⟩))); try go_wp2_with (first | ((with_reducible refine gate_dst (N := 4) rfl ?_); (try (refine gate_guard (by rfl) ?_; dsimp only)); refine box_event (by rfl) (N := 4) (by rfl) (cs := #[.string (⟨#[]⟩ : ByteArray), .int .i64 0]) (t := 78) (by first | (go_simp; done) | (go_simp; rfl)) ?_; intro gb107 hg w31 hbox hb; have _ := AM (nB BK101.out hb); have _ := AM (below_step (bX HB.out) hb); have _ := AM (hbox); have n3_ := AM ((by rw [hg]; exact (bZ (bX HB.out)) : w.heap.size ≤ gb107)); have _ := AM (lX hg BK101.out); have _ := AM (lX hg BK101.out).symm; clear BK101 HB; rename_i BK101 HB BK107 NB101_107 NB107_101; have GW107 := n3_; have GE107 := n3_; clear n3_; clear hb hbox hg; have hnb32 := NB107_101.out; have hnc32 := NB101_107.out; have hcz33 := q2 BK107.out; have hfz33 := fZ BK107.out) | (go_at_call 56; (with_reducible refine (impl_isName.calls k2 ((rd_T78 l0_3 x34_2).f0) true _ A21.out).mono ?_); rintro e w' ⟨rfl, ⟨nd, rfl⟩⟩; (try first | exact ⟨rfl, _, dD⟩ | exact ⟨rfl, _, dA⟩)) | (go_at_call 58; (with_reducible refine (impl_Topic_end.calls _ _ _ A0_2 c0_2 _ _ t110 _ ?side1 ?side2 A28.out).mono ?_); (case side1 => first | exact hcz34_1 | (go_simp; done)); (case side2 => first | exact hcz34_2 | (go_simp; done)); rintro e w' ⟨rfl, ⟨nd, rfl⟩⟩; (try first | exact ⟨rfl, _, dD⟩ | exact ⟨rfl, _, dA⟩)) | (go_at_call 40; (with_reducible refine (impl_within.calls ((rd_T78 l0_3 x34_2).f1) a0_1 t110 true _ A29.out).mono ?_); rintro e w' ⟨rfl, ⟨nd, rfl⟩⟩; (try first | exact ⟨rfl, _, dD⟩ | exact ⟨rfl, _, dA⟩))))
              go_roundg k2
              case measure => have := HJ1.out; have := HK2.out; omega
              case rel => exact ⟨(wrap64 (x34_2 + 1)), (by first | rfl | (simp; done) | (simp [*]; done)), H', ⟨by have := HJ1.out; have := HK2.out; omega⟩, ⟨by refine kF NB101_107.out ?_; refine kF NB101_107.out ?_; (with_reducible repeat (first | apply kN | apply kD | apply kA)); exact BK101.out⟩, ⟨bX HB.out⟩⟩
             replace c30 := Bool.eq_false_iff.mpr c30
             subst c30
             have H1 : (some false) = some r := by rw [if_neg (show ¬ (false = true) by decide)] at H; exact H
             clear H
             have H := H1
             clear H1
             obtain rfl := Option.some.inj H
             have p106 : 0 ≤ (x34_2 : Int) := of_decide_eq_true (by assumption)
             have q106 : x34_2 < (l0_3.length : Int) := of_decide_eq_true (by assumption)
             obtain ⟨ad106, e106, hx106_0, hx106_1⟩ := at_T78 HR0_3.out x34_2 p106 q106
             cases e106
             replace hx106_0 := pw_cell_below HB.out hx106_0
             replace hx106_1 := pw_cell_below HB.out hx106_1
             replace p106 := eq_true p106
             replace q106 := eq_true q106
             go_wp2_with (first | ((with_reducible refine gate_dst (N := 4) rfl ?_); (try (refine gate_guard (by rfl) ?_; dsimp only)); refine box_event (by rfl) (N := 4) (by rfl) (cs := #[.string (⟨#[]⟩ : ByteArray), .int .i64 0]) (t := 78) (by first | (go_simp; done) | (go_simp; rfl)) ?_; intro gb107 hg w35 hbox hb; have _ := AM (nB BK101.out hb); have _ := AM (below_step (bX HB.out) hb); have _ := AM (hbox); have n3_ := AM ((by rw [hg]; exact (bZ (bX HB.out)) : w.heap.size ≤ gb107)); have _ := AM (lX hg BK101.out); have _ := AM (lX hg BK101.out).symm; clear BK101 HB; rename_i BK101 HB BK107 NB101_107 NB107_101; have GW107 := n3_; have GE107 := n3_; clear n3_; clear hb hbox hg; have hnb36 := NB107_101.out; have hnc36 := NB101_107.out; have hcz37 := q2 BK107.out; have hfz37 := fZ BK107.out) | (go_at_call 56; (with_reducible refine (impl_isName.calls k2 ((rd_T78 l0_3 x34_2).f0) true _ A21.out).mono ?_); rintro e w' ⟨rfl, ⟨nd, rfl⟩⟩; (try first | exact ⟨rfl, _, dD⟩ | exact ⟨rfl, _, dA⟩)) | (go_at_call 58; (with_reducible refine (impl_Topic_end.calls _ _ _ A0_2 c0_2 _ _ t110 _ ?side1 ?side2 A28.out).mono ?_); (case side1 => first | exact hcz38_1 | (go_simp; done)); (case side2 => first | exact hcz38_2 | (go_simp; done)); rintro e w' ⟨rfl, ⟨nd, rfl⟩⟩; (try first | exact ⟨rfl, _, dD⟩ | exact ⟨rfl, _, dA⟩)) | (go_at_call 40; (with_reducible refine (impl_within.calls ((rd_T78 l0_3 x34_2).f1) a0_1 t110 false _ A29.out).mono ?_); rintro e w' ⟨rfl, ⟨nd, rfl⟩⟩; (try first | exact ⟨rfl, _, dD⟩ | exact ⟨rfl, _, dA⟩)))
             have hcz38 := q4 BK101.out
             have hfz38 := fZ BK101.out
             have p109 : 0 ≤ ((ji24) : Int) := of_decide_eq_true (by assumption)
             have q109 : (ji24) < (l0_3.length : Int) := of_decide_eq_true (by assumption)
             obtain ⟨ad109, e109, hx109_0, hx109_1⟩ := at_T78 HR0_3.out (ji24) p109 q109
             obtain rfl : ad106 = ad109 := (by injection e109)
             have hn109_0 : ad106.block ≠ gb107 := Nat.ne_of_lt (Nat.lt_of_lt_of_le (by have := World.block_lt_of_cell? _ _ hx109_0; first | rwa [add_block] at this | exact this) GW107.out)
             have hn109_1 : ad106.block ≠ gb107 := Nat.ne_of_lt (Nat.lt_of_lt_of_le (by have := World.block_lt_of_cell? _ _ hx109_0; first | rwa [add_block] at this | exact this) GW107.out)
             replace hx109_0 := pw_cell_below HB.out hx109_0
             replace hx109_1 := pw_cell_below HB.out hx109_1
             replace hx109_0 := (cell_far (p := ⟨gb107, 0, none⟩) (by first | (rw [add_block]; exact hn109_0) | (show (Addr.add _ _).block ≠ _; rw [add_block]; exact hn109_0) | exact hn109_0) (.string ((rd_T78 l0_3 x34_2).f0))).trans hx109_0
             replace hx109_1 := (cell_far (p := ⟨gb107, 0, none⟩) (by first | (rw [add_block]; exact hn109_0) | (show (Addr.add _ _).block ≠ _; rw [add_block]; exact hn109_0) | exact hn109_0) (.string ((rd_T78 l0_3 x34_2).f0))).trans hx109_1
             replace hx109_0 := (cell_far (p := ⟨gb107, 1, none⟩) (by first | (rw [add_block]; exact hn109_1) | (show (Addr.add _ _).block ≠ _; rw [add_block]; exact hn109_1) | exact hn109_1) (.int .i64 ((rd_T78 l0_3 x34_2).f1))).trans hx109_0
             replace hx109_1 := (cell_far (p := ⟨gb107, 1, none⟩) (by first | (rw [add_block]; exact hn109_1) | (show (Addr.add _ _).block ≠ _; rw [add_block]; exact hn109_1) | exact hn109_1) (.int .i64 ((rd_T78 l0_3 x34_2).f1))).trans hx109_1
             (try have hy109_0 := fun (n_ : Nat) => (show ((((w35.drewN n_).setCell ⟨gb107, 0, none⟩ (.string ((rd_T78 l0_3 x34_2).f0))).setCell ⟨gb107, 1, none⟩ (.int .i64 ((rd_T78 l0_3 x34_2).f1)))).cell? _ = some _ from hx109_0))
             (try have hy109_1 := fun (n_ : Nat) => (show ((((w35.drewN n_).setCell ⟨gb107, 0, none⟩ (.string ((rd_T78 l0_3 x34_2).f0))).setCell ⟨gb107, 1, none⟩ (.int .i64 ((rd_T78 l0_3 x34_2).f1)))).cell? _ = some _ from hx109_1))
             clear hn109_0
             clear hn109_1
             replace p109 := eq_true p109
             replace q109 := eq_true q109
             repeat (go_quiet (first | ((with_reducible refine gate_dst (N := 4) rfl ?_); (try (refine gate_guard (by rfl) ?_; dsimp only)); refine box_event (by rfl) (N := 4) (by rfl) (cs := #[.string (⟨#[]⟩ : ByteArray), .int .i64 0]) (t := 78) (by first | (go_simp; done) | (go_simp; rfl)) ?_; intro gb107 hg w35 hbox hb; have _ := AM (nB BK101.out hb); have _ := AM (below_step (bX HB.out) hb); have _ := AM (hbox); have n3_ := AM ((by rw [hg]; exact (bZ (bX HB.out)) : w.heap.size ≤ gb107)); have _ := AM (lX hg BK101.out); have _ := AM (lX hg BK101.out).symm; clear BK101 HB; rename_i BK101 HB BK107 NB101_107 NB107_101; have GW107 := n3_; have GE107 := n3_; clear n3_; clear hb hbox hg; have hnb36 := NB107_101.out; have hnc36 := NB101_107.out; have hcz37 := q2 BK107.out; have hfz37 := fZ BK107.out) | (go_at_call 56; (with_reducible refine (impl_isName.calls k2 ((rd_T78 l0_3 x34_2).f0) true _ A21.out).mono ?_); rintro e w' ⟨rfl, ⟨nd, rfl⟩⟩; (try first | exact ⟨rfl, _, dD⟩ | exact ⟨rfl, _, dA⟩)) | (go_at_call 58; (with_reducible refine (impl_Topic_end.calls _ _ _ A0_2 c0_2 _ _ t110 _ ?side1 ?side2 A28.out).mono ?_); (case side1 => first | exact hcz38_1 | (go_simp; done)); (case side2 => first | exact hcz38_2 | (go_simp; done)); rintro e w' ⟨rfl, ⟨nd, rfl⟩⟩; (try first | exact ⟨rfl, _, dD⟩ | exact ⟨rfl, _, dA⟩)) | (go_at_call 40; (with_reducible refine (impl_within.calls ((rd_T78 l0_3 x34_2).f1) a0_1 t110 false _ A29.out).mono ?_); rintro e w' ⟨rfl, ⟨nd, rfl⟩⟩; (try first | exact ⟨rfl, _, dD⟩ | exact ⟨rfl, _, dA⟩))); try go_wp2_with (first | ((with_reducible refine gate_dst (N := 4) rfl ?_); (try (refine gate_guard (by rfl) ?_; dsimp only)); refine box_event (by rfl) (N := 4) (by rfl) (cs := #[.string (⟨#[]⟩ : ByteArray), .int .i64 0]) (t := 78) (by first | (go_simp; done) | (go_simp; rfl)) ?_; intro gb107 hg w35 hbox hb; have _ := AM (nB BK101.out hb); have _ := AM (below_step (bX HB.out) hb); have _ := AM (hbox); have n3_ := AM ((by rw [hg]; exact (bZ (bX HB.out)) : w.heap.size ≤ gb107)); have _ := AM (lX hg BK101.out); have _ := AM (lX hg BK101.out).symm; clear BK101 HB; rename_i BK101 HB BK107 NB101_107 NB107_101; have GW107 := n3_; have GE107 := n3_; clear n3_; clear hb hbox hg; have hnb36 := NB107_101.out; have hnc36 := NB101_107.out; have hcz37 := q2 BK107.out; have hfz37 := fZ BK107.out) | (go_at_call 56; (with_reducible refine (impl_isName.calls k2 ((rd_T78 l0_3 x34_2).f0) true _ A21.out).mono ?_); rintro e w' ⟨rfl, ⟨nd, rfl⟩⟩; (try first | exact ⟨rfl, _, dD⟩ | exact ⟨rfl, _, dA⟩)) | (go_at_call 58; (with_reducible refine (impl_Topic_end.calls _ _ _ A0_2 c0_2 _ _ t110 _ ?side1 ?side2 A28.out).mono ?_); (case side1 => first | exact hcz38_1 | (go_simp; done)); (case side2 => first | exact hcz38_2 | (go_simp; done)); rintro e w' ⟨rfl, ⟨nd, rfl⟩⟩; (try first | exact ⟨rfl, _, dD⟩ | exact ⟨rfl, _, dA⟩)) | (go_at_call 40; (with_reducible refine (impl_within.calls ((rd_T78 l0_3 x34_2).f1) a0_1 t110 false _ A29.out).mono ?_); rintro e w' ⟨rfl, ⟨nd, rfl⟩⟩; (try first | exact ⟨rfl, _, dD⟩ | exact ⟨rfl, _, dA⟩))))
             go_ret
             exact ⟨by first | rfl | (simp [errW_none, errW_some] <;> rfl) | (simp only [← hji24]; first | rfl | (simp [errW_none, errW_some] <;> rfl)) | (simp [*, errW_none, errW_some] <;> rfl), bX HB.out⟩
            rw [if_neg c27] at H
            have c27b0 : (Op.bytesLess (((rd_T78 l0_3 (ji24)).f0).toList) (((rd_T78 l0_3 x34_2).f0).toList)) = false := by simpa using c27
            clear c27
            obtain rfl := Option.some.inj H
            have p106 : 0 ≤ (x34_2 : Int) := of_decide_eq_true (by assumption)
            have q106 : x34_2 < (l0_3.length : Int) := of_decide_eq_true (by assumption)
            obtain ⟨ad106, e106, hx106_0, hx106_1⟩ := at_T78 HR0_3.out x34_2 p106 q106
            cases e106
            replace hx106_0 := pw_cell_below HB.out hx106_0
            replace hx106_1 := pw_cell_below HB.out hx106_1
            replace p106 := eq_true p106
            replace q106 := eq_true q106
            go_wp2_with (first | ((with_reducible refine gate_dst (N := 4) rfl ?_); (try (refine gate_guard (by rfl) ?_; dsimp only)); refine box_event (by rfl) (N := 4) (by rfl) (cs := #[.string (⟨#[]⟩ : ByteArray), .int .i64 0]) (t := 78) (by first | (go_simp; done) | (go_simp; rfl)) ?_; intro gb107 hg w39 hbox hb; have _ := AM (nB BK101.out hb); have _ := AM (below_step (bX HB.out) hb); have _ := AM (hbox); have n3_ := AM ((by rw [hg]; exact (bZ (bX HB.out)) : w.heap.size ≤ gb107)); have _ := AM (lX hg BK101.out); have _ := AM (lX hg BK101.out).symm; clear BK101 HB; rename_i BK101 HB BK107 NB101_107 NB107_101; have GW107 := n3_; have GE107 := n3_; clear n3_; clear hb hbox hg; have hnb40 := NB107_101.out; have hnc40 := NB101_107.out; have hcz41 := q2 BK107.out; have hfz41 := fZ BK107.out) | (go_at_call 56; (with_reducible refine (impl_isName.calls k2 ((rd_T78 l0_3 x34_2).f0) true _ A21.out).mono ?_); rintro e w' ⟨rfl, ⟨nd, rfl⟩⟩; (try first | exact ⟨rfl, _, dD⟩ | exact ⟨rfl, _, dA⟩)))
            have hcz42 := q4 BK101.out
            have hfz42 := fZ BK101.out
            have p109 : 0 ≤ ((ji24) : Int) := of_decide_eq_true (by assumption)
            have q109 : (ji24) < (l0_3.length : Int) := of_decide_eq_true (by assumption)
            obtain ⟨ad109, e109, hx109_0, hx109_1⟩ := at_T78 HR0_3.out (ji24) p109 q109
            obtain rfl : ad106 = ad109 := (by injection e109)
            have hn109_0 : ad106.block ≠ gb107 := Nat.ne_of_lt (Nat.lt_of_lt_of_le (by have := World.block_lt_of_cell? _ _ hx109_0; first | rwa [add_block] at this | exact this) GW107.out)
            have hn109_1 : ad106.block ≠ gb107 := Nat.ne_of_lt (Nat.lt_of_lt_of_le (by have := World.block_lt_of_cell? _ _ hx109_0; first | rwa [add_block] at this | exact this) GW107.out)
            replace hx109_0 := pw_cell_below HB.out hx109_0
            replace hx109_1 := pw_cell_below HB.out hx109_1
            replace hx109_0 := (cell_far (p := ⟨gb107, 0, none⟩) (by first | (rw [add_block]; exact hn109_0) | (show (Addr.add _ _).block ≠ _; rw [add_block]; exact hn109_0) | exact hn109_0) (.string ((rd_T78 l0_3 x34_2).f0))).trans hx109_0
            replace hx109_1 := (cell_far (p := ⟨gb107, 0, none⟩) (by first | (rw [add_block]; exact hn109_0) | (show (Addr.add _ _).block ≠ _; rw [add_block]; exact hn109_0) | exact hn109_0) (.string ((rd_T78 l0_3 x34_2).f0))).trans hx109_1
            replace hx109_0 := (cell_far (p := ⟨gb107, 1, none⟩) (by first | (rw [add_block]; exact hn109_1) | (show (Addr.add _ _).block ≠ _; rw [add_block]; exact hn109_1) | exact hn109_1) (.int .i64 ((rd_T78 l0_3 x34_2).f1))).trans hx109_0
            replace hx109_1 := (cell_far (p := ⟨gb107, 1, none⟩) (by first | (rw [add_block]; exact hn109_1) | (show (Addr.add _ _).block ≠ _; rw [add_block]; exact hn109_1) | exact hn109_1) (.int .i64 ((rd_T78 l0_3 x34_2).f1))).trans hx109_1
            (try have hy109_0 := fun (n_ : Nat) => (show ((((w39.drewN n_).setCell ⟨gb107, 0, none⟩ (.string ((rd_T78 l0_3 x34_2).f0))).setCell ⟨gb107, 1, none⟩ (.int .i64 ((rd_T78 l0_3 x34_2).f1)))).cell? _ = some _ from hx109_0))
            (try have hy109_1 := fun (n_ : Nat) => (show ((((w39.drewN n_).setCell ⟨gb107, 0, none⟩ (.string ((rd_T78 l0_3 x34_2).f0))).setCell ⟨gb107, 1, none⟩ (.int .i64 ((rd_T78 l0_3 x34_2).f1)))).cell? _ = some _ from hx109_1))
            clear hn109_0
            clear hn109_1
            replace p109 := eq_true p109
            replace q109 := eq_true q109
            repeat (go_quiet (first | ((with_reducible refine gate_dst (N := 4) rfl ?_); (try (refine gate_guard (by rfl) ?_; dsimp only)); refine box_event (by rfl) (N := 4) (by rfl) (cs := #[.string (⟨#[]⟩ : ByteArray), .int .i64 0]) (t := 78) (by first | (go_simp; done) | (go_simp; rfl)) ?_; intro gb107 hg w39 hbox hb; have _ := AM (nB BK101.out hb); have _ := AM (below_step (bX HB.out) hb); have _ := AM (hbox); have n3_ := AM ((by rw [hg]; exact (bZ (bX HB.out)) : w.heap.size ≤ gb107)); have _ := AM (lX hg BK101.out); have _ := AM (lX hg BK101.out).symm; clear BK101 HB; rename_i BK101 HB BK107 NB101_107 NB107_101; have GW107 := n3_; have GE107 := n3_; clear n3_; clear hb hbox hg; have hnb40 := NB107_101.out; have hnc40 := NB101_107.out; have hcz41 := q2 BK107.out; have hfz41 := fZ BK107.out) | (go_at_call 56; (with_reducible refine (impl_isName.calls k2 ((rd_T78 l0_3 x34_2).f0) true _ A21.out).mono ?_); rintro e w' ⟨rfl, ⟨nd, rfl⟩⟩; (try first | exact ⟨rfl, _, dD⟩ | exact ⟨rfl, _, dA⟩))); try go_wp2_with (first | ((with_reducible refine gate_dst (N := 4) rfl ?_); (try (refine gate_guard (by rfl) ?_; dsimp only)); refine box_event (by rfl) (N := 4) (by rfl) (cs := #[.string (⟨#[]⟩ : ByteArray), .int .i64 0]) (t := 78) (by first | (go_simp; done) | (go_simp; rfl)) ?_; intro gb107 hg w39 hbox hb; have _ := AM (nB BK101.out hb); have _ := AM (below_step (bX HB.out) hb); have _ := AM (hbox); have n3_ := AM ((by rw [hg]; exact (bZ (bX HB.out)) : w.heap.size ≤ gb107)); have _ := AM (lX hg BK101.out); have _ := AM (lX hg BK101.out).symm; clear BK101 HB; rename_i BK101 HB BK107 NB101_107 NB107_101; have GW107 := n3_; have GE107 := n3_; clear n3_; clear hb hbox hg; have hnb40 := NB107_101.out; have hnc40 := NB101_107.out; have hcz41 := q2 BK107.out; have hfz41 := fZ BK107.out) | (go_at_call 56; (with_reducible refine (impl_isName.calls k2 ((rd_T78 l0_3 x34_2).f0) true _ A21.out).mono ?_); rintro e w' ⟨rfl, ⟨nd, rfl⟩⟩; (try first | exact ⟨rfl, _, dD⟩ | exact ⟨rfl, _, dA⟩))))
            go_ret
            exact ⟨by first | rfl | (simp [errW_none, errW_some] <;> rfl) | (simp only [← hji24]; first | rfl | (simp [errW_none, errW_some] <;> rfl)) | (simp [*, errW_none, errW_some] <;> rfl), bX HB.out⟩
           rw [if_neg c26] at H
           exact absurd H (by simp)
          rw [if_neg c25] at H
          exact absurd H (by simp)
         rw [if_neg c23] at H
         have c23b0 : decide (0 < x34_2) = false := decide_eq_false c23
         clear c23
         replace H := Option.bind_eq_some_iff.mp H
         obtain ⟨t112, A430, H⟩ := H
         replace H : ((impl_within.f ((rd_T78 l0_3 x34_2).f1) a0_1 t112).bind fun t113 => (if t113 = true then (impl_isTopic.l0 k2 l0_3 (l0_3.length : Int) (wrap64 (x34_2 + 1)) a0_0 a0_1 l0_2 l0_3) else (some false))) = some r := H
         have A43 := AM A430
         clear A430
         replace H := Option.bind_eq_some_iff.mp H
         obtain ⟨t113, A440, H⟩ := H
         replace H : (if t113 = true then (impl_isTopic.l0 k2 l0_3 (l0_3.length : Int) (wrap64 (x34_2 + 1)) a0_0 a0_1 l0_2 l0_3) else (some false)) = some r := H
         have A44 := AM A440
         clear A440
         by_cases c45 : t113 = true
         ·
          subst c45
          have H1 : (impl_isTopic.l0 k2 l0_3 (l0_3.length : Int) (wrap64 (x34_2 + 1)) a0_0 a0_1 l0_2 l0_3) = some r := by rw [if_pos rfl] at H; exact H
          clear H
          have H := H1
          clear H1
          have H' := AM H
          clear H
          have p106 : 0 ≤ (x34_2 : Int) := of_decide_eq_true (by assumption)
          have q106 : x34_2 < (l0_3.length : Int) := of_decide_eq_true (by assumption)
          obtain ⟨ad106, e106, hx106_0, hx106_1⟩ := at_T78 HR0_3.out x34_2 p106 q106
          cases e106
          replace hx106_0 := pw_cell_below HB.out hx106_0
          replace hx106_1 := pw_cell_below HB.out hx106_1
          replace p106 := eq_true p106
          replace q106 := eq_true q106
          go_wp2_with (first | ((with_reducible refine gate_dst (N := 4) rfl ?_); (try (refine gate_guard (by rfl) ?_; dsimp only)); refine box_event (by rfl) (N := 4) (by rfl) (cs := #[.string (⟨#[]⟩ : ByteArray), .int .i64 0]) (t := 78) (by first | (go_simp; done) | (go_simp; rfl)) ?_; intro gb107 hg w46 hbox hb; have _ := AM (nB BK101.out hb); have _ := AM (below_step (bX HB.out) hb); have _ := AM (hbox); have n3_ := AM ((by rw [hg]; exact (bZ (bX HB.out)) : w.heap.size ≤ gb107)); have _ := AM (lX hg BK101.out); have _ := AM (lX hg BK101.out).symm; clear BK101 HB; rename_i BK101 HB BK107 NB101_107 NB107_101; have GW107 := n3_; have GE107 := n3_; clear n3_; clear hb hbox hg; have hnb47 := NB107_101.out; have hnc47 := NB101_107.out; have hcz48 := q2 BK107.out; have hfz48 := fZ BK107.out) | (go_at_call 56; (with_reducible refine (impl_isName.calls k2 ((rd_T78 l0_3 x34_2).f0) true _ A21.out).mono ?_); rintro e w' ⟨rfl, ⟨nd, rfl⟩⟩; (try first | exact ⟨rfl, _, dD⟩ | exact ⟨rfl, _, dA⟩)) | (go_at_call 58; (with_reducible refine (impl_Topic_end.calls _ _ _ A0_2 c0_2 _ _ t112 _ ?side1 ?side2 A43.out).mono ?_); (case side1 => first | exact hcz49_1 | (go_simp; done)); (case side2 => first | exact hcz49_2 | (go_simp; done)); rintro e w' ⟨rfl, ⟨nd, rfl⟩⟩; (try first | exact ⟨rfl, _, dD⟩ | exact ⟨rfl, _, dA⟩)) | (go_at_call 40; (with_reducible refine (impl_within.calls ((rd_T78 l0_3 x34_2).f1) a0_1 t112 true _ A44.out).mono ?_); rintro e w' ⟨rfl, ⟨nd, rfl⟩⟩; (try first | exact ⟨rfl, _, dD⟩ | exact ⟨rfl, _, dA⟩)))
          have hcz49 := q4 BK101.out
          have hfz49 := fZ BK101.out
          repeat (go_quiet (first | ((with_reducible refine gate_dst (N := 4) rfl ?_); (try (refine gate_guard (by rfl) ?_; dsimp only)); refine box_event (by rfl) (N := 4) (by rfl) (cs := #[.string (⟨#[]⟩ : ByteArray), .int .i64 0]) (t := 78) (by first | (go_simp; done) | (go_simp; rfl)) ?_; intro gb107 hg w46 hbox hb; have _ := AM (nB BK101.out hb); have _ := AM (below_step (bX HB.out) hb); have _ := AM (hbox); have n3_ := AM ((by rw [hg]; exact (bZ (bX HB.out)) : w.heap.size ≤ gb107)); have _ := AM (lX hg BK101.out); have _ := AM (lX hg BK101.out).symm; clear BK101 HB; rename_i BK101 HB BK107 NB101_107 NB107_101; have GW107 := n3_; have GE107 := n3_; clear n3_; clear hb hbox hg; have hnb47 := NB107_101.out; have hnc47 := NB101_107.out; have hcz48 := q2 BK107.out; have hfz48 := fZ BK107.out) | (go_at_call 56; (with_reducible refine (impl_isName.calls k2 ((rd_T78 l0_3 x34_2).f0) true _ A21.out).mono ?_); rintro e w' ⟨rfl, ⟨nd, rfl⟩⟩; (try first | exact ⟨rfl, _, dD⟩ | exact ⟨rfl, _, dA⟩)) | (go_at_call 58; (with_reducible refine (impl_Topic_end.calls _ _ _ A0_2 c0_2 _ _ t112 _ ?side1 ?side2 A43.out).mono ?_); (case side1 => first | exact hcz49_1 | (go_simp; done)); (case side2 => first | exact hcz49_2 | (go_simp; done)); rintro e w' ⟨rfl, ⟨nd, rfl⟩⟩; (try first | exact ⟨rfl, _, dD⟩ | exact ⟨rfl, _, dA⟩)) | (go_at_call 40; (with_reducible refine (impl_within.calls ((rd_T78 l0_3 x34_2).f1) a0_1 t112 true _ A44.out).mono ?_); rintro e w' ⟨rfl, ⟨nd, rfl⟩⟩; (try first | exact ⟨rfl, _, dD⟩ | exact ⟨rfl, _, dA⟩))); try go_wp2_with (first | ((with_reducible refine gate_dst (N := 4) rfl ?_); (try (refine gate_guard (by rfl) ?_; dsimp only)); refine box_event (by rfl) (N := 4) (by rfl) (cs := #[.string (⟨#[]⟩ : ByteArray), .int .i64 0]) (t := 78) (by first | (go_simp; done) | (go_simp; rfl)) ?_; intro gb107 hg w46 hbox hb; have _ := AM (nB BK101.out hb); have _ := AM (below_step (bX HB.out) hb); have _ := AM (hbox); have n3_ := AM ((by rw [hg]; exact (bZ (bX HB.out)) : w.heap.size ≤ gb107)); have _ := AM (lX hg BK101.out); have _ := AM (lX hg BK101.out).symm; clear BK101 HB; rename_i BK101 HB BK107 NB101_107 NB107_101; have GW107 := n3_; have GE107 := n3_; clear n3_; clear hb hbox hg; have hnb47 := NB107_101.out; have hnc47 := NB101_107.out; have hcz48 := q2 BK107.out; have hfz48 := fZ BK107.out) | (go_at_call 56; (with_reducible refine (impl_isName.calls k2 ((rd_T78 l0_3 x34_2).f0) true _ A21.out).mono ?_); rintro e w' ⟨rfl, ⟨nd, rfl⟩⟩; (try first | exact ⟨rfl, _, dD⟩ | exact ⟨rfl, _, dA⟩)) | (go_at_call 58; (with_reducible refine (impl_Topic_end.calls _ _ _ A0_2 c0_2 _ _ t112 _ ?side1 ?side2 A43.out).mono ?_); (case side1 => first | exact hcz49_1 | (go_simp; done)); (case side2 => first | exact hcz49_2 | (go_simp; done)); rintro e w' ⟨rfl, ⟨nd, rfl⟩⟩; (try first | exact ⟨rfl, _, dD⟩ | exact ⟨rfl, _, dA⟩)) | (go_at_call 40; (with_reducible refine (impl_within.calls ((rd_T78 l0_3 x34_2).f1) a0_1 t112 true _ A44.out).mono ?_); rintro e w' ⟨rfl, ⟨nd, rfl⟩⟩; (try first | exact ⟨rfl, _, dD⟩ | exact ⟨rfl, _, dA⟩))))
          go_roundg k2
          case measure => have := HJ1.out; have := HK2.out; omega
          case rel => exact ⟨(wrap64 (x34_2 + 1)), (by first | rfl | (simp; done) | (simp [*]; done)), H', ⟨by have := HJ1.out; have := HK2.out; omega⟩, ⟨by refine kF NB101_107.out ?_; refine kF NB101_107.out ?_; (with_reducible repeat (first | apply kN | apply kD | apply kA)); exact BK101.out⟩, ⟨bX HB.out⟩⟩
         replace c45 := Bool.eq_false_iff.mpr c45
         subst c45
         have H1 : (some false) = some r := by rw [if_neg (show ¬ (false = true) by decide)] at H; exact H
         clear H
         have H := H1
         clear H1
         obtain rfl := Option.some.inj H
         have p106 : 0 ≤ (x34_2 : Int) := of_decide_eq_true (by assumption)
         have q106 : x34_2 < (l0_3.length : Int) := of_decide_eq_true (by assumption)
         obtain ⟨ad106, e106, hx106_0, hx106_1⟩ := at_T78 HR0_3.out x34_2 p106 q106
         cases e106
         replace hx106_0 := pw_cell_below HB.out hx106_0
         replace hx106_1 := pw_cell_below HB.out hx106_1
         replace p106 := eq_true p106
         replace q106 := eq_true q106
         go_wp2_with (first | ((with_reducible refine gate_dst (N := 4) rfl ?_); (try (refine gate_guard (by rfl) ?_; dsimp only)); refine box_event (by rfl) (N := 4) (by rfl) (cs := #[.string (⟨#[]⟩ : ByteArray), .int .i64 0]) (t := 78) (by first | (go_simp; done) | (go_simp; rfl)) ?_; intro gb107 hg w50 hbox hb; have _ := AM (nB BK101.out hb); have _ := AM (below_step (bX HB.out) hb); have _ := AM (hbox); have n3_ := AM ((by rw [hg]; exact (bZ (bX HB.out)) : w.heap.size ≤ gb107)); have _ := AM (lX hg BK101.out); have _ := AM (lX hg BK101.out).symm; clear BK101 HB; rename_i BK101 HB BK107 NB101_107 NB107_101; have GW107 := n3_; have GE107 := n3_; clear n3_; clear hb hbox hg; have hnb51 := NB107_101.out; have hnc51 := NB101_107.out; have hcz52 := q2 BK107.out; have hfz52 := fZ BK107.out) | (go_at_call 56; (with_reducible refine (impl_isName.calls k2 ((rd_T78 l0_3 x34_2).f0) true _ A21.out).mono ?_); rintro e w' ⟨rfl, ⟨nd, rfl⟩⟩; (try first | exact ⟨rfl, _, dD⟩ | exact ⟨rfl, _, dA⟩)) | (go_at_call 58; (with_reducible refine (impl_Topic_end.calls _ _ _ A0_2 c0_2 _ _ t112 _ ?side1 ?side2 A43.out).mono ?_); (case side1 => first | exact hcz53_1 | (go_simp; done)); (case side2 => first | exact hcz53_2 | (go_simp; done)); rintro e w' ⟨rfl, ⟨nd, rfl⟩⟩; (try first | exact ⟨rfl, _, dD⟩ | exact ⟨rfl, _, dA⟩)) | (go_at_call 40; (with_reducible refine (impl_within.calls ((rd_T78 l0_3 x34_2).f1) a0_1 t112 false _ A44.out).mono ?_); rintro e w' ⟨rfl, ⟨nd, rfl⟩⟩; (try first | exact ⟨rfl, _, dD⟩ | exact ⟨rfl, _, dA⟩)))
         have hcz53 := q4 BK101.out
         have hfz53 := fZ BK101.out
         repeat (go_quiet (first | ((with_reducible refine gate_dst (N := 4) rfl ?_); (try (refine gate_guard (by rfl) ?_; dsimp only)); refine box_event (by rfl) (N := 4) (by rfl) (cs := #[.string (⟨#[]⟩ : ByteArray), .int .i64 0]) (t := 78) (by first | (go_simp; done) | (go_simp; rfl)) ?_; intro gb107 hg w50 hbox hb; have _ := AM (nB BK101.out hb); have _ := AM (below_step (bX HB.out) hb); have _ := AM (hbox); have n3_ := AM ((by rw [hg]; exact (bZ (bX HB.out)) : w.heap.size ≤ gb107)); have _ := AM (lX hg BK101.out); have _ := AM (lX hg BK101.out).symm; clear BK101 HB; rename_i BK101 HB BK107 NB101_107 NB107_101; have GW107 := n3_; have GE107 := n3_; clear n3_; clear hb hbox hg; have hnb51 := NB107_101.out; have hnc51 := NB101_107.out; have hcz52 := q2 BK107.out; have hfz52 := fZ BK107.out) | (go_at_call 56; (with_reducible refine (impl_isName.calls k2 ((rd_T78 l0_3 x34_2).f0) true _ A21.out).mono ?_); rintro e w' ⟨rfl, ⟨nd, rfl⟩⟩; (try first | exact ⟨rfl, _, dD⟩ | exact ⟨rfl, _, dA⟩)) | (go_at_call 58; (with_reducible refine (impl_Topic_end.calls _ _ _ A0_2 c0_2 _ _ t112 _ ?side1 ?side2 A43.out).mono ?_); (case side1 => first | exact hcz53_1 | (go_simp; done)); (case side2 => first | exact hcz53_2 | (go_simp; done)); rintro e w' ⟨rfl, ⟨nd, rfl⟩⟩; (try first | exact ⟨rfl, _, dD⟩ | exact ⟨rfl, _, dA⟩)) | (go_at_call 40; (with_reducible refine (impl_within.calls ((rd_T78 l0_3 x34_2).f1) a0_1 t112 false _ A44.out).mono ?_); rintro e w' ⟨rfl, ⟨nd, rfl⟩⟩; (try first | exact ⟨rfl, _, dD⟩ | exact ⟨rfl, _, dA⟩))); try go_wp2_with (first | ((with_reducible refine gate_dst (N := 4) rfl ?_); (try (refine gate_guard (by rfl) ?_; dsimp only)); refine box_event (by rfl) (N := 4) (by rfl) (cs := #[.string (⟨#[]⟩ : ByteArray), .int .i64 0]) (t := 78) (by first | (go_simp; done) | (go_simp; rfl)) ?_; intro gb107 hg w50 hbox hb; have _ := AM (nB BK101.out hb); have _ := AM (below_step (bX HB.out) hb); have _ := AM (hbox); have n3_ := AM ((by rw [hg]; exact (bZ (bX HB.out)) : w.heap.size ≤ gb107)); have _ := AM (lX hg BK101.out); have _ := AM (lX hg BK101.out).symm; clear BK101 HB; rename_i BK101 HB BK107 NB101_107 NB107_101; have GW107 := n3_; have GE107 := n3_; clear n3_; clear hb hbox hg; have hnb51 := NB107_101.out; have hnc51 := NB101_107.out; have hcz52 := q2 BK107.out; have hfz52 := fZ BK107.out) | (go_at_call 56; (with_reducible refine (impl_isName.calls k2 ((rd_T78 l0_3 x34_2).f0) true _ A21.out).mono ?_); rintro e w' ⟨rfl, ⟨nd, rfl⟩⟩; (try first | exact ⟨rfl, _, dD⟩ | exact ⟨rfl, _, dA⟩)) | (go_at_call 58; (with_reducible refine (impl_Topic_end.calls _ _ _ A0_2 c0_2 _ _ t112 _ ?side1 ?side2 A43.out).mono ?_); (case side1 => first | exact hcz53_1 | (go_simp; done)); (case side2 => first | exact hcz53_2 | (go_simp; done)); rintro e w' ⟨rfl, ⟨nd, rfl⟩⟩; (try first | exact ⟨rfl, _, dD⟩ | exact ⟨rfl, _, dA⟩)) | (go_at_call 40; (with_reducible refine (impl_within.calls ((rd_T78 l0_3 x34_2).f1) a0_1 t112 false _ A44.out).mono ?_); rintro e w' ⟨rfl, ⟨nd, rfl⟩⟩; (try first | exact ⟨rfl, _, dD⟩ | exact ⟨rfl, _, dA⟩))))
         go_ret
         exact ⟨by first | rfl | (simp [*, errW_none, errW_some] <;> rfl), bX HB.out⟩
        replace c22 := Bool.eq_false_iff.mpr c22
        subst c22
        have H1 : (some false) = some r := by rw [if_neg (show ¬ (false = true) by decide)] at H; exact H
        clear H
        have H := H1
        clear H1
        obtain rfl := Option.some.inj H
        have p106 : 0 ≤ (x34_2 : Int) := of_decide_eq_true (by assumption)
        have q106 : x34_2 < (l0_3.length : Int) := of_decide_eq_true (by assumption)
        obtain ⟨ad106, e106, hx106_0, hx106_1⟩ := at_T78 HR0_3.out x34_2 p106 q106
        cases e106
        replace hx106_0 := pw_cell_below HB.out hx106_0
        replace hx106_1 := pw_cell_below HB.out hx106_1
        replace p106 := eq_true p106
        replace q106 := eq_true q106
        go_wp2_with (first | ((with_reducible refine gate_dst (N := 4) rfl ?_); (try (refine gate_guard (by rfl) ?_; dsimp only)); refine box_event (by rfl) (N := 4) (by rfl) (cs := #[.string (⟨#[]⟩ : ByteArray), .int .i64 0]) (t := 78) (by first | (go_simp; done) | (go_simp; rfl)) ?_; intro gb107 hg w54 hbox hb; have _ := AM (nB BK101.out hb); have _ := AM (below_step (bX HB.out) hb); have _ := AM (hbox); have n3_ := AM ((by rw [hg]; exact (bZ (bX HB.out)) : w.heap.size ≤ gb107)); have _ := AM (lX hg BK101.out); have _ := AM (lX hg BK101.out).symm; clear BK101 HB; rename_i BK101 HB BK107 NB101_107 NB107_101; have GW107 := n3_; have GE107 := n3_; clear n3_; clear hb hbox hg; have hnb55 := NB107_101.out; have hnc55 := NB101_107.out; have hcz56 := q2 BK107.out; have hfz56 := fZ BK107.out) | (go_at_call 56; (with_reducible refine (impl_isName.calls k2 ((rd_T78 l0_3 x34_2).f0) false _ A21.out).mono ?_); rintro e w' ⟨rfl, ⟨nd, rfl⟩⟩; (try first | exact ⟨rfl, _, dD⟩ | exact ⟨rfl, _, dA⟩)))
        repeat (go_quiet (first | ((with_reducible refine gate_dst (N := 4) rfl ?_); (try (refine gate_guard (by rfl) ?_; dsimp only)); refine box_event (by rfl) (N := 4) (by rfl) (cs := #[.string (⟨#[]⟩ : ByteArray), .int .i64 0]) (t := 78) (by first | (go_simp; done) | (go_simp; rfl)) ?_; intro gb107 hg w54 hbox hb; have _ := AM (nB BK101.out hb); have _ := AM (below_step (bX HB.out) hb); have _ := AM (hbox); have n3_ := AM ((by rw [hg]; exact (bZ (bX HB.out)) : w.heap.size ≤ gb107)); have _ := AM (lX hg BK101.out); have _ := AM (lX hg BK101.out).symm; clear BK101 HB; rename_i BK101 HB BK107 NB101_107 NB107_101; have GW107 := n3_; have GE107 := n3_; clear n3_; clear hb hbox hg; have hnb55 := NB107_101.out; have hnc55 := NB101_107.out; have hcz56 := q2 BK107.out; have hfz56 := fZ BK107.out) | (go_at_call 56; (with_reducible refine (impl_isName.calls k2 ((rd_T78 l0_3 x34_2).f0) false _ A21.out).mono ?_); rintro e w' ⟨rfl, ⟨nd, rfl⟩⟩; (try first | exact ⟨rfl, _, dD⟩ | exact ⟨rfl, _, dA⟩))); try go_wp2_with (first | ((with_reducible refine gate_dst (N := 4) rfl ?_); (try (refine gate_guard (by rfl) ?_; dsimp only)); refine box_event (by rfl) (N := 4) (by rfl) (cs := #[.string (⟨#[]⟩ : ByteArray), .int .i64 0]) (t := 78) (by first | (go_simp; done) | (go_simp; rfl)) ?_; intro gb107 hg w54 hbox hb; have _ := AM (nB BK101.out hb); have _ := AM (below_step (bX HB.out) hb); have _ := AM (hbox); have n3_ := AM ((by rw [hg]; exact (bZ (bX HB.out)) : w.heap.size ≤ gb107)); have _ := AM (lX hg BK101.out); have _ := AM (lX hg BK101.out).symm; clear BK101 HB; rename_i BK101 HB BK107 NB101_107 NB107_101; have GW107 := n3_; have GE107 := n3_; clear n3_; clear hb hbox hg; have hnb55 := NB107_101.out; have hnc55 := NB101_107.out; have hcz56 := q2 BK107.out; have hfz56 := fZ BK107.out) | (go_at_call 56; (with_reducible refine (impl_isName.calls k2 ((rd_T78 l0_3 x34_2).f0) false _ A21.out).mono ?_); rintro e w' ⟨rfl, ⟨nd, rfl⟩⟩; (try first | exact ⟨rfl, _, dD⟩ | exact ⟨rfl, _, dA⟩))))
        go_ret
        exact ⟨by first | rfl | (simp [*, errW_none, errW_some] <;> rfl), bX HB.out⟩
       rw [if_neg c20] at H
       exact absurd H (by simp)
      rw [if_neg c19] at H
      exact absurd H (by simp)
     rw [if_neg c18] at H
     have c18b0 : decide (x34_2 < (l0_3.length : Int)) = false := decide_eq_false c18
     clear c18
     replace H := Option.bind_eq_some_iff.mp H
     obtain ⟨t105, A570, H⟩ := H
     replace H : (some (!t105)) = some r := H
     have A57 := AM A570
     clear A570
     obtain rfl := Option.some.inj H
     have hcz58 := q4 BK101.out
     have hfz58 := fZ BK101.out
     go_wp2_with (first | (go_at_call 59; (with_reducible refine (slices_ContainsFunc_string_string.calls _ _ l0_2  t105 _ ?side1 ?side2 A57.out).mono ?_); (case side1 => repeat (first | exact (cB HR0_2.out HB.out) | (with_reducible first | apply cA | apply cN | apply cD))); (case side2 => exact HC0_2.out); rintro e w59 ⟨rfl, hb⟩; have _ := AM (nB BK101.out hb); have _ := AM (below_step (bX HB.out) hb); clear BK101 HB; rename_i BK101 HB; (try clear hb); (try clear hk)))
     repeat (go_quiet (first | (go_at_call 59; (with_reducible refine (slices_ContainsFunc_string_string.calls _ _ l0_2  t105 _ ?side1 ?side2 A57.out).mono ?_); (case side1 => repeat (first | exact (cB HR0_2.out HB.out) | (with_reducible first | apply cA | apply cN | apply cD))); (case side2 => exact HC0_2.out); rintro e w59 ⟨rfl, hb⟩; have _ := AM (nB BK101.out hb); have _ := AM (below_step (bX HB.out) hb); clear BK101 HB; rename_i BK101 HB; (try clear hb); (try clear hk))); try go_wp2_with (first | (go_at_call 59; (with_reducible refine (slices_ContainsFunc_string_string.calls _ _ l0_2  t105 _ ?side1 ?side2 A57.out).mono ?_); (case side1 => repeat (first | exact (cB HR0_2.out HB.out) | (with_reducible first | apply cA | apply cN | apply cD))); (case side2 => exact HC0_2.out); rintro e w59 ⟨rfl, hb⟩; have _ := AM (nB BK101.out hb); have _ := AM (below_step (bX HB.out) hb); clear BK101 HB; rename_i BK101 HB; (try clear hb); (try clear hk))))
     go_ret
     exact ⟨by first | rfl | (simp [*, errW_none, errW_some] <;> rfl), bX HB.out⟩

end Go.Proofs.Ytokgloeondfkiaa.Q
