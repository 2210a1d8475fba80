/- Printed by a program of this session (wip/mp.py over the kit's print.py): functions of the translation as plain Lean functions, and that the machine's calls do what these say. -/
import Derived.Test.YtcnilcipcnjmjaaQx0
import Derived.Test.YtcnilcipcnjmjaaQx9
import Derived.Test.YtcnilcipcnjmjaaQx10
import Derived.Test.YtcnilcipcnjmjaaQx11
namespace Go.Proofs.Ytcnilcipcnjmjaa.Q
open Go.RowKit Go.Proofs.Ytcnilcipcnjmjaa.HB Go.Proofs.YtcnilcipcnjmjaaW.PrintWords Go.Proofs.YtcnilcipcnjmjaaW.PrintLast Go.Proofs.YtcnilcipcnjmjaaW.PrintMore
attribute [local go_sem] max2_int min2_int max_two min_two max_three min_three max_four min_four   -- for this text's walks alone
set_option linter.unusedVariables false
set_option linter.unusedSimpArgs false

/-! ### impl_Topic_publish: function 34 (by hand) -/
theorem R_keepbut {α β : Type} {d : Kd α} {d' : Kd β} {e e' base b : Nat} {ok ok' : Nat → Prop} {W w1 : World} {u v : Value} {xs : List α} {ys : List β} {g t : Nat} {cs : Array Value} (h : d.R e W base ok u xs) (hv : d'.R e' W b ok' v ys) (hb : W.heap[g]? = some (.cells cs t (0, 0))) (ht : ∀ q, q ∈ e :: d.E → q ≠ e') (ht2 : ∀ q, q ∈ e :: d.E → q ≠ t) (hk : KeepBut W w1 g v.ownBlock) : d.R e w1 base ok u xs := by
  refine Kd.R_mono (Kd.R_move (Kd.R_bound h) (fun k hk' => hk.2 k hk'.2.2.1 (fun hgk => ?_) (fun he => ?_))) (fun _ hk => hk.1)
  · obtain ⟨_, _, _, q, hq, cells, hc⟩ := hk'
    subst hgk
    rw [hb] at hc
    injection hc with hc
    injection hc with _ hc
    exact ht2 q hq hc.symm
  · obtain ⟨_, _, _, q, hq, cells, hc⟩ := hk'
    obtain ⟨cells', hc'⟩ := Kd.R_typed hv k he.symm
    rw [hc] at hc'
    injection hc' with hc'
    injection hc' with _ hc'
    exact ht q hq hc'
def impl_Topic_publish.f (s0 : ByteArray) (s1 : Int) (s2 : List ByteArray) (s3 : List S36) (a1 : ByteArray) : Option (Int × Int × List ByteArray) :=
  if (s2.length : Int) = 20 then some (0, 9, s2) else (impl_Topic_end.f s0 s1 s2 s3).bind fun t1 => if t1 = 1000000000 then some (0, 9, s2) else
    if (s2.length : Int) < 20 then (impl_Topic_end.f s0 s1 (s2 ++ [a1]) s3).bind fun t2 => some (wrap64 (t2 - 1), 0, s2 ++ [a1]) else none
set_option maxHeartbeats 4000000 in
set_option maxRecDepth 100000 in
theorem impl_Topic_publish.calls (g : Nat) (s0 : ByteArray) (s1 : Int) (v2 v3 : Value) (s2 : List ByteArray) (s3 : List S36) (a1 : ByteArray) (r1 r2 : Int) (s2' : List ByteArray) (w0 w : World)
    (hG : w.heap[g]? = some (.cells #[.string s0, .int .i64 s1, v2, v3] 26 (0, 0))) (hg : w0.heap.size ≤ g) (hB : Below w0.heap.size w0 w)
    (h2 : Kd.R Kd.string 9 w w0.heap.size (fun _ => True) v2 s2) (h : impl_Topic_publish.f s0 s1 s2 s3 a1 = some (r1, r2, s2')) :
    Calls Try.prog 34 #[.pointer (some ⟨g, 0, none⟩), .string a1] w fun e w' => ∃ v2', e = .returned (.tuple #[.int .i64 r1, .int .i64 r2]) ∧ w'.heap[g]? = some (.cells #[.string s0, .int .i64 s1, v2', v3] 26 (0, 0)) ∧ Kd.R Kd.string 9 w' w0.heap.size (fun _ => True) v2' s2' ∧ Below w0.heap.size w0 w' ∧ KeepBut w w' g v2.ownBlock := by
  obtain ⟨A2, c2, rfl⟩ := Kd.R_slice h2
  have hu30 := Try.underlying26
  have BK := Aside0.mk hG
  have HB := Aside0.mk hB
  have HO := Aside0.mk h2
  have GE := Aside0.mk hg
  have HH := Aside0.mk h
  have hcz_0 : w.cell? ⟨g, 0, none⟩ = some (.string s0) := (blk_cell BK.out 0).trans rfl
  have hcz_1 : w.cell? ⟨g, 1, none⟩ = some (.int .i64 s1) := (blk_cell BK.out 1).trans rfl
  have hcz_2 : w.cell? ⟨g, 2, none⟩ = some (.slice A2 s2.length c2) := (blk_cell BK.out 2).trans rfl
  have hfz_0 := blk_frozen BK.out 0
  have hfz_1 := blk_frozen BK.out 1
  have hfz_2 := blk_frozen BK.out 2
  clear hG hB h2 hg h
  by_cases c1 : (s2.length : Int) = 20
  · have c1b : ((s2.length : Int) == 20) = true := beq_iff_eq.2 c1
    have E1 : Aside0 ((0, 9, s2) = (r1, r2, s2')) := ⟨by have := HH.out; unfold impl_Topic_publish.f at this; rw [if_pos c1] at this; exact Option.some.inj this⟩
    clear c1
    go_enter Try.func34, Try.ntmps34
    go_wp2
    go_ret2
    obtain ⟨rfl, rfl, rfl⟩ : 0 = r1 ∧ 9 = r2 ∧ s2 = s2' := by simpa using E1.out
    exact ⟨_, rfl, BK.out, HO.out, HB.out, KeepBut.refl _ _ _⟩
  · have c1b : ((s2.length : Int) == 20) = false := beq_eq_false_iff_ne.2 c1
    obtain ⟨t1, A1, HH⟩ : ∃ t1, Aside0 (impl_Topic_end.f s0 s1 s2 s3 = some t1) ∧ Aside0 ((if t1 = 1000000000 then some (0, 9, s2) else
    if (s2.length : Int) < 20 then (impl_Topic_end.f s0 s1 (s2 ++ [a1]) s3).bind fun t2 => some (wrap64 (t2 - 1), 0, s2 ++ [a1]) else none) = some (r1, r2, s2')) := by
      have := HH.out; unfold impl_Topic_publish.f at this; rw [if_neg c1] at this
      obtain ⟨t1, h1, h2⟩ := Option.bind_eq_some_iff.mp this
      exact ⟨t1, ⟨h1⟩, ⟨h2⟩⟩
    clear c1
    by_cases d1 : t1 = 1000000000
    · have d1b : (t1 == 1000000000) = true := beq_iff_eq.2 d1
      have E1 : Aside0 ((0, 9, s2) = (r1, r2, s2')) := ⟨by have := HH.out; rw [if_pos d1] at this; exact Option.some.inj this⟩
      clear d1
      go_enter Try.func34, Try.ntmps34
      go_wp2_with (first | (go_at_call 37; (with_reducible refine (impl_Topic_end.calls _ _ _ A2 c2 _ _ t1 _ ?side1 ?side2 A1.out).mono ?_); (case side1 => first | exact hcz_1 | (go_simp; done)); (case side2 => first | exact hcz_2 | (go_simp; done)); rintro e w' ⟨rfl, ⟨nd, rfl⟩⟩))
      go_ret2
      obtain ⟨rfl, rfl, rfl⟩ : 0 = r1 ∧ 9 = r2 ∧ s2 = s2' := by simpa using E1.out
      exact ⟨_, rfl, blk_drewN BK.out _, Kd.R_drewN HO.out _, pw_below_drewN HB.out _, keep_drewN (KeepBut.refl _ _ _) _⟩
    · have d1b : (t1 == 1000000000) = false := beq_eq_false_iff_ne.2 d1
      obtain ⟨t2, L1, A2e, E1⟩ : ∃ t2, Aside0 ((s2.length : Int) < 20) ∧ Aside0 (impl_Topic_end.f s0 s1 (s2 ++ [a1]) s3 = some t2) ∧ Aside0 ((wrap64 (t2 - 1), 0, s2 ++ [a1]) = (r1, r2, s2')) := by
        have := HH.out; rw [if_neg d1] at this
        by_cases l : (s2.length : Int) < 20
        · rw [if_pos l] at this
          obtain ⟨t2, h1, h2⟩ := Option.bind_eq_some_iff.mp this
          exact ⟨t2, ⟨l⟩, ⟨h1⟩, ⟨Option.some.inj h2⟩⟩
        · rw [if_neg l] at this; cases this
      clear HH d1
      go_enter Try.func34, Try.ntmps34
      go_wp2_with (first | (go_at_call 37; (first | ((with_reducible refine (impl_Topic_end.calls _ _ _ A2 c2 _ _ t1 _ ?side1 ?side2 A1.out).mono ?_); (case side1 => first | exact hcz_1 | (go_simp; done)); (case side2 => first | exact hcz_2 | (go_simp; done)); rintro e w' ⟨rfl, ⟨nd, rfl⟩⟩) | (have BK2 := Aside0.mk (blk_put BK.out 2 (.slice A4 (s2.length + 1) c4) rfl); (with_reducible refine (impl_Topic_end.calls _ _ _ A4 c4 (s2 ++ [a1]) _ t2 _ ?side1 ?side2 A2e.out).mono ?_); (case side1 => exact (blk_cell BK2.out 1).trans rfl); (case side2 => exact (blk_cell BK2.out 2).trans (by simp)); rintro e w' ⟨rfl, ⟨nd2, rfl⟩⟩))) | ((with_reducible refine gate_builtin (b := .append) (xs := #[.tmp 21, .tmp 23]) rfl ?_); at_builtin; refine Kd.R_append Kd.string (w0 := w0) w0.heap.size rfl (.tmp 21) (.tmp 23) 23 9 (.string ⟨#[]⟩) 16 rfl Try.underlying23 info9 rfl (by decide) (by omega) (.slice A2 s2.length c2) s2 a1 [.string a1] (fun _ => True) (fun _ => False) rfl (by first | (go_simp; done) | (go_simp; rfl)) ?aP (fun _ hk => hk.elim) ?aF ?aO ?aB ?aS ?aL ?_; (case aP => exact rfl); (case aB => exact (by repeat (first | (with_reducible first | exact HB.out | apply below_alloc | apply pw_below_drewN | apply below_drew1) | exact HB.out))); (case aF => exact (fun _ _ => trivial)); (case aO => exact (by (with_reducible repeat (first | apply Kd.R_alloc | apply Kd.R_drewN | apply Kd.R_drew)); exact HO.out)); (case aS => exact (below_size (by repeat (first | (with_reducible first | exact HB.out | apply below_alloc | apply pw_below_drewN | apply below_drew1) | exact HB.out)))); (case aL => have := L1.out; omega); intro v4 w4 ho hb hgr hat; have n0_ := Aside0.mk (blk_grown (g := g) (o := .cells #[.string s0, .int .i64 s1, .slice A2 s2.length c2, v3] 26 (0, 0)) (by (with_reducible repeat (first | refine blk_drewN ?_ _ | refine blk_drew ?_ | refine blk_alloc ?_ _)); exact BK.out) hgr (Kd.R_ne HO.out BK.out (by decide))); have n1_ := Aside0.mk ho; have n2_ := Aside0.mk hb; have HK := Aside0.mk (KeepBut.of_grown hgr g); clear ho hb hgr hat; clear HO HB BK; have BK := n0_; have HO := n1_; have HB := n2_; clear n0_ n1_ n2_; clear hcz_0 hcz_1 hcz_2 hfz_0 hfz_1 hfz_2; obtain ⟨A4, c4, e4⟩ := Kd.R_slice HO.out; rw [show (s2 ++ [a1]).length = s2.length + 1 by simp] at e4; subst e4; have hcz_0 : w4.cell? ⟨g, 0, none⟩ = some (.string s0) := (blk_cell BK.out 0).trans rfl; have hcz_1 : w4.cell? ⟨g, 1, none⟩ = some (.int .i64 s1) := (blk_cell BK.out 1).trans rfl; have hcz_2 : w4.cell? ⟨g, 2, none⟩ = some (.slice A2 s2.length c2) := (blk_cell BK.out 2).trans rfl; have hfz_2 := blk_frozen BK.out 2))
      go_ret2
      obtain ⟨rfl, rfl, rfl⟩ : wrap64 (t2 - 1) = r1 ∧ 0 = r2 ∧ s2 ++ [a1] = s2' := by simpa using E1.out
      exact ⟨.slice A4 (s2.length + 1) c4, by first | rfl | simp, by (with_reducible repeat (first | refine blk_drewN ?_ _ | refine blk_drew ?_ | refine blk_alloc ?_ _)); exact BK2.out, by (with_reducible repeat (first | apply Kd.R_alloc | apply Kd.R_drewN | apply Kd.R_drew)); exact Kd.R_mono (Kd.R_far (p := ⟨g, 2, none⟩) (Kd.R_types HO.out BK.out (by decide)) (fun _ hk => hk.2) (.slice A4 (s2.length + 1) c4)) (fun _ _ => trivial), by repeat (first | (with_reducible first | exact HB.out | apply below_alloc | apply pw_below_drewN | apply below_drew1 | refine below_set ?_ GE.out) | exact HB.out), by (with_reducible repeat (first | apply KeepBut.set_ | apply keep_drewN | apply keep_drew)); exact HK.out⟩


/-! ### impl_topicOut: function 35 -/

def impl_topicOut.f (a0_0 : ByteArray) (a0_1 : Int) (l0_2 : List ByteArray) (l0_3 : List (S36)) (l1 : List ByteArray) (a2 : Int) (a3 : Int) : Option (ByteArray × Int × List ByteArray × (List (S36)) × List ByteArray × Int × Int) := if a3 = 0 then (some (a0_0, a0_1, l0_2, l0_3, l1, a2, 0)) else (some ((⟨#[]⟩ : ByteArray), 0, ([] : List ByteArray), ([] : List (S36)), ([] : List ByteArray), 0, a3))
set_option maxHeartbeats 60000000 in
set_option maxRecDepth 100000 in
theorem impl_topicOut.calls (a0_0 : ByteArray) (a0_1 : Int) (P0_2_ : Nat → Prop) (u9000_ : Value) (l0_2 : List ByteArray) (P0_3_ : Nat → Prop) (u9001_ : Value) (l0_3 : List (S36)) (P1_ : Nat → Prop) (u9002_ : Value) (l1 : List ByteArray) (a2 : Int) (a3 : Int) (r1 : ByteArray) (r2 : Int) (r3 : List ByteArray) (r4 : List (S36)) (r5 : List ByteArray) (r6 : Int) (r7 : Int) (w0 w : World) (hB : Below w0.heap.size w0 w) (ho0_2 : Kd.R Kd.string 9 w w0.heap.size P0_2_ u9000_ l0_2) (hp0_2_1 : ∀ k_, P0_2_ k_ → ¬ P1_ k_) (ho0_3 : Kd.R k36 36 w w0.heap.size P0_3_ u9001_ l0_3) (ho1 : Kd.R Kd.string 9 w w0.heap.size P1_ u9002_ l1) (hp1_0_2 : ∀ k_, P1_ k_ → ¬ P0_2_ k_) (h : impl_topicOut.f a0_0 a0_1 l0_2 l0_3 l1 a2 a3 = some (r1, r2, r3, r4, r5, r6, r7)) :
    Calls Try.prog 35 #[.agg #[.string a0_0, .int .i64 a0_1, u9000_, u9001_], u9002_, .int .i64 a2, .int .i64 a3] w fun e w' => ∃ v2_ v3_ v4_ : Value, e = .returned (.agg #[.string r1, .int .i64 r2, v2_, v3_, v4_, .int .i64 r6, .int .i64 r7]) ∧ Kd.R Kd.string 9 w' w0.heap.size (fun k_ => ((P0_2_ k_ ∨ P0_3_ k_ ∨ P1_ k_) ∨ w.heap.size ≤ k_) ∧ some k_ ≠ (v4_ : Value).ownBlock) v2_ r3 ∧ Kd.R k36 36 w' w0.heap.size (fun k_ => ((P0_2_ k_ ∨ P0_3_ k_ ∨ P1_ k_) ∨ w.heap.size ≤ k_)) v3_ r4 ∧ Kd.R Kd.string 9 w' w0.heap.size (fun k_ => ((P0_2_ k_ ∨ P0_3_ k_ ∨ P1_ k_) ∨ w.heap.size ≤ k_) ∧ some k_ ≠ (v2_ : Value).ownBlock) v4_ r5 ∧ Below w0.heap.size w0 w' ∧ Kept w w' (fun k_ => P0_2_ k_ ∨ P0_3_ k_ ∨ P1_ k_) := by
 have hu26 := Try.underlying26
 have hu30 := Try.underlying30
 have HO0_2 := AM (show Kd.R Kd.string 9 w w0.heap.size (fun k_ => ((P0_2_ k_ ∨ P0_3_ k_ ∨ P1_ k_) ∨ w.heap.size ≤ k_) ∧ some k_ ≠ (u9002_ : Value).ownBlock) u9000_ l0_2 from Kd.R_mono ho0_2 (fun k_ hk => ⟨(.inl (.inl hk)), fun e_ => hp0_2_1 k_ hk (ho1.1 k_ e_.symm)⟩))
 have HO0_3 := AM (show Kd.R k36 36 w w0.heap.size (fun k_ => ((P0_2_ k_ ∨ P0_3_ k_ ∨ P1_ k_) ∨ w.heap.size ≤ k_)) u9001_ l0_3 from Kd.R_mono ho0_3 (fun k_ hk => (.inl (.inr (.inl hk)))))
 have HO1 := AM (show Kd.R Kd.string 9 w w0.heap.size (fun k_ => ((P0_2_ k_ ∨ P0_3_ k_ ∨ P1_ k_) ∨ w.heap.size ≤ k_) ∧ some k_ ≠ (u9000_ : Value).ownBlock) u9002_ l1 from Kd.R_mono ho1 (fun k_ hk => ⟨(.inl (.inr (.inr hk))), fun e_ => hp1_0_2 k_ hk (ho0_2.1 k_ e_.symm)⟩))
 have HK := AM (Kept.refl w (fun k_ => P0_2_ k_ ∨ P0_3_ k_ ∨ P1_ k_))
 have HW0 := AM hB.size
 have HB := AM hB
 clear hB
 have H : (if a3 = 0 then (some (a0_0, a0_1, l0_2, l0_3, l1, a2, 0)) else (some ((⟨#[]⟩ : ByteArray), 0, ([] : List ByteArray), ([] : List (S36)), ([] : List ByteArray), 0, a3))) = some (r1, r2, r3, r4, r5, r6, r7) := h
 clear h
 by_cases c5 : a3 = 0
 ·
  rw [if_pos c5] at H
  have c5b0 : (a3 == 0) = true := beq_iff_eq.mpr c5
  have c5b1 : (a3 != 0) = false := bne_eq_false_iff_eq.mpr c5
  clear c5
  simp only [Option.some.injEq, Prod.mk.injEq] at H
  obtain ⟨rfl, rfl, rfl, rfl, rfl, rfl, rfl⟩ := H
  obtain ⟨Ao6, co6, eo6⟩ := Kd.R_slice HO0_2.out
  subst eo6
  obtain ⟨Ao7, co7, eo7⟩ := Kd.R_slice HO0_3.out
  subst eo7
  go_enter Try.func35, Try.ntmps35
  go_wp2_with (first | ((with_reducible refine gate_dst (N := 4) rfl ?_); refine box_event (by rfl) (N := 4) (by rfl) (cs := #[.string a0_0, .int .i64 a0_1, .slice Ao6 l0_2.length co6, .slice Ao7 l0_3.length co7]) (t := 26) (by first | (go_simp; done) | (go_simp; rfl)) ?_; intro gb101 hg w8 hbox hb; have _ := AM (Kd.R_below (rX HO0_2.out) hb); have _ := AM (Kd.R_below (rX HO0_3.out) hb); have _ := AM (Kd.R_below (rX HO1.out) hb); have _ := AM (Kept.below (S := (fun k_ => P0_2_ k_ ∨ P0_3_ k_ ∨ P1_ k_)) (tX HK.out) hb); have _ := AM (below_step (bX HB.out) hb); have _ := AM (hbox); have _ := AM ((by rw [hg]; exact (by first | exact HK.out.1 | exact (show Kept w _ (fun k_ => P0_2_ k_ ∨ P0_3_ k_ ∨ P1_ k_) from tX HK.out).1) : w.heap.size ≤ gb101)); have _ := AM ((by rw [hg]; exact (bZ (bX HB.out)) : w0.heap.size ≤ gb101)); clear HO0_2 HO0_3 HO1 HK HB; rename_i HO0_2 HO0_3 HO1 HK HB BK101 GW101 GE101; clear hb hbox hg) | ((with_reducible refine gate_dst (N := 8) rfl ?_); refine box_event (by rfl) (N := 8) (by rfl) (cs := #[.string (⟨#[]⟩ : ByteArray), .int .i64 0, .slice none 0 0, .slice none 0 0, .slice none 0 0, .int .i64 0, .int .i64 0]) (t := 30) (by first | (go_simp; done) | (go_simp; rfl)) ?_; intro gb102 hg w9 hbox hb; have _ := AM (Kd.R_below (rX HO0_2.out) hb); have _ := AM (Kd.R_below (rX HO0_3.out) hb); have _ := AM (Kd.R_below (rX HO1.out) hb); have _ := AM (nB BK101.out hb); have _ := AM (Kept.below (S := (fun k_ => P0_2_ k_ ∨ P0_3_ k_ ∨ P1_ k_)) (tX HK.out) hb); have _ := AM (below_step (bX HB.out) hb); have _ := AM (hbox); have _ := AM ((by rw [hg]; exact (by first | exact HK.out.1 | exact (show Kept w _ (fun k_ => P0_2_ k_ ∨ P0_3_ k_ ∨ P1_ k_) from tX HK.out).1) : w.heap.size ≤ gb102)); have _ := AM ((by rw [hg]; exact (bZ (bX HB.out)) : w0.heap.size ≤ gb102)); have _ := AM (lX hg BK101.out); have _ := AM (lX hg BK101.out).symm; clear HO0_2 HO0_3 HO1 BK101 HK HB; rename_i HO0_2 HO0_3 HO1 BK101 HK HB BK102 GW102 GE102 NB101_102 NB102_101; clear hb hbox hg; have hnb10 := NB101_102.out; have hnc10 := NB102_101.out; have hcz11 := q4 BK101.out; have hfz11 := fZ BK101.out; obtain ⟨Ao12, co12, eo12⟩ := Kd.R_slice HO1.out; subst eo12; have hcz13 := q7 BK102.out; have hfz13 := fZ BK102.out))
  refine bodyPost_ret (results_cell_row rfl _ _ gb102 30 #[.string a0_0, .int .i64 a0_1, .slice Ao6 l0_2.length co6, .slice Ao7 l0_3.length co7, .slice Ao12 l1.length co12, .int .i64 a2, .int .i64 0] (0, 0) _ rfl (by refine kP (cs := #[.string a0_0, .int .i64 a0_1, .slice Ao6 l0_2.length co6, .slice Ao7 l0_3.length co7, .slice Ao12 l1.length co12, .int .i64 a2, .int .i64 0]) 6 ?_; refine kP (cs := #[.string a0_0, .int .i64 a0_1, .slice Ao6 l0_2.length co6, .slice Ao7 l0_3.length co7, .slice Ao12 l1.length co12, .int .i64 0, .int .i64 0]) 5 ?_; refine kP (cs := #[.string a0_0, .int .i64 a0_1, .slice Ao6 l0_2.length co6, .slice Ao7 l0_3.length co7, .slice none 0 0, .int .i64 0, .int .i64 0]) 4 ?_; refine kP (cs := #[.string a0_0, .int .i64 a0_1, .slice Ao6 l0_2.length co6, .slice none 0 0, .slice none 0 0, .int .i64 0, .int .i64 0]) 3 ?_; refine kP (cs := #[.string a0_0, .int .i64 a0_1, .slice none 0 0, .slice none 0 0, .slice none 0 0, .int .i64 0, .int .i64 0]) 2 ?_; refine kP (cs := #[.string a0_0, .int .i64 0, .slice none 0 0, .slice none 0 0, .slice none 0 0, .int .i64 0, .int .i64 0]) 1 ?_; refine kP (cs := #[.string (⟨#[]⟩ : ByteArray), .int .i64 0, .slice none 0 0, .slice none 0 0, .slice none 0 0, .int .i64 0, .int .i64 0]) 0 ?_; (with_reducible repeat (first | apply kN | apply kD | apply kA)); exact BK102.out) Try.underlying30 rfl (by kernel_rfl)) rfl ?_
  exact ⟨_, _, _, by first | rfl | (simp [*, errW_none, errW_some] <;> rfl), by (with_reducible repeat (first | apply rA | apply rN | apply rD)); exact Rf7 HO0_2.out BK102.out (by decide) (fun _ hk => ⟨hk.1.1, hk.1.2⟩), by (with_reducible repeat (first | apply rA | apply rN | apply rD)); exact Rf7 HO0_3.out BK102.out (by decide) (fun _ hk => hk.1), by (with_reducible repeat (first | apply rA | apply rN | apply rD)); exact Rf7 HO1.out BK102.out (by decide) (fun _ hk => ⟨hk.1.1, hk.1.2⟩), bX HB.out, tX HK.out⟩
 rw [if_neg c5] at H
 have c5b0 : (a3 == 0) = false := beq_eq_false_iff_ne.mpr c5
 have c5b1 : (a3 != 0) = true := bne_iff_ne.mpr c5
 simp only [Option.some.injEq, Prod.mk.injEq] at H
 obtain ⟨rfl, rfl, rfl, rfl, rfl, rfl, rfl⟩ := H
 obtain ⟨Ao14, co14, eo14⟩ := Kd.R_slice HO0_2.out
 subst eo14
 obtain ⟨Ao15, co15, eo15⟩ := Kd.R_slice HO0_3.out
 subst eo15
 go_enter Try.func35, Try.ntmps35
 go_wp2_with (first | ((with_reducible refine gate_dst (N := 4) rfl ?_); refine box_event (by rfl) (N := 4) (by rfl) (cs := #[.string a0_0, .int .i64 a0_1, .slice Ao14 l0_2.length co14, .slice Ao15 l0_3.length co15]) (t := 26) (by first | (go_simp; done) | (go_simp; rfl)) ?_; intro gb101 hg w16 hbox hb; have _ := AM (Kd.R_below (rX HO0_2.out) hb); have _ := AM (Kd.R_below (rX HO0_3.out) hb); have _ := AM (Kd.R_below (rX HO1.out) hb); have _ := AM (Kept.below (S := (fun k_ => P0_2_ k_ ∨ P0_3_ k_ ∨ P1_ k_)) (tX HK.out) hb); have _ := AM (below_step (bX HB.out) hb); have _ := AM (hbox); have _ := AM ((by rw [hg]; exact (by first | exact HK.out.1 | exact (show Kept w _ (fun k_ => P0_2_ k_ ∨ P0_3_ k_ ∨ P1_ k_) from tX HK.out).1) : w.heap.size ≤ gb101)); have _ := AM ((by rw [hg]; exact (bZ (bX HB.out)) : w0.heap.size ≤ gb101)); clear HO0_2 HO0_3 HO1 HK HB; rename_i HO0_2 HO0_3 HO1 HK HB BK101 GW101 GE101; clear hb hbox hg) | ((with_reducible refine gate_dst (N := 8) rfl ?_); refine box_event (by rfl) (N := 8) (by rfl) (cs := #[.string (⟨#[]⟩ : ByteArray), .int .i64 0, .slice none 0 0, .slice none 0 0, .slice none 0 0, .int .i64 0, .int .i64 0]) (t := 30) (by first | (go_simp; done) | (go_simp; rfl)) ?_; intro gb102 hg w17 hbox hb; have _ := AM (Kd.R_below (rX HO0_2.out) hb); have _ := AM (Kd.R_below (rX HO0_3.out) hb); have _ := AM (Kd.R_below (rX HO1.out) hb); have _ := AM (nB BK101.out hb); have _ := AM (Kept.below (S := (fun k_ => P0_2_ k_ ∨ P0_3_ k_ ∨ P1_ k_)) (tX HK.out) hb); have _ := AM (below_step (bX HB.out) hb); have _ := AM (hbox); have _ := AM ((by rw [hg]; exact (by first | exact HK.out.1 | exact (show Kept w _ (fun k_ => P0_2_ k_ ∨ P0_3_ k_ ∨ P1_ k_) from tX HK.out).1) : w.heap.size ≤ gb102)); have _ := AM ((by rw [hg]; exact (bZ (bX HB.out)) : w0.heap.size ≤ gb102)); have _ := AM (lX hg BK101.out); have _ := AM (lX hg BK101.out).symm; clear HO0_2 HO0_3 HO1 BK101 HK HB; rename_i HO0_2 HO0_3 HO1 BK101 HK HB BK102 GW102 GE102 NB101_102 NB102_101; clear hb hbox hg; have hnb18 := NB102_101.out; have hnc18 := NB101_102.out; have hcz19 := q7 BK102.out; have hfz19 := fZ BK102.out))
 refine bodyPost_ret (results_cell_row rfl _ _ gb102 30 #[.string (⟨#[]⟩ : ByteArray), .int .i64 0, .slice none 0 0, .slice none 0 0, .slice none 0 0, .int .i64 0, .int .i64 a3] (0, 0) _ rfl (by refine kP (cs := #[.string (⟨#[]⟩ : ByteArray), .int .i64 0, .slice none 0 0, .slice none 0 0, .slice none 0 0, .int .i64 0, .int .i64 0]) 6 ?_; refine kP (cs := #[.string (⟨#[]⟩ : ByteArray), .int .i64 0, .slice none 0 0, .slice none 0 0, .slice none 0 0, .int .i64 0, .int .i64 0]) 5 ?_; refine kP (cs := #[.string (⟨#[]⟩ : ByteArray), .int .i64 0, .slice none 0 0, .slice none 0 0, .slice none 0 0, .int .i64 0, .int .i64 0]) 4 ?_; refine kP (cs := #[.string (⟨#[]⟩ : ByteArray), .int .i64 0, .slice none 0 0, .slice none 0 0, .slice none 0 0, .int .i64 0, .int .i64 0]) 3 ?_; refine kP (cs := #[.string (⟨#[]⟩ : ByteArray), .int .i64 0, .slice none 0 0, .slice none 0 0, .slice none 0 0, .int .i64 0, .int .i64 0]) 2 ?_; refine kP (cs := #[.string (⟨#[]⟩ : ByteArray), .int .i64 0, .slice none 0 0, .slice none 0 0, .slice none 0 0, .int .i64 0, .int .i64 0]) 1 ?_; refine kP (cs := #[.string (⟨#[]⟩ : ByteArray), .int .i64 0, .slice none 0 0, .slice none 0 0, .slice none 0 0, .int .i64 0, .int .i64 0]) 0 ?_; (with_reducible repeat (first | apply kN | apply kD | apply kA)); exact BK102.out) Try.underlying30 rfl (by kernel_rfl)) rfl ?_
 exact ⟨_, _, _, by first | rfl | (simp [*, errW_none, errW_some] <;> rfl), by first | exact Kd.R_nil _ _ _ _ _ | exact Kd.N_nil _ _ _ _ _ | exact Kd.V_nil _ _ _ _ _ | exact Kd.Q_nil _ _ _ _ _ | exact Kd.S_nil _ _ _ _ _, by first | exact Kd.R_nil _ _ _ _ _ | exact Kd.N_nil _ _ _ _ _ | exact Kd.V_nil _ _ _ _ _ | exact Kd.Q_nil _ _ _ _ _ | exact Kd.S_nil _ _ _ _ _, by first | exact Kd.R_nil _ _ _ _ _ | exact Kd.N_nil _ _ _ _ _ | exact Kd.V_nil _ _ _ _ _ | exact Kd.Q_nil _ _ _ _ _ | exact Kd.S_nil _ _ _ _ _, bX HB.out, tX HK.out⟩

/-! ### impl_TopicPublish: function 12 (by hand) -/
def impl_TopicPublish.f (k : Nat) (a0_0 : ByteArray) (a0_1 : Int) (l0_2 : List ByteArray) (l0_3 : List S36) (a1 : ByteArray) : Option (ByteArray × Int × List ByteArray × List S36 × List ByteArray × Int × Int) :=
  if (a1.size : Int) > 20000 then some (⟨#[]⟩, 0, [], [], [], 0, 2) else (impl_isTopic.f k a0_0 a0_1 l0_2 l0_3).bind fun t => if t = true then (impl_isMessage.f a1).bind fun m => if m = true then (impl_cloneTopic.f a0_0 a0_1 l0_2 l0_3).bind fun c => (impl_Topic_publish.f c.1 c.2.1 c.2.2.1 c.2.2.2 a1).bind fun p => impl_topicOut.f c.1 c.2.1 p.2.2 c.2.2.2 [] p.1 p.2.1 else some (⟨#[]⟩, 0, [], [], [], 0, 1) else some (⟨#[]⟩, 0, [], [], [], 0, 1)
theorem impl_TopicPublish.mono : ∀ a0 a1 a2 a3 a4 k, LeO (impl_TopicPublish.f k a0 a1 a2 a3 a4) (impl_TopicPublish.f (k + 1) a0 a1 a2 a3 a4) := by
  intro a0 a1 a2 a3 a4 k
  unfold impl_TopicPublish.f
  repeat' first
      | (with_reducible exact impl_isTopic.mono _ _ _ _ _)
      | (with_reducible exact LeO.refl _)
      | (with_reducible refine LeO.ite ?_ ?_)
      | (with_reducible refine LeO.bind ?_ (fun _ => ?_))
set_option maxHeartbeats 4000000 in
set_option maxRecDepth 100000 in
theorem impl_TopicPublish.calls (k : Nat) (a0_0 : ByteArray) (a0_1 : Int) (A0_2 : Option Addr) (c0_2 : Nat) (l0_2 : List ByteArray) (A0_3 : Option Addr) (c0_3 : Nat) (l0_3 : List (S36)) (a1 : ByteArray) (r1 : ByteArray) (r2 : Int) (r3 : List ByteArray) (r4 : List (S36)) (r5 : List ByteArray) (r6 : Int) (r7 : Int) (w : World) (hr0_2 : Kd.C Kd.string w A0_2 l0_2.length l0_2) (hc0_2 : l0_2.length ≤ c0_2) (hr0_3 : Kd.C k36 w A0_3 l0_3.length l0_3) (hc0_3 : l0_3.length ≤ c0_3) (h : impl_TopicPublish.f k a0_0 a0_1 l0_2 l0_3 a1 = some (r1, r2, r3, r4, r5, r6, r7)) :
    Calls Try.prog 12 #[.agg #[.string a0_0, .int .i64 a0_1, .slice A0_2 l0_2.length c0_2, .slice A0_3 l0_3.length c0_3], .string a1] w fun e w' => ∃ v2_ v3_ v4_ : Value, e = .returned (.agg #[.string r1, .int .i64 r2, v2_, v3_, v4_, .int .i64 r6, .int .i64 r7]) ∧ Kd.R Kd.string 9 w' w.heap.size (fun k_ => some k_ ≠ (v4_ : Value).ownBlock) v2_ r3 ∧ Kd.R k36 36 w' w.heap.size (fun _ => True) v3_ r4 ∧ Kd.R Kd.string 9 w' w.heap.size (fun k_ => some k_ ≠ (v2_ : Value).ownBlock) v4_ r5 ∧ Below w.heap.size w w' := by
  have hu30 := Try.underlying26
  have hu38 := Try.underlying30
  have HR0_2 := AM hr0_2
  have HC0_2 := AM hc0_2
  have HR0_3 := AM hr0_3
  have HC0_3 := AM hc0_3
  have HH := AM h
  clear hr0_2 hc0_2 hr0_3 hc0_3 h
  have HB := AM (Below.refl w.heap.size w)
  by_cases c1 : (a1.size : Int) > 20000
  · have E1 : Aside0 ((⟨#[]⟩, 0, [], [], [], 0, 2) = (r1, r2, r3, r4, r5, r6, r7)) := ⟨by have := HH.out; unfold impl_TopicPublish.f at this; rw [if_pos c1] at this; exact Option.some.inj this⟩
    have c1b : decide (20000 < (a1.size : Int)) = true := decide_eq_true c1
    have c1c : decide (20000 < a1.size) = true := decide_eq_true (by omega)
    clear c1
    go_enter Try.func12, Try.ntmps12
    go_wp2_with (first | ((with_reducible refine gate_dst (N := 2) rfl ?_); refine box_event (by rfl) (N := 2) (by rfl) (cs := #[.string a0_0, .int .i64 a0_1, .slice A0_2 l0_2.length c0_2, .slice A0_3 l0_3.length c0_3]) (t := 26) (by first | (go_simp; done) | (go_simp; rfl)) ?_; intro gb101 hg w5 hbox hb; have _ := AM (below_step (bX HB.out) hb); have _ := AM (hbox); have _ := AM ((by rw [hg]; exact (bZ (bX HB.out)) : w.heap.size ≤ gb101)); clear HB; rename_i HB BK101 GE101; clear hb hbox hg) | ((with_reducible refine gate_dst (N := 4) rfl ?_); refine box_event (by rfl) (N := 4) (by rfl) (cs := #[.string (⟨#[]⟩ : ByteArray), .int .i64 0, .slice none 0 0, .slice none 0 0, .slice none 0 0, .int .i64 0, .int .i64 0]) (t := 30) (by first | (go_simp; done) | (go_simp; rfl)) ?_; intro gb102 hg w6 hbox hb; have _ := AM (nB BK101.out hb); have _ := AM (below_step (bX HB.out) hb); have _ := AM (hbox); have _ := AM ((by rw [hg]; exact (bZ (bX HB.out)) : w.heap.size ≤ gb102)); clear BK101 HB; rename_i BK101 HB BK102 GE102; clear hb hbox hg; have hcz2 := q7 BK102.out; have hfz2 := fZ BK102.out; have hcz1 := q4 BK101.out; have hfz1 := fZ BK101.out))
    refine bodyPost_ret (results_cell_row rfl _ _ gb102 30 #[.string (⟨#[]⟩ : ByteArray), .int .i64 0, .slice none 0 0, .slice none 0 0, .slice none 0 0, .int .i64 0, .int .i64 2] (0, 0) _ rfl (by refine kP (cs := #[.string (⟨#[]⟩ : ByteArray), .int .i64 0, .slice none 0 0, .slice none 0 0, .slice none 0 0, .int .i64 0, .int .i64 0]) 6 ?_; refine kP (cs := #[.string (⟨#[]⟩ : ByteArray), .int .i64 0, .slice none 0 0, .slice none 0 0, .slice none 0 0, .int .i64 0, .int .i64 0]) 5 ?_; refine kP (cs := #[.string (⟨#[]⟩ : ByteArray), .int .i64 0, .slice none 0 0, .slice none 0 0, .slice none 0 0, .int .i64 0, .int .i64 0]) 4 ?_; refine kP (cs := #[.string (⟨#[]⟩ : ByteArray), .int .i64 0, .slice none 0 0, .slice none 0 0, .slice none 0 0, .int .i64 0, .int .i64 0]) 3 ?_; refine kP (cs := #[.string (⟨#[]⟩ : ByteArray), .int .i64 0, .slice none 0 0, .slice none 0 0, .slice none 0 0, .int .i64 0, .int .i64 0]) 2 ?_; refine kP (cs := #[.string (⟨#[]⟩ : ByteArray), .int .i64 0, .slice none 0 0, .slice none 0 0, .slice none 0 0, .int .i64 0, .int .i64 0]) 1 ?_; refine kP (cs := #[.string (⟨#[]⟩ : ByteArray), .int .i64 0, .slice none 0 0, .slice none 0 0, .slice none 0 0, .int .i64 0, .int .i64 0]) 0 ?_; (with_reducible repeat (first | apply kN | apply kD | apply kA)); exact BK102.out) Try.underlying30 rfl (by kernel_rfl)) rfl ?_
    obtain ⟨rfl, rfl, rfl, rfl, rfl, rfl, rfl⟩ : (⟨#[]⟩ : ByteArray) = r1 ∧ 0 = r2 ∧ [] = r3 ∧ [] = r4 ∧ [] = r5 ∧ 0 = r6 ∧ 2 = r7 := by simpa using E1.out
    exact ⟨_, _, _, rfl, Kd.R_nil _ _ _ _ _, Kd.R_nil _ _ _ _ _, Kd.R_nil _ _ _ _ _, bX HB.out⟩
  · have HX : Aside0 (∃ t, impl_isTopic.f k a0_0 a0_1 l0_2 l0_3 = some t ∧ (if t = true then (impl_isMessage.f a1).bind fun m => if m = true then (impl_cloneTopic.f a0_0 a0_1 l0_2 l0_3).bind fun c => (impl_Topic_publish.f c.1 c.2.1 c.2.2.1 c.2.2.2 a1).bind fun p => impl_topicOut.f c.1 c.2.1 p.2.2 c.2.2.2 [] p.1 p.2.1 else some (⟨#[]⟩, 0, [], [], [], 0, 1) else some (⟨#[]⟩, 0, [], [], [], 0, 1)) = some (r1, r2, r3, r4, r5, r6, r7)) := ⟨by have := HH.out; unfold impl_TopicPublish.f at this; rw [if_neg c1] at this; exact Option.bind_eq_some_iff.mp this⟩
    clear HH
    have c1b : decide (20000 < (a1.size : Int)) = false := decide_eq_false c1
    have c1c : decide (20000 < a1.size) = false := decide_eq_false (by omega)
    clear c1
    obtain ⟨t, h1, h2⟩ := HX.out
    have A1 := AM h1
    have HH := AM h2
    clear HX h1 h2
    cases t with
    | false =>
      have E1 : Aside0 ((⟨#[]⟩, 0, [], [], [], 0, 1) = (r1, r2, r3, r4, r5, r6, r7)) := ⟨by have := HH.out; rw [if_neg (by decide)] at this; exact Option.some.inj this⟩
      clear HH
      go_enter Try.func12, Try.ntmps12
      go_wp2_with (first | ((with_reducible refine gate_dst (N := 2) rfl ?_); refine box_event (by rfl) (N := 2) (by rfl) (cs := #[.string a0_0, .int .i64 a0_1, .slice A0_2 l0_2.length c0_2, .slice A0_3 l0_3.length c0_3]) (t := 26) (by first | (go_simp; done) | (go_simp; rfl)) ?_; intro gb101 hg w5 hbox hb; have _ := AM (below_step (bX HB.out) hb); have _ := AM (hbox); have _ := AM ((by rw [hg]; exact (bZ (bX HB.out)) : w.heap.size ≤ gb101)); clear HB; rename_i HB BK101 GE101; clear hb hbox hg) | ((with_reducible refine gate_dst (N := 4) rfl ?_); refine box_event (by rfl) (N := 4) (by rfl) (cs := #[.string (⟨#[]⟩ : ByteArray), .int .i64 0, .slice none 0 0, .slice none 0 0, .slice none 0 0, .int .i64 0, .int .i64 0]) (t := 30) (by first | (go_simp; done) | (go_simp; rfl)) ?_; intro gb102 hg w6 hbox hb; have _ := AM (nB BK101.out hb); have _ := AM (below_step (bX HB.out) hb); have _ := AM (hbox); have _ := AM ((by rw [hg]; exact (bZ (bX HB.out)) : w.heap.size ≤ gb102)); clear BK101 HB; rename_i BK101 HB BK102 GE102; clear hb hbox hg; have hcz2 := q7 BK102.out; have hfz2 := fZ BK102.out; have hcz1 := q4 BK101.out; have hfz1 := fZ BK101.out) | (go_at_call 22; (with_reducible refine (impl_isTopic.calls k a0_0 a0_1 A0_2 c0_2 l0_2 A0_3 c0_3 l0_3 false _ ?side1 ?side2 ?side3 ?side4 A1.out).mono ?_); (case side1 => repeat (first | exact (cB HR0_2.out HB.out) | (with_reducible first | apply cA | apply cN | apply cD))); (case side2 => exact HC0_2.out); (case side3 => repeat (first | exact (cB HR0_3.out HB.out) | (with_reducible first | apply cA | apply cN | apply cD))); (case side4 => exact HC0_3.out); rintro e w7 ⟨rfl, hb⟩; have n_ := AM (nB BK101.out hb); clear BK101; have BK101 := n_; clear n_; have n_ := AM (nB BK102.out hb); clear BK102; have BK102 := n_; clear n_; have n_ := AM (below_step (bX HB.out) hb); clear HB; have HB := n_; clear n_ hb; have hcz4 := q7 BK102.out; have hfz4 := fZ BK102.out; have hcz3 := q4 BK101.out; have hfz3 := fZ BK101.out))
      refine bodyPost_ret (results_cell_row rfl _ _ gb102 30 #[.string (⟨#[]⟩ : ByteArray), .int .i64 0, .slice none 0 0, .slice none 0 0, .slice none 0 0, .int .i64 0, .int .i64 1] (0, 0) _ rfl (by refine kP (cs := #[.string (⟨#[]⟩ : ByteArray), .int .i64 0, .slice none 0 0, .slice none 0 0, .slice none 0 0, .int .i64 0, .int .i64 0]) 6 ?_; refine kP (cs := #[.string (⟨#[]⟩ : ByteArray), .int .i64 0, .slice none 0 0, .slice none 0 0, .slice none 0 0, .int .i64 0, .int .i64 0]) 5 ?_; refine kP (cs := #[.string (⟨#[]⟩ : ByteArray), .int .i64 0, .slice none 0 0, .slice none 0 0, .slice none 0 0, .int .i64 0, .int .i64 0]) 4 ?_; refine kP (cs := #[.string (⟨#[]⟩ : ByteArray), .int .i64 0, .slice none 0 0, .slice none 0 0, .slice none 0 0, .int .i64 0, .int .i64 0]) 3 ?_; refine kP (cs := #[.string (⟨#[]⟩ : ByteArray), .int .i64 0, .slice none 0 0, .slice none 0 0, .slice none 0 0, .int .i64 0, .int .i64 0]) 2 ?_; refine kP (cs := #[.string (⟨#[]⟩ : ByteArray), .int .i64 0, .slice none 0 0, .slice none 0 0, .slice none 0 0, .int .i64 0, .int .i64 0]) 1 ?_; refine kP (cs := #[.string (⟨#[]⟩ : ByteArray), .int .i64 0, .slice none 0 0, .slice none 0 0, .slice none 0 0, .int .i64 0, .int .i64 0]) 0 ?_; (with_reducible repeat (first | apply kN | apply kD | apply kA)); exact BK102.out) Try.underlying30 rfl (by kernel_rfl)) rfl ?_
      obtain ⟨rfl, rfl, rfl, rfl, rfl, rfl, rfl⟩ : (⟨#[]⟩ : ByteArray) = r1 ∧ 0 = r2 ∧ [] = r3 ∧ [] = r4 ∧ [] = r5 ∧ 0 = r6 ∧ 1 = r7 := by simpa using E1.out
      exact ⟨_, _, _, rfl, Kd.R_nil _ _ _ _ _, Kd.R_nil _ _ _ _ _, Kd.R_nil _ _ _ _ _, bX HB.out⟩
    | true =>
      have HX : Aside0 (∃ m, impl_isMessage.f a1 = some m ∧ (if m = true then (impl_cloneTopic.f a0_0 a0_1 l0_2 l0_3).bind fun c => (impl_Topic_publish.f c.1 c.2.1 c.2.2.1 c.2.2.2 a1).bind fun p => impl_topicOut.f c.1 c.2.1 p.2.2 c.2.2.2 [] p.1 p.2.1 else some (⟨#[]⟩, 0, [], [], [], 0, 1)) = some (r1, r2, r3, r4, r5, r6, r7)) := ⟨by have := HH.out; rw [if_pos rfl] at this; exact Option.bind_eq_some_iff.mp this⟩
      clear HH
      obtain ⟨m, h1, h2⟩ := HX.out
      have A2 := AM h1
      have HH := AM h2
      clear HX h1 h2
      cases m with
      | false =>
        have E1 : Aside0 ((⟨#[]⟩, 0, [], [], [], 0, 1) = (r1, r2, r3, r4, r5, r6, r7)) := ⟨by have := HH.out; rw [if_neg (by decide)] at this; exact Option.some.inj this⟩
        clear HH
        go_enter Try.func12, Try.ntmps12
        go_wp2_with (first | ((with_reducible refine gate_dst (N := 2) rfl ?_); refine box_event (by rfl) (N := 2) (by rfl) (cs := #[.string a0_0, .int .i64 a0_1, .slice A0_2 l0_2.length c0_2, .slice A0_3 l0_3.length c0_3]) (t := 26) (by first | (go_simp; done) | (go_simp; rfl)) ?_; intro gb101 hg w5 hbox hb; have _ := AM (below_step (bX HB.out) hb); have _ := AM (hbox); have _ := AM ((by rw [hg]; exact (bZ (bX HB.out)) : w.heap.size ≤ gb101)); clear HB; rename_i HB BK101 GE101; clear hb hbox hg) | ((with_reducible refine gate_dst (N := 4) rfl ?_); refine box_event (by rfl) (N := 4) (by rfl) (cs := #[.string (⟨#[]⟩ : ByteArray), .int .i64 0, .slice none 0 0, .slice none 0 0, .slice none 0 0, .int .i64 0, .int .i64 0]) (t := 30) (by first | (go_simp; done) | (go_simp; rfl)) ?_; intro gb102 hg w6 hbox hb; have _ := AM (nB BK101.out hb); have _ := AM (below_step (bX HB.out) hb); have _ := AM (hbox); have _ := AM ((by rw [hg]; exact (bZ (bX HB.out)) : w.heap.size ≤ gb102)); clear BK101 HB; rename_i BK101 HB BK102 GE102; clear hb hbox hg; have hcz2 := q7 BK102.out; have hfz2 := fZ BK102.out; have hcz1 := q4 BK101.out; have hfz1 := fZ BK101.out) | (go_at_call 22; (with_reducible refine (impl_isTopic.calls k a0_0 a0_1 A0_2 c0_2 l0_2 A0_3 c0_3 l0_3 true _ ?side1 ?side2 ?side3 ?side4 A1.out).mono ?_); (case side1 => repeat (first | exact (cB HR0_2.out HB.out) | (with_reducible first | apply cA | apply cN | apply cD))); (case side2 => exact HC0_2.out); (case side3 => repeat (first | exact (cB HR0_3.out HB.out) | (with_reducible first | apply cA | apply cN | apply cD))); (case side4 => exact HC0_3.out); rintro e w7 ⟨rfl, hb⟩; have n_ := AM (nB BK101.out hb); clear BK101; have BK101 := n_; clear n_; have n_ := AM (nB BK102.out hb); clear BK102; have BK102 := n_; clear n_; have n_ := AM (below_step (bX HB.out) hb); clear HB; have HB := n_; clear n_ hb; have hcz4 := q7 BK102.out; have hfz4 := fZ BK102.out; have hcz3 := q4 BK101.out; have hfz3 := fZ BK101.out) | (go_at_call 33; (with_reducible refine (impl_isMessage.calls a1 false _ A2.out).mono ?_); rintro e w' ⟨rfl, ⟨nd, rfl⟩⟩))
        refine bodyPost_ret (results_cell_row rfl _ _ gb102 30 #[.string (⟨#[]⟩ : ByteArray), .int .i64 0, .slice none 0 0, .slice none 0 0, .slice none 0 0, .int .i64 0, .int .i64 1] (0, 0) _ rfl (by refine kP (cs := #[.string (⟨#[]⟩ : ByteArray), .int .i64 0, .slice none 0 0, .slice none 0 0, .slice none 0 0, .int .i64 0, .int .i64 0]) 6 ?_; refine kP (cs := #[.string (⟨#[]⟩ : ByteArray), .int .i64 0, .slice none 0 0, .slice none 0 0, .slice none 0 0, .int .i64 0, .int .i64 0]) 5 ?_; refine kP (cs := #[.string (⟨#[]⟩ : ByteArray), .int .i64 0, .slice none 0 0, .slice none 0 0, .slice none 0 0, .int .i64 0, .int .i64 0]) 4 ?_; refine kP (cs := #[.string (⟨#[]⟩ : ByteArray), .int .i64 0, .slice none 0 0, .slice none 0 0, .slice none 0 0, .int .i64 0, .int .i64 0]) 3 ?_; refine kP (cs := #[.string (⟨#[]⟩ : ByteArray), .int .i64 0, .slice none 0 0, .slice none 0 0, .slice none 0 0, .int .i64 0, .int .i64 0]) 2 ?_; refine kP (cs := #[.string (⟨#[]⟩ : ByteArray), .int .i64 0, .slice none 0 0, .slice none 0 0, .slice none 0 0, .int .i64 0, .int .i64 0]) 1 ?_; refine kP (cs := #[.string (⟨#[]⟩ : ByteArray), .int .i64 0, .slice none 0 0, .slice none 0 0, .slice none 0 0, .int .i64 0, .int .i64 0]) 0 ?_; (with_reducible repeat (first | apply kN | apply kD | apply kA)); exact BK102.out) Try.underlying30 rfl (by kernel_rfl)) rfl ?_
        obtain ⟨rfl, rfl, rfl, rfl, rfl, rfl, rfl⟩ : (⟨#[]⟩ : ByteArray) = r1 ∧ 0 = r2 ∧ [] = r3 ∧ [] = r4 ∧ [] = r5 ∧ 0 = r6 ∧ 1 = r7 := by simpa using E1.out
        exact ⟨_, _, _, rfl, Kd.R_nil _ _ _ _ _, Kd.R_nil _ _ _ _ _, Kd.R_nil _ _ _ _ _, bX HB.out⟩
      | true =>
        have HX : Aside0 (∃ c0 d1 e2 e3 p0 p1 p2, impl_cloneTopic.f a0_0 a0_1 l0_2 l0_3 = some (c0, d1, e2, e3) ∧ impl_Topic_publish.f c0 d1 e2 e3 a1 = some (p0, p1, p2) ∧ impl_topicOut.f c0 d1 p2 e3 [] p0 p1 = some (r1, r2, r3, r4, r5, r6, r7)) := ⟨by
          have := HH.out; rw [if_pos rfl] at this
          obtain ⟨⟨c0, d1, e2, e3⟩, h1, h2⟩ := Option.bind_eq_some_iff.mp this
          obtain ⟨⟨p0, p1, p2⟩, h3, h4⟩ := Option.bind_eq_some_iff.mp h2
          exact ⟨c0, d1, e2, e3, p0, p1, p2, h1, h3, h4⟩⟩
        clear HH
        obtain ⟨c0, d1, e2, e3, p0, p1, p2, h1, h2, h3⟩ := HX.out
        have A3 := AM h1
        have A4 := AM h2
        have A5 := AM h3
        clear HX h1 h2 h3
        go_enter Try.func12, Try.ntmps12
        go_wp2_with (first | ((with_reducible refine gate_dst (N := 2) rfl ?_); refine box_event (by rfl) (N := 2) (by rfl) (cs := #[.string a0_0, .int .i64 a0_1, .slice A0_2 l0_2.length c0_2, .slice A0_3 l0_3.length c0_3]) (t := 26) (by first | (go_simp; done) | (go_simp; rfl)) ?_; intro gb101 hg w5 hbox hb; have _ := AM (below_step (bX HB.out) hb); have _ := AM (hbox); have _ := AM ((by rw [hg]; exact (bZ (bX HB.out)) : w.heap.size ≤ gb101)); clear HB; rename_i HB BK101 GE101; clear hb hbox hg) | ((with_reducible refine gate_dst (N := 4) rfl ?_); refine box_event (by rfl) (N := 4) (by rfl) (cs := #[.string (⟨#[]⟩ : ByteArray), .int .i64 0, .slice none 0 0, .slice none 0 0, .slice none 0 0, .int .i64 0, .int .i64 0]) (t := 30) (by first | (go_simp; done) | (go_simp; rfl)) ?_; intro gb102 hg w6 hbox hb; have _ := AM (nB BK101.out hb); have _ := AM (below_step (bX HB.out) hb); have _ := AM (hbox); have _ := AM ((by rw [hg]; exact (bZ (bX HB.out)) : w.heap.size ≤ gb102)); clear BK101 HB; rename_i BK101 HB BK102 GE102; clear hb hbox hg; have hcz2 := q7 BK102.out; have hfz2 := fZ BK102.out; have hcz1 := q4 BK101.out; have hfz1 := fZ BK101.out) | (go_at_call 22; (with_reducible refine (impl_isTopic.calls k a0_0 a0_1 A0_2 c0_2 l0_2 A0_3 c0_3 l0_3 true _ ?side1 ?side2 ?side3 ?side4 A1.out).mono ?_); (case side1 => repeat (first | exact (cB HR0_2.out HB.out) | (with_reducible first | apply cA | apply cN | apply cD))); (case side2 => exact HC0_2.out); (case side3 => repeat (first | exact (cB HR0_3.out HB.out) | (with_reducible first | apply cA | apply cN | apply cD))); (case side4 => exact HC0_3.out); rintro e w7 ⟨rfl, hb⟩; have n_ := AM (nB BK101.out hb); clear BK101; have BK101 := n_; clear n_; have n_ := AM (nB BK102.out hb); clear BK102; have BK102 := n_; clear n_; have n_ := AM (below_step (bX HB.out) hb); clear HB; have HB := n_; clear n_ hb; have hcz4 := q7 BK102.out; have hfz4 := fZ BK102.out; have hcz3 := q4 BK101.out; have hfz3 := fZ BK101.out) | (go_at_call 33; (with_reducible refine (impl_isMessage.calls a1 true _ A2.out).mono ?_); rintro e w' ⟨rfl, ⟨nd, rfl⟩⟩) | (go_at_call 24; (with_reducible refine (impl_cloneTopic.calls a0_0 a0_1 A0_2 c0_2 l0_2 A0_3 c0_3 l0_3 c0 d1 e2 e3 _ ?side1 ?side2 ?side3 ?side4 A3.out).mono ?_); (case side1 => repeat (first | exact (cB HR0_2.out HB.out) | (with_reducible first | apply cA | apply cN | apply cD))); (case side2 => exact HC0_2.out); (case side3 => repeat (first | exact (cB HR0_3.out HB.out) | (with_reducible first | apply cA | apply cN | apply cD))); (case side4 => exact HC0_3.out); rintro e w8 ⟨v8, v9, rfl, ho2, ho3, hb⟩; obtain ⟨A8, c8, rfl⟩ := Kd.R_slice ho2; obtain ⟨A9, c9, rfl⟩ := Kd.R_slice ho3; have HO2 := AM (Kd.R_lower ho2 (bZ (bX HB.out))); have HO3 := AM (Kd.R_lower ho3 (bZ (bX HB.out))); clear ho2 ho3; have n_ := AM (nB BK101.out hb); clear BK101; have BK101 := n_; clear n_; have n_ := AM (nB BK102.out hb); clear BK102; have BK102 := n_; clear n_; have n_ := AM (below_step (bX HB.out) hb); clear HB; have HB := n_; clear n_ hb; have hcz6 := q7 BK102.out; have hfz6 := fZ BK102.out; have hcz5 := q4 BK101.out; have hfz5 := fZ BK101.out) | ((with_reducible refine gate_dst (N := 5) rfl ?_); refine box_event (by rfl) (N := 5) (by rfl) (cs := #[.string (⟨#[]⟩ : ByteArray), .int .i64 0, .slice none 0 0, .slice none 0 0]) (t := 26) (by first | (go_simp; done) | (go_simp; rfl)) ?_; intro gb103 hg w9 hbox hb; have n_ := AM (nB BK101.out hb); clear BK101; have BK101 := n_; clear n_; have n_ := AM (nB BK102.out hb); clear BK102; have BK102 := n_; clear n_; have n2_ := AM (Kd.R_below (rX HO2.out) hb); have n3_ := AM (Kd.R_below (rX HO3.out) hb); clear HO2 HO3; have HO2 := n2_; have HO3 := n3_; clear n2_ n3_; have n1_ := AM (below_step (bX HB.out) hb); have n2_ := AM hbox; have n3_ := AM ((by rw [hg]; exact (bZ (bX HB.out))) : w.heap.size ≤ gb103); have NB : Aside0 (gb102 ≠ gb103) := ⟨fun e_ => by have h_ := BK102.out; rw [e_, hbox] at h_; injection h_ with h_; injection h_ with _ h_; exact absurd h_ (by decide)⟩; clear HB; have HB := n1_; have BK103 := n2_; have GE103 := n3_; clear n1_ n2_ n3_ hb hbox hg; have hcz7 := q7 BK102.out; have hfz7 := fZ BK102.out; have hcz8 := q4 BK103.out; have hfz8 := fZ BK103.out) | (go_at_call 34; (with_reducible refine (impl_Topic_publish.calls gb103 c0 d1 (.slice A8 e2.length c8) (.slice A9 e3.length c9) e2 e3 a1 p0 p1 p2 w _ ?side1 GE103.out ?side2 ?side3 A4.out).mono ?_); (case side1 => refine kP (cs := #[.string c0, .int .i64 d1, .slice A8 e2.length c8, .slice none 0 0]) 3 ?_; refine kP (cs := #[.string c0, .int .i64 d1, .slice none 0 0, .slice none 0 0]) 2 ?_; refine kP (cs := #[.string c0, .int .i64 0, .slice none 0 0, .slice none 0 0]) 1 ?_; refine kP (cs := #[.string (⟨#[]⟩ : ByteArray), .int .i64 0, .slice none 0 0, .slice none 0 0]) 0 ?_; (with_reducible repeat (first | apply kN | apply kD | apply kA)); exact BK103.out); (case side2 => exact (bX HB.out)); (case side3 => (with_reducible repeat (first | apply rA | apply rN | apply rD)); exact Rf4 HO2.out BK103.out (by decide) (fun _ _ => trivial)); rintro e w10 ⟨v10, rfl, hG, hR, hb, hk⟩; obtain ⟨A10, c10, rfl⟩ := Kd.R_slice hR; have n1_ : Aside0 (Kd.R k36 36 w10 w.heap.size (fun _ => True) (.slice A9 e3.length c9) e3) := ⟨R_keepbut (d := k36) (d' := Kd.string) (e := 36) (e' := 9) (base := w.heap.size) (b := w.heap.size) (ok := fun _ => True) (ok' := fun _ => True) (u := .slice A9 e3.length c9) (v := .slice A8 e2.length c8) (xs := e3) (ys := e2) (g := gb103) (t := 26) (cs := #[.string c0, .int .i64 d1, .slice A8 e2.length c8, .slice A9 e3.length c9]) (by (with_reducible repeat (first | apply rA | apply rN | apply rD)); exact Rf4 HO3.out BK103.out (by decide) (fun _ _ => trivial)) (by (with_reducible repeat (first | apply rA | apply rN | apply rD)); exact Rf4 HO2.out BK103.out (by decide) (fun _ _ => trivial)) (by refine kP (cs := #[.string c0, .int .i64 d1, .slice A8 e2.length c8, .slice none 0 0]) 3 ?_; refine kP (cs := #[.string c0, .int .i64 d1, .slice none 0 0, .slice none 0 0]) 2 ?_; refine kP (cs := #[.string c0, .int .i64 0, .slice none 0 0, .slice none 0 0]) 1 ?_; refine kP (cs := #[.string (⟨#[]⟩ : ByteArray), .int .i64 0, .slice none 0 0, .slice none 0 0]) 0 ?_; (with_reducible repeat (first | apply kN | apply kD | apply kA)); exact BK103.out) (by decide) (by decide) hk⟩; have hw_ := blk_far (p := ⟨gb103, 3, none⟩) (blk_far (p := ⟨gb103, 2, none⟩) (blk_far (p := ⟨gb103, 1, none⟩) (blk_far (p := ⟨gb103, 0, none⟩) BK102.out NB.out (.string c0)) NB.out (.int .i64 d1)) NB.out (.slice A8 e2.length c8)) NB.out (.slice A9 e3.length c9); have n2_ := AM ((hk.2 gb102 (blk_lt hw_) NB.out (Kd.R_ne HO2.out BK102.out (by decide))).trans hw_); clear hw_ hk BK101 BK102 BK103 HO2 HO3 HB; have BK102 := n2_; have BK103 := AM hG; have HO2 := AM hR; have HO3 := n1_; have HB := AM hb; clear n1_ n2_ hG hR hb; have hcz9 := q4 BK103.out; have hfz9 := fZ BK103.out; have hcz10 := q7 BK102.out; have hfz10 := fZ BK102.out) | (go_at_call 35; (with_reducible refine (impl_topicOut.calls c0 d1 (fun k_ => True ∧ k_ ≠ gb102) (.slice A10 p2.length c10) p2 (fun k_ => True ∧ k_ ≠ gb102) (.slice A9 e3.length c9) e3 (fun _ => False) (.slice none 0 0) [] p0 p1 r1 r2 r3 r4 r5 r6 r7 w _ ?s1 ?s2 ?s3 ?s4 ?s5 ?s6 A5.out).mono ?_); (case s1 => exact (bX HB.out)); (case s2 => (with_reducible repeat (first | apply rA | apply rN | apply rD)); exact Kd.R_types HO2.out BK102.out (by decide)); (case s3 => exact fun _ _ h => h); (case s4 => (with_reducible repeat (first | apply rA | apply rN | apply rD)); exact Kd.R_types HO3.out BK102.out (by decide)); (case s5 => exact Kd.R_nil _ _ _ _ _); (case s6 => exact fun _ h => h.elim); rintro e w11 ⟨v11, v12, v13, rfl, ho2, ho3, ho5, hb, hk⟩; obtain ⟨A11, c11, rfl⟩ := Kd.R_slice ho2; obtain ⟨A12, c12, rfl⟩ := Kd.R_slice ho3; obtain ⟨A13, c13, rfl⟩ := Kd.R_slice ho5; have n_ := AM ((hk.2 gb102 (blk_lt BK102.out) (by rintro (⟨_, h⟩ | ⟨_, h⟩ | h); exact h rfl; exact h rfl; exact h)).trans BK102.out); clear hk BK102 BK103 HO2 HO3 HB; have BK102 := n_; have HO2 := AM ho2; have HO3 := AM ho3; have HO5 := AM ho5; have HB := AM hb; clear n_ ho2 ho3 ho5 hb; have hcz11 := q7 BK102.out; have hfz11 := fZ BK102.out))
        refine bodyPost_ret (results_cell_row rfl _ _ gb102 30 #[.string r1, .int .i64 r2, .slice A11 r3.length c11, .slice A12 r4.length c12, .slice A13 r5.length c13, .int .i64 r6, .int .i64 r7] (0, 0) _ rfl (by refine kP (cs := #[.string r1, .int .i64 r2, .slice A11 r3.length c11, .slice A12 r4.length c12, .slice A13 r5.length c13, .int .i64 r6, .int .i64 0]) 6 ?_; refine kP (cs := #[.string r1, .int .i64 r2, .slice A11 r3.length c11, .slice A12 r4.length c12, .slice A13 r5.length c13, .int .i64 0, .int .i64 0]) 5 ?_; refine kP (cs := #[.string r1, .int .i64 r2, .slice A11 r3.length c11, .slice A12 r4.length c12, .slice none 0 0, .int .i64 0, .int .i64 0]) 4 ?_; refine kP (cs := #[.string r1, .int .i64 r2, .slice A11 r3.length c11, .slice none 0 0, .slice none 0 0, .int .i64 0, .int .i64 0]) 3 ?_; refine kP (cs := #[.string r1, .int .i64 r2, .slice none 0 0, .slice none 0 0, .slice none 0 0, .int .i64 0, .int .i64 0]) 2 ?_; refine kP (cs := #[.string r1, .int .i64 0, .slice none 0 0, .slice none 0 0, .slice none 0 0, .int .i64 0, .int .i64 0]) 1 ?_; refine kP (cs := #[.string (⟨#[]⟩ : ByteArray), .int .i64 0, .slice none 0 0, .slice none 0 0, .slice none 0 0, .int .i64 0, .int .i64 0]) 0 ?_; (with_reducible repeat (first | apply kN | apply kD | apply kA)); exact BK102.out) Try.underlying30 rfl (by kernel_rfl)) rfl ?_
        exact ⟨_, _, _, rfl, by (with_reducible repeat (first | apply rA | apply rN | apply rD)); exact Rf7 HO2.out BK102.out (by decide) (fun _ hk => hk.1.2), by (with_reducible repeat (first | apply rA | apply rN | apply rD)); exact Rf7 HO3.out BK102.out (by decide) (fun _ _ => trivial), by (with_reducible repeat (first | apply rA | apply rN | apply rD)); exact Rf7 HO5.out BK102.out (by decide) (fun _ hk => hk.1.2), bX HB.out⟩


/-! ### impl_TopicEnd: function 15 -/

def impl_TopicEnd.f (k : Nat) (a0_0 : ByteArray) (a0_1 : Int) (l0_2 : List ByteArray) (l0_3 : List (S36)) : Option (Int) := (impl_isTopic.f k a0_0 a0_1 l0_2 l0_3).bind fun t102 => (if t102 = true then ((impl_Topic_end.f a0_0 a0_1 l0_2 l0_3).bind fun t103 => (some t103)) else (some 0))
theorem impl_TopicEnd.mono : ∀ a0 a1 a2 a3 k, LeO (impl_TopicEnd.f k a0 a1 a2 a3) (impl_TopicEnd.f (k + 1) a0 a1 a2 a3) := by
  intro a0 a1 a2 a3 k
  unfold impl_TopicEnd.f
  repeat' first
      | (with_reducible exact impl_isTopic.mono _ _ _ _ _)
      | (with_reducible exact LeO.refl _)
      | (with_reducible exact LeO.none _)
      | (with_reducible refine LeO.ite ?_ ?_)
      | (with_reducible refine LeO.bind ?_ (fun _ => ?_))
      | exact impl_isTopic.mono _ _ _ _ _
      | exact LeO.none _
      | refine LeO.ite ?_ ?_
      | refine LeO.bind ?_ (fun _ => ?_)
set_option maxHeartbeats 60000000 in
set_option maxRecDepth 100000 in
theorem impl_TopicEnd.calls (k : Nat) (a0_0 : ByteArray) (a0_1 : Int) (A0_2 : Option Addr) (c0_2 : Nat) (l0_2 : List ByteArray) (A0_3 : Option Addr) (c0_3 : Nat) (l0_3 : List (S36)) (r : Int) (w : World) (hr0_2 : Kd.C Kd.string w A0_2 l0_2.length l0_2) (hc0_2 : l0_2.length ≤ c0_2) (hr0_3 : Kd.C k36 w A0_3 l0_3.length l0_3) (hc0_3 : l0_3.length ≤ c0_3) (h : impl_TopicEnd.f k a0_0 a0_1 l0_2 l0_3 = some r) :
    Calls Try.prog 15 #[.agg #[.string a0_0, .int .i64 a0_1, .slice A0_2 l0_2.length c0_2, .slice A0_3 l0_3.length c0_3]] w fun e w' => e = .returned (.int .i64 r) ∧ Below w.heap.size w w' := by
 have hu26 := Try.underlying26
 have HR0_2 := AM hr0_2
 have HC0_2 := AM hc0_2
 clear hr0_2 hc0_2
 have HR0_3 := AM hr0_3
 have HC0_3 := AM hc0_3
 clear hr0_3 hc0_3
 have HB := AM (Below.refl w.heap.size w)
 have H : ((impl_isTopic.f k a0_0 a0_1 l0_2 l0_3).bind fun t102 => (if t102 = true then ((impl_Topic_end.f a0_0 a0_1 l0_2 l0_3).bind fun t103 => (some t103)) else (some 0))) = some r := h
 clear h
 replace H := Option.bind_eq_some_iff.mp H
 obtain ⟨t102, A20, H⟩ := H
 replace H : (if t102 = true then ((impl_Topic_end.f a0_0 a0_1 l0_2 l0_3).bind fun t103 => (some t103)) else (some 0)) = some r := H
 have A2 := AM A20
 clear A20
 by_cases c3 : t102 = true
 ·
  subst c3
  have H1 : ((impl_Topic_end.f a0_0 a0_1 l0_2 l0_3).bind fun t103 => (some t103)) = some r := by rw [if_pos rfl] at H; exact H
  clear H
  have H := H1
  clear H1
  replace H := Option.bind_eq_some_iff.mp H
  obtain ⟨t103, A40, H⟩ := H
  replace H : (some t103) = some r := H
  have A4 := AM A40
  clear A40
  obtain rfl := Option.some.inj H
  go_enter Try.func15, Try.ntmps15
  go_wp2_with (first | ((with_reducible refine gate_dst (N := 1) rfl ?_); refine box_event (by rfl) (N := 1) (by rfl) (cs := #[.string a0_0, .int .i64 a0_1, .slice A0_2 l0_2.length c0_2, .slice A0_3 l0_3.length c0_3]) (t := 26) (by first | (go_simp; done) | (go_simp; rfl)) ?_; intro gb101 hg w5 hbox hb; have _ := AM (below_step (bX HB.out) hb); have _ := AM (hbox); have n2_ := AM ((by rw [hg]; exact (bZ (bX HB.out)) : w.heap.size ≤ gb101)); clear HB; rename_i HB BK101; have GW101 := n2_; have GE101 := n2_; clear n2_; clear hb hbox hg; have hcz6 := q4 BK101.out; have hfz6 := fZ BK101.out) | ((with_reducible refine gate_callee (f := 22) rfl ?_); refine goesL_ (some 4) rfl rfl Try.func22 (by kernel_rfl) rfl #[.agg #[.string a0_0, .int .i64 a0_1, .slice A0_2 l0_2.length c0_2, .slice A0_3 l0_3.length c0_3]] rfl (by (try simp only [mA, mB, mC]); first | done | rfl | (simp only [mD, mE]; rfl)) ?_; (with_reducible refine (impl_isTopic.calls k a0_0 a0_1 _ _ l0_2 _ _ l0_3 true _ ?side1 ?side2 ?side3 ?side4 A2.out).mono ?_); (case side1 => repeat (first | exact (cB HR0_2.out HB.out) | (with_reducible first | apply cA | apply cN | apply cD))); (case side2 => exact HC0_2.out); (case side3 => repeat (first | exact (cB HR0_3.out HB.out) | (with_reducible first | apply cA | apply cN | apply cD))); (case side4 => exact HC0_3.out); rintro e w7 ⟨rfl, hb⟩; refine ⟨_, rfl, ?_⟩; have _ := AM (nB BK101.out hb); have _ := AM (below_step (bX HB.out) hb); clear BK101 HB; rename_i BK101 HB; (try clear hb); (try clear hk); have hcz8 := q4 BK101.out; have hfz8 := fZ BK101.out) | ((with_reducible refine gate_callee (f := 37) rfl ?_); refine goesL_ (some 6) rfl rfl Try.func37 (by kernel_rfl) rfl #[.pointer (some ⟨gb101, 0, none⟩)] rfl (by (try simp only [mA, mB, mC]); first | done | rfl | (simp only [mD, mE]; rfl)) ?_; (with_reducible refine (impl_Topic_end.calls _ _ _ A0_2 c0_2 _ _ t103 _ ?side1 ?side2 A4.out).mono ?_); (case side1 => first | exact hcz8_1 | (go_simp; done)); (case side2 => first | exact hcz8_2 | (go_simp; done)); rintro e w' ⟨rfl, ⟨nd, rfl⟩⟩; refine ⟨_, rfl, ?_⟩))
  go_ret
  exact ⟨by first | rfl | (simp [*, errW_none, errW_some] <;> rfl), bX HB.out⟩
 replace c3 := Bool.eq_false_iff.mpr c3
 subst c3
 have H1 : (some 0) = some r := by rw [if_neg (show ¬ (false = true) by decide)] at H; exact H
 clear H
 have H := H1
 clear H1
 obtain rfl := Option.some.inj H
 go_enter Try.func15, Try.ntmps15
 go_wp2_with (first | ((with_reducible refine gate_dst (N := 1) rfl ?_); refine box_event (by rfl) (N := 1) (by rfl) (cs := #[.string a0_0, .int .i64 a0_1, .slice A0_2 l0_2.length c0_2, .slice A0_3 l0_3.length c0_3]) (t := 26) (by first | (go_simp; done) | (go_simp; rfl)) ?_; intro gb101 hg w9 hbox hb; have _ := AM (below_step (bX HB.out) hb); have _ := AM (hbox); have n2_ := AM ((by rw [hg]; exact (bZ (bX HB.out)) : w.heap.size ≤ gb101)); clear HB; rename_i HB BK101; have GW101 := n2_; have GE101 := n2_; clear n2_; clear hb hbox hg; have hcz10 := q4 BK101.out; have hfz10 := fZ BK101.out) | ((with_reducible refine gate_callee (f := 22) rfl ?_); refine goesL_ (some 4) rfl rfl Try.func22 (by kernel_rfl) rfl #[.agg #[.string a0_0, .int .i64 a0_1, .slice A0_2 l0_2.length c0_2, .slice A0_3 l0_3.length c0_3]] rfl (by (try simp only [mA, mB, mC]); first | done | rfl | (simp only [mD, mE]; rfl)) ?_; (with_reducible refine (impl_isTopic.calls k a0_0 a0_1 _ _ l0_2 _ _ l0_3 false _ ?side1 ?side2 ?side3 ?side4 A2.out).mono ?_); (case side1 => repeat (first | exact (cB HR0_2.out HB.out) | (with_reducible first | apply cA | apply cN | apply cD))); (case side2 => exact HC0_2.out); (case side3 => repeat (first | exact (cB HR0_3.out HB.out) | (with_reducible first | apply cA | apply cN | apply cD))); (case side4 => exact HC0_3.out); rintro e w11 ⟨rfl, hb⟩; refine ⟨_, rfl, ?_⟩; have _ := AM (nB BK101.out hb); have _ := AM (below_step (bX HB.out) hb); clear BK101 HB; rename_i BK101 HB; (try clear hb); (try clear hk)))
 go_ret
 exact ⟨by first | rfl | (simp [*, errW_none, errW_some] <;> rfl), bX HB.out⟩

/-! ### impl_TopicRight: function 16 -/

def impl_TopicRight.f (k : Nat) (a0_0 : ByteArray) (a0_1 : Int) (l0_2 : List ByteArray) (l0_3 : List (S36)) : Option (Bool) := (impl_isTopic.f k a0_0 a0_1 l0_2 l0_3).bind fun t102 => (some t102)
theorem impl_TopicRight.mono : ∀ a0 a1 a2 a3 k, LeO (impl_TopicRight.f k a0 a1 a2 a3) (impl_TopicRight.f (k + 1) a0 a1 a2 a3) := by
  intro a0 a1 a2 a3 k
  unfold impl_TopicRight.f
  repeat' first
      | (with_reducible exact impl_isTopic.mono _ _ _ _ _)
      | (with_reducible exact LeO.refl _)
      | (with_reducible exact LeO.none _)
      | (with_reducible refine LeO.ite ?_ ?_)
      | (with_reducible refine LeO.bind ?_ (fun _ => ?_))
      | exact impl_isTopic.mono _ _ _ _ _
      | exact LeO.none _
      | refine LeO.ite ?_ ?_
      | refine LeO.bind ?_ (fun _ => ?_)
set_option maxHeartbeats 60000000 in
set_option maxRecDepth 100000 in
theorem impl_TopicRight.calls (k : Nat) (a0_0 : ByteArray) (a0_1 : Int) (A0_2 : Option Addr) (c0_2 : Nat) (l0_2 : List ByteArray) (A0_3 : Option Addr) (c0_3 : Nat) (l0_3 : List (S36)) (r : Bool) (w : World) (hr0_2 : Kd.C Kd.string w A0_2 l0_2.length l0_2) (hc0_2 : l0_2.length ≤ c0_2) (hr0_3 : Kd.C k36 w A0_3 l0_3.length l0_3) (hc0_3 : l0_3.length ≤ c0_3) (h : impl_TopicRight.f k a0_0 a0_1 l0_2 l0_3 = some r) :
    Calls Try.prog 16 #[.agg #[.string a0_0, .int .i64 a0_1, .slice A0_2 l0_2.length c0_2, .slice A0_3 l0_3.length c0_3]] w fun e w' => e = .returned (.bool r) ∧ Below w.heap.size w w' := by
 have hu26 := Try.underlying26
 have HR0_2 := AM hr0_2
 have HC0_2 := AM hc0_2
 clear hr0_2 hc0_2
 have HR0_3 := AM hr0_3
 have HC0_3 := AM hc0_3
 clear hr0_3 hc0_3
 have HB := AM (Below.refl w.heap.size w)
 have H : ((impl_isTopic.f k a0_0 a0_1 l0_2 l0_3).bind fun t102 => (some t102)) = some r := h
 clear h
 replace H := Option.bind_eq_some_iff.mp H
 obtain ⟨t102, A20, H⟩ := H
 replace H : (some t102) = some r := H
 have A2 := AM A20
 clear A20
 obtain rfl := Option.some.inj H
 go_enter Try.func16, Try.ntmps16
 go_wp2_with (first | ((with_reducible refine gate_dst (N := 1) rfl ?_); refine box_event (by rfl) (N := 1) (by rfl) (cs := #[.string a0_0, .int .i64 a0_1, .slice A0_2 l0_2.length c0_2, .slice A0_3 l0_3.length c0_3]) (t := 26) (by first | (go_simp; done) | (go_simp; rfl)) ?_; intro gb101 hg w3 hbox hb; have _ := AM (below_step (bX HB.out) hb); have _ := AM (hbox); have n2_ := AM ((by rw [hg]; exact (bZ (bX HB.out)) : w.heap.size ≤ gb101)); clear HB; rename_i HB BK101; have GW101 := n2_; have GE101 := n2_; clear n2_; clear hb hbox hg; have hcz4 := q4 BK101.out; have hfz4 := fZ BK101.out) | ((with_reducible refine gate_callee (f := 22) rfl ?_); refine goesL_ (some 4) rfl rfl Try.func22 (by kernel_rfl) rfl #[.agg #[.string a0_0, .int .i64 a0_1, .slice A0_2 l0_2.length c0_2, .slice A0_3 l0_3.length c0_3]] rfl (by (try simp only [mA, mB, mC]); first | done | rfl | (simp only [mD, mE]; rfl)) ?_; (with_reducible refine (impl_isTopic.calls k a0_0 a0_1 _ _ l0_2 _ _ l0_3 t102 _ ?side1 ?side2 ?side3 ?side4 A2.out).mono ?_); (case side1 => repeat (first | exact (cB HR0_2.out HB.out) | (with_reducible first | apply cA | apply cN | apply cD))); (case side2 => exact HC0_2.out); (case side3 => repeat (first | exact (cB HR0_3.out HB.out) | (with_reducible first | apply cA | apply cN | apply cD))); (case side4 => exact HC0_3.out); rintro e w5 ⟨rfl, hb⟩; refine ⟨_, rfl, ?_⟩; have _ := AM (nB BK101.out hb); have _ := AM (below_step (bX HB.out) hb); clear BK101 HB; rename_i BK101 HB; (try clear hb); (try clear hk)))
 go_ret
 exact ⟨by first | rfl | (simp [*, errW_none, errW_some] <;> rfl), bX HB.out⟩

end Go.Proofs.Ytcnilcipcnjmjaa.Q
