/- Printed by a program of this session (wip/mp.py over the kit's print.py): functions of the translation as plain Lean functions, and that the machine's calls do what these say. -/
import Derived.Test.YtcnilcipcnjmjaaQx0
import Derived.Test.YtcnilcipcnjmjaaQx9
import Derived.Test.YtcnilcipcnjmjaaQx10
import Derived.Test.YtcnilcipcnjmjaaQx11
namespace Go.Proofs.Ytcnilcipcnjmjaa.Q
open Go.RowKit Go.Proofs.Ytcnilcipcnjmjaa.HB Go.Proofs.YtcnilcipcnjmjaaW.PrintWords Go.Proofs.YtcnilcipcnjmjaaW.PrintLast Go.Proofs.YtcnilcipcnjmjaaW.PrintMore
attribute [local go_sem] max2_int min2_int max_two min_two max_three min_three max_four min_four   -- for this text's walks alone
set_option linter.unusedVariables false
set_option linter.unusedSimpArgs false

/-! ### impl_Topic_retain: function 25 (by hand) -/
theorem put_T36 {W : World} {base go co : Nat} {ok : Nat → Prop} {n : Nat} {l : List S36} (h : Kd.R k36 36 W base ok (.slice (some ⟨go, 0, none⟩) n co) l) (x : Int) (h0 : 0 ≤ x) (h1 : x < l.length) (m : Int) :
    Kd.R k36 36 (W.setCell ⟨go, x.toNat * 2 + 1, none⟩ (.int .i64 m)) base ok (.slice (some ⟨go, 0, none⟩) n co) (l.set x.toNat ⟨(rd_T36 l x).f0, m⟩) := by
  have hn := (Kd.R_reads' h).1
  obtain ⟨ce, hcl, hM, hcc, hfr⟩ := Kd.R_elem h z36 x h0 (by omega)
  obtain rfl := k36_openM hM
  exact (Kd.R_seg h x h0 (by omega) (seg := [.int .i64 m]) (j := 1) hcl hcc (show 2 ≤ 2 from by decide) (x' := (⟨(rd_T36 l x).f0, m⟩ : S36)) (k36_mkM _ _ _ (⟨(rd_T36 l x).f0, m⟩ : S36)) (fun _ hk => hk)).1
theorem keep_row {w w1 : World} {g go : Nat} {r : Option Nat} (h : KeepBut w w1 g r) (hr : r = some go) (j : Nat) (u : Value) : KeepBut w (w1.setCell ⟨go, j, none⟩ u) g r := by
  exact ⟨by simpa [World.setCell] using h.1, fun i hi h1 h2 => (Below.heap_setCell w1 ⟨go, j, none⟩ u i (fun e => h2 (by rw [hr, e]))).trans (h.2 i hi h1 h2)⟩
def impl_Topic_retain.l0 : Nat → Int → List S36 → Int → Int → Option (List S36)
  | 0, _, _, _, _ => none
  | k + 1, b, l, n, i => if i < n then (if 0 ≤ i then (if i < (l.length : Int) then impl_Topic_retain.l0 k b (l.set i.toNat ⟨(rd_T36 l i).f0, if (rd_T36 l i).f1 < b then b else (rd_T36 l i).f1⟩) n (wrap64 (i + 1)) else none) else none) else some l
def impl_Topic_retain.n (s2 : List ByteArray) (a1 : Int) : Int := if 0 < wrap64 ((s2.length : Int) - a1) then wrap64 ((s2.length : Int) - a1) else 0
def impl_Topic_retain.f (k : Nat) (s0 : ByteArray) (s1 : Int) (s2 : List ByteArray) (s3 : List S36) (a1 : Int) : Option (Int × Int × List ByteArray × List S36) :=
  if 0 ≤ impl_Topic_retain.n s2 a1 then if impl_Topic_retain.n s2 a1 ≤ (s2.length : Int) then (impl_Topic_retain.l0 k (wrap64 (s1 + impl_Topic_retain.n s2 a1)) s3 (s3.length : Int) 0).bind fun l => some (impl_Topic_retain.n s2 a1, wrap64 (s1 + impl_Topic_retain.n s2 a1), s2.drop (impl_Topic_retain.n s2 a1).toNat, l) else none else none
theorem impl_Topic_retain.mono_l : ∀ k b l n i, LeO (impl_Topic_retain.l0 k b l n i) (impl_Topic_retain.l0 (k + 1) b l n i)
  | 0, _, _, _, _ => fun r h => by simp [impl_Topic_retain.l0] at h
  | k + 1, b, l, n, i => by
    have ih := impl_Topic_retain.mono_l k
    unfold impl_Topic_retain.l0
    exact LeO.ite (LeO.ite (LeO.ite (ih _ _ _ _) (LeO.none _)) (LeO.none _)) (LeO.refl _)
theorem impl_Topic_retain.mono : ∀ s0 s1 s2 s3 a1 k, LeO (impl_Topic_retain.f k s0 s1 s2 s3 a1) (impl_Topic_retain.f (k + 1) s0 s1 s2 s3 a1) := by
  intro s0 s1 s2 s3 a1 k
  unfold impl_Topic_retain.f
  exact LeO.ite (LeO.ite (LeO.bind (impl_Topic_retain.mono_l _ _ _ _ _) (fun _ => LeO.refl _)) (LeO.none _)) (LeO.none _)
set_option maxHeartbeats 4000000 in
set_option maxRecDepth 100000 in
theorem impl_Topic_retain.calls (k g : Nat) (s0 : ByteArray) (s1 : Int) (v2 v3 : Value) (s2 : List ByteArray) (s3 : List S36) (a1 : Int) (r1 s1' : Int) (s2' : List ByteArray) (s3' : List S36) (w0 w : World)
    (hG : w.heap[g]? = some (.cells #[.string s0, .int .i64 s1, v2, v3] 26 (0, 0))) (hg : w0.heap.size ≤ g) (hB : Below w0.heap.size w0 w)
    (h2 : Kd.R Kd.string 9 w w0.heap.size (fun _ => True) v2 s2) (h3 : Kd.R k36 36 w w0.heap.size (fun _ => True) v3 s3) (h : impl_Topic_retain.f k s0 s1 s2 s3 a1 = some (r1, s1', s2', s3')) :
    Calls Try.prog 25 #[.pointer (some ⟨g, 0, none⟩), .int .i64 a1] w fun e w' => ∃ v2', e = .returned (.int .i64 r1) ∧ w'.heap[g]? = some (.cells #[.string s0, .int .i64 s1', v2', v3] 26 (0, 0)) ∧ Kd.Q Kd.string 9 w' w0.heap.size (fun _ => True) v2' s2' ∧ Kd.R k36 36 w' w0.heap.size (fun _ => True) v3 s3' ∧ Below w0.heap.size w0 w' ∧ KeepBut w w' g v3.ownBlock := by
  obtain ⟨A2, c2, rfl⟩ := Kd.R_slice h2
  obtain ⟨A3, c3, rfl⟩ := Kd.R_slice h3
  have hu30 := Try.underlying26
  have BK := Aside0.mk hG
  have HB := Aside0.mk hB
  have HO2 := Aside0.mk h2
  have HO3 := Aside0.mk h3
  have GE := Aside0.mk hg
  have HX : ∃ n, n = impl_Topic_retain.n s2 a1 ∧ 0 ≤ n ∧ n ≤ (s2.length : Int) ∧ impl_Topic_retain.l0 k (wrap64 (s1 + n)) s3 (s3.length : Int) 0 = some s3' ∧ r1 = n ∧ s1' = wrap64 (s1 + n) ∧ s2' = s2.drop n.toNat := by
    unfold impl_Topic_retain.f at h
    by_cases p : 0 ≤ impl_Topic_retain.n s2 a1
    · rw [if_pos p] at h
      by_cases q : impl_Topic_retain.n s2 a1 ≤ (s2.length : Int)
      · rw [if_pos q] at h
        obtain ⟨l, h1, h2⟩ := Option.bind_eq_some_iff.mp h
        injection h2 with h2
        simp only [Prod.mk.injEq] at h2
        obtain ⟨rfl, rfl, rfl, rfl⟩ := h2
        exact ⟨_, rfl, p, q, h1, rfl, rfl, rfl⟩
      · rw [if_neg q] at h; cases h
    · rw [if_neg p] at h; cases h
  obtain ⟨_, hn, p, q, hl, rfl, rfl, rfl⟩ := HX
  have HL := Aside0.mk hl
  have hcz_0 : w.cell? ⟨g, 0, none⟩ = some (.string s0) := (blk_cell BK.out 0).trans rfl
  have hcz_1 : w.cell? ⟨g, 1, none⟩ = some (.int .i64 s1) := (blk_cell BK.out 1).trans rfl
  have hcz_2 : w.cell? ⟨g, 2, none⟩ = some (.slice A2 s2.length c2) := (blk_cell BK.out 2).trans rfl
  have hcz_3 : w.cell? ⟨g, 3, none⟩ = some (.slice A3 s3.length c3) := (blk_cell BK.out 3).trans rfl
  have hfz_0 := blk_frozen BK.out 0
  have hfz_1 := blk_frozen BK.out 1
  have hfz_2 := blk_frozen BK.out 2
  have hfz_3 := blk_frozen BK.out 3
  clear hG hB h2 h3 hg h hl
  obtain ⟨i0, hi0, _, hsz, _⟩ := info_parts info9
  have hcut := cut_from (P := Try.prog) 23 9 .i64 Try.underlying23 hi0 1 hsz A2 s2.length c2 r1 p q
  have hr := Kd.Q_drop (k := r1.toNat) (Kd.Q_of_R HO2.out) (by omega)
  obtain ⟨A4, hA4⟩ : ∃ A1, A1 = (if c2 = r1.toNat then A2 else (A2 : Option Addr).map (·.add (r1.toNat * 1))) := ⟨_, rfl⟩
  obtain ⟨c4, hc4⟩ : ∃ c1, c1 = c2 - r1.toNat := ⟨_, rfl⟩
  have hy : (s2.drop r1.toNat).length = s2.length - r1.toNat := by simp
  rw [← hA4, ← hc4, ← hy] at hcut
  replace hr : Kd.Q Kd.string 9 w w0.heap.size (fun _ => True) (.slice A4 (s2.drop r1.toNat).length c4) (s2.drop r1.toNat) := by rw [hA4, hc4, hy]; exact hr
  have HO4 := Aside0.mk hr
  clear hy hi0 hsz HO2 hA4 hc4 hr
  generalize s2.drop r1.toNat = y4 at *
  have P1 := Aside0.mk p
  have P2 := Aside0.mk q
  clear p q
  unfold impl_Topic_retain.n at hn
  replace hn := hn.symm
  go_enter Try.func25, Try.ntmps25
  go_wp2_with (first | (go_at_call 48; (with_reducible refine (impl_size_string.calls A2 c2 s2 _ _ rfl).mono ?_); rintro e w' ⟨rfl, ⟨nd, rfl⟩⟩))
  go_loopg [37] k (fun kq v37 w' => ∃ (x : Int) (l2 : List S36), v37 = .int .i64 x ∧ Aside0 (impl_Topic_retain.l0 kq (wrap64 (s1 + r1)) l2 (s3.length : Int) x = some s3') ∧ Aside0 (kq ≤ k) ∧ Aside0 (Kd.Q Kd.string 9 w' w0.heap.size (fun _ => True) (.slice A4 y4.length c4) y4) ∧ Aside0 (Kd.R k36 36 w' w0.heap.size (fun _ => True) (.slice A3 s3.length c3) l2) ∧ Aside0 (w'.heap[g]? = some (.cells #[.string s0, .int .i64 (wrap64 (s1 + r1)), .slice A4 y4.length c4, .slice A3 s3.length c3] 26 (0, 0))) ∧ Aside0 (Below w0.heap.size w0 w') ∧ Aside0 (KeepBut w w' g (.slice A3 s3.length c3 : Value).ownBlock))
  case atStart => exact ⟨0, s3, by first | rfl | (simp; done) | (simp [*]; done), HL, ⟨Nat.le_refl _⟩, ⟨by (with_reducible repeat (first | apply Kd.Q_alloc | apply Kd.Q_drewN | apply Kd.Q_drew)); exact Kd.Q_mono (Kd.Q_far (p := ⟨g, 1, none⟩) (Kd.Q_far (p := ⟨g, 2, none⟩) (Kd.Q_types HO4.out BK.out (by decide)) (fun _ hk => hk.2) (.slice A4 y4.length c4)) (fun _ hk => hk.2) (.int .i64 (wrap64 (s1 + r1)))) (fun _ hk => trivial)⟩, ⟨by (with_reducible repeat (first | apply Kd.R_alloc | apply Kd.R_drewN | apply Kd.R_drew)); exact Kd.R_mono (Kd.R_far (p := ⟨g, 1, none⟩) (Kd.R_far (p := ⟨g, 2, none⟩) (Kd.R_types HO3.out BK.out (by decide)) (fun _ hk => hk.2) (.slice A4 y4.length c4)) (fun _ hk => hk.2) (.int .i64 (wrap64 (s1 + r1)))) (fun _ hk => trivial)⟩, ⟨by (with_reducible repeat (first | refine blk_drewN ?_ _ | refine blk_drew ?_ | refine blk_alloc ?_ _)); refine blk_put (cs := #[.string s0, .int .i64 s1, .slice A4 y4.length c4, .slice A3 s3.length c3]) ?_ 1 _ rfl; (with_reducible repeat (first | refine blk_drewN ?_ _ | refine blk_drew ?_ | refine blk_alloc ?_ _)); refine blk_put (cs := #[.string s0, .int .i64 s1, .slice A2 s2.length c2, .slice A3 s3.length c3]) ?_ 2 _ rfl; (with_reducible repeat (first | refine blk_drewN ?_ _ | refine blk_drew ?_ | refine blk_alloc ?_ _)); exact BK.out⟩, ⟨by repeat (first | (with_reducible first | exact HB.out | apply below_alloc | apply pw_below_drewN | apply below_drew1 | refine below_set ?_ GE.out) | exact HB.out)⟩, ⟨by (with_reducible repeat (first | apply KeepBut.set_ | apply keep_drewN | apply keep_drew)); exact KeepBut.refl _ _ _⟩⟩
  case round =>
    clear HL hcz_0 hcz_1 hcz_2 hcz_3 hfz_0 hfz_1 hfz_2 hfz_3 hcut
    obtain ⟨x, l2, rfl, HA, HK1, HO4, HO3, BK, HB, HK⟩ := hrel
    have hln := (Kd.R_reads' HO3.out).1
    cases gk with
    | zero => exact absurd HA.out (by simp [impl_Topic_retain.l0])
    | succ k1 =>
      have H := HA.out
      clear HA
      simp only [impl_Topic_retain.l0] at H
      have hcz_0 : wr.cell? ⟨g, 0, none⟩ = some (.string s0) := (blk_cell BK.out 0).trans rfl
      have hcz_1 : wr.cell? ⟨g, 1, none⟩ = some (.int .i64 (wrap64 (s1 + r1))) := (blk_cell BK.out 1).trans rfl
      have hcz_2 : wr.cell? ⟨g, 2, none⟩ = some (.slice A4 y4.length c4) := (blk_cell BK.out 2).trans rfl
      have hcz_3 : wr.cell? ⟨g, 3, none⟩ = some (.slice A3 s3.length c3) := (blk_cell BK.out 3).trans rfl
      have hfz_0 := blk_frozen BK.out 0
      have hfz_1 := blk_frozen BK.out 1
      have hfz_2 := blk_frozen BK.out 2
      have hfz_3 := blk_frozen BK.out 3
      by_cases e1 : x < (s3.length : Int)
      · rw [if_pos e1] at H
        have e1b : decide (x < (s3.length : Int)) = true := decide_eq_true e1
        by_cases e2 : 0 ≤ x
        · have e3 : x < (l2.length : Int) := by omega
          rw [if_pos e2, if_pos e3] at H
          obtain ⟨m, hm⟩ : ∃ m, (if (rd_T36 l2 x).f1 < wrap64 (s1 + r1) then wrap64 (s1 + r1) else (rd_T36 l2 x).f1) = m := ⟨_, rfl⟩
          rw [hm] at H
          have H' := Aside0.mk H
          clear H
          have e2b : decide (0 ≤ x) = true := decide_eq_true e2
          obtain ⟨go, co, eo, gb, gl, cl, HG⟩ := Kd.R_form HO3.out (by omega)
          injection eo with ea en ec
          subst ea
          subst ec
          clear en
          have GB := Aside0.mk gb
          obtain ⟨ce, hcl, hM, hcc, hfr⟩ := Kd.R_elem HO3.out z36 x e2 (by omega)
          obtain rfl := k36_openM hM
          have hx0 : wr.cell? ⟨go, x.toNat * 2, none⟩ = some (.string (rd_T36 l2 x).f0) := hcc 0 _ rfl
          have hx1 : wr.cell? ⟨go, x.toNat * 2 + 1, none⟩ = some (.int .i64 (rd_T36 l2 x).f1) := hcc 1 _ rfl
          have hf1 : wr.frozen? ⟨go, x.toNat * 2 + 1, none⟩ = false := hfr 1
          have NG := Aside0.mk (Kd.R_ne HO3.out BK.out (by decide))
          have HQ := Aside0.mk (HG)
          have E3 := Aside0.mk e3
          have E2 := Aside0.mk e2
          have HLN := Aside0.mk hln
          have p_ := eq_true e2
          have q_ := eq_true e1
          clear hM hcl hcc hfr e1 e2 e3 gb gl hln HG
          go_wp2
          go_still_tail 20, (by kernel_rfl)
          have n1_ := Aside0.mk (Kd.Q_drew HO4.out)
          have n2_ := Aside0.mk (Kd.R_drew HO3.out)
          have n3_ := Aside0.mk (blk_drew BK.out)
          have n4_ := Aside0.mk (below_drew1 HB.out)
          have n5_ := Aside0.mk (keep_drew HK.out)
          have n6_ : wr.drew.cell? ⟨go, x.toNat * 2 + 1, none⟩ = some (.int .i64 (rd_T36 l2 x).f1) := hx1
          have n7_ : wr.drew.frozen? ⟨go, x.toNat * 2 + 1, none⟩ = false := hf1
          have n8_ : Aside0 (wr.drew.heap[go]? = some (.cells cl 36 (0, 0))) := ⟨blk_drew HQ.out⟩
          clear HO4 HO3 BK HB HK hx1 hf1 hx0 hcz_0 hcz_1 hcz_2 hcz_3 hfz_0 hfz_1 hfz_2 hfz_3 HQ
          have HO4 := n1_; have HO3 := n2_; have BK := n3_; have HB := n4_; have HK := n5_; have HQ := n8_
          clear n1_ n2_ n3_ n4_ n5_ n8_
          change wpList _ _ _ _ _ wr.drew
          generalize wr.drew = w2 at HO4 HO3 BK HB HK HQ n6_ n7_ ⊢
          go_wp2
          go_roundg k1
          case measure => have := HK1.out; omega
          case rel => exact ⟨wrap64 (x + 1), _, by first | rfl | (simp; done) | (simp [*]; done), H', ⟨by have := HK1.out; omega⟩, ⟨by (with_reducible repeat (first | apply Kd.Q_alloc | apply Kd.Q_drewN | apply Kd.Q_drew)); exact Kd.Q_mono (Kd.Q_far (p := ⟨go, x.toNat * 2 + 1, none⟩) (Kd.Q_types HO4.out HQ.out (by decide)) (fun _ hk => hk.2) (.int .i64 m)) (fun _ hk => trivial)⟩, ⟨by (with_reducible repeat (first | apply Kd.R_alloc | apply Kd.R_drewN | apply Kd.R_drew)); exact put_T36 HO3.out x E2.out E3.out m⟩, ⟨by (with_reducible repeat (first | refine blk_drewN ?_ _ | refine blk_drew ?_ | refine blk_alloc ?_ _)); refine blk_far BK.out (by have h_ := NG.out; intro e_; exact h_ (by rw [e_]; rfl)) _⟩, ⟨by repeat (first | (with_reducible first | exact HB.out | apply below_alloc | apply pw_below_drewN | apply below_drew1 | refine below_set ?_ GB.out) | exact HB.out)⟩, ⟨by (with_reducible repeat (first | apply keep_drewN | apply keep_drew)); exact keep_row HK.out rfl _ _⟩⟩
        · rw [if_neg e2] at H
          cases H
      · rw [if_neg e1] at H
        have e1b : decide (x < (s3.length : Int)) = false := decide_eq_false e1
        obtain rfl := Option.some.inj H
        clear H e1 hln
        go_wp2
        go_ret
        refine ⟨?_, .slice A4 y4.length c4, ?_, ?_, ?_, ?_, ?_⟩
        · exact rfl
        · (with_reducible repeat (first | refine blk_drewN ?_ _ | refine blk_drew ?_ | refine blk_alloc ?_ _)); exact BK.out
        · (with_reducible repeat (first | apply Kd.Q_alloc | apply Kd.Q_drewN | apply Kd.Q_drew)); exact HO4.out
        · (with_reducible repeat (first | apply Kd.R_alloc | apply Kd.R_drewN | apply Kd.R_drew)); exact HO3.out
        · repeat (first | (with_reducible first | exact HB.out | apply below_alloc | apply pw_below_drewN | apply below_drew1) | exact HB.out)
        · (with_reducible repeat (first | apply keep_drewN | apply keep_drew)); exact HK.out


/-! ### impl_TopicRetain: function 6 (by hand) -/
def impl_TopicRetain.f (k : Nat) (a0_0 : ByteArray) (a0_1 : Int) (l0_2 : List ByteArray) (l0_3 : List S36) (a1 : Int) : Option (ByteArray × Int × List ByteArray × List S36 × List ByteArray × Int × Int) :=
  (impl_isTopic.f k a0_0 a0_1 l0_2 l0_3).bind fun t => if t = true then (impl_within.f a1 0 20).bind fun m => if m = true then (impl_cloneTopic.f a0_0 a0_1 l0_2 l0_3).bind fun c => (impl_Topic_retain.f k c.1 c.2.1 c.2.2.1 c.2.2.2 a1).bind fun p => some (c.1, p.2.1, p.2.2.1, p.2.2.2, [], p.1, 0) else some (⟨#[]⟩, 0, [], [], [], 0, 1) else some (⟨#[]⟩, 0, [], [], [], 0, 1)
theorem impl_TopicRetain.mono : ∀ a0 a1 a2 a3 a4 k, LeO (impl_TopicRetain.f k a0 a1 a2 a3 a4) (impl_TopicRetain.f (k + 1) a0 a1 a2 a3 a4) := by
  intro a0 a1 a2 a3 a4 k
  unfold impl_TopicRetain.f
  repeat' first
      | (with_reducible exact impl_isTopic.mono _ _ _ _ _)
      | (with_reducible exact impl_Topic_retain.mono _ _ _ _ _ _)
      | (with_reducible exact LeO.refl _)
      | (with_reducible refine LeO.ite ?_ ?_)
      | (with_reducible refine LeO.bind ?_ (fun _ => ?_))
set_option maxHeartbeats 4000000 in
set_option maxRecDepth 100000 in
theorem impl_TopicRetain.calls (k : Nat) (a0_0 : ByteArray) (a0_1 : Int) (A0_2 : Option Addr) (c0_2 : Nat) (l0_2 : List ByteArray) (A0_3 : Option Addr) (c0_3 : Nat) (l0_3 : List (S36)) (a1 : Int) (r1 : ByteArray) (r2 : Int) (r3 : List ByteArray) (r4 : List (S36)) (r5 : List ByteArray) (r6 : Int) (r7 : Int) (w : World) (hr0_2 : Kd.C Kd.string w A0_2 l0_2.length l0_2) (hc0_2 : l0_2.length ≤ c0_2) (hr0_3 : Kd.C k36 w A0_3 l0_3.length l0_3) (hc0_3 : l0_3.length ≤ c0_3) (h : impl_TopicRetain.f k a0_0 a0_1 l0_2 l0_3 a1 = some (r1, r2, r3, r4, r5, r6, r7)) :
    Calls Try.prog 6 #[.agg #[.string a0_0, .int .i64 a0_1, .slice A0_2 l0_2.length c0_2, .slice A0_3 l0_3.length c0_3], .int .i64 a1] w fun e w' => ∃ v2_ v3_ v4_ : Value, e = .returned (.agg #[.string r1, .int .i64 r2, v2_, v3_, v4_, .int .i64 r6, .int .i64 r7]) ∧ Kd.Q Kd.string 9 w' w.heap.size (fun k_ => some k_ ≠ (v4_ : Value).ownBlock) v2_ r3 ∧ Kd.R k36 36 w' w.heap.size (fun _ => True) v3_ r4 ∧ Kd.R Kd.string 9 w' w.heap.size (fun k_ => some k_ ≠ (v2_ : Value).ownBlock) v4_ r5 ∧ Below w.heap.size w w' := by
  have hu30 := Try.underlying26
  have hu38 := Try.underlying30
  have HR0_2 := AM hr0_2
  have HC0_2 := AM hc0_2
  have HR0_3 := AM hr0_3
  have HC0_3 := AM hc0_3
  have HX : Aside0 (∃ t, impl_isTopic.f k a0_0 a0_1 l0_2 l0_3 = some t ∧ (if t = true then (impl_within.f a1 0 20).bind fun m => if m = true then (impl_cloneTopic.f a0_0 a0_1 l0_2 l0_3).bind fun c => (impl_Topic_retain.f k c.1 c.2.1 c.2.2.1 c.2.2.2 a1).bind fun p => some (c.1, p.2.1, p.2.2.1, p.2.2.2, [], p.1, 0) else some (⟨#[]⟩, 0, [], [], [], 0, 1) else some (⟨#[]⟩, 0, [], [], [], 0, 1)) = some (r1, r2, r3, r4, r5, r6, r7)) := ⟨by have := h; unfold impl_TopicRetain.f at this; exact Option.bind_eq_some_iff.mp this⟩
  clear hr0_2 hc0_2 hr0_3 hc0_3 h
  have HB := AM (Below.refl w.heap.size w)
  obtain ⟨t, h1, h2⟩ := HX.out
  have A1 := AM h1
  have HH := AM h2
  clear HX h1 h2
  cases t with
  | false =>
    have E1 : Aside0 ((⟨#[]⟩, 0, [], [], [], 0, 1) = (r1, r2, r3, r4, r5, r6, r7)) := ⟨by have := HH.out; rw [if_neg (by decide)] at this; exact Option.some.inj this⟩
    clear HH
    go_enter Try.func6, Try.ntmps6
    go_wp2_with (first | ((with_reducible refine gate_dst (N := 2) rfl ?_); refine box_event (by rfl) (N := 2) (by rfl) (cs := #[.string a0_0, .int .i64 a0_1, .slice A0_2 l0_2.length c0_2, .slice A0_3 l0_3.length c0_3]) (t := 26) (by first | (go_simp; done) | (go_simp; rfl)) ?_; intro gb101 hg w5 hbox hb; have _ := AM (below_step (bX HB.out) hb); have _ := AM (hbox); have _ := AM ((by rw [hg]; exact (bZ (bX HB.out)) : w.heap.size ≤ gb101)); clear HB; rename_i HB BK101 GE101; clear hb hbox hg) | ((with_reducible refine gate_dst (N := 4) rfl ?_); refine box_event (by rfl) (N := 4) (by rfl) (cs := #[.string (⟨#[]⟩ : ByteArray), .int .i64 0, .slice none 0 0, .slice none 0 0, .slice none 0 0, .int .i64 0, .int .i64 0]) (t := 30) (by first | (go_simp; done) | (go_simp; rfl)) ?_; intro gb102 hg w6 hbox hb; have _ := AM (nB BK101.out hb); have _ := AM (below_step (bX HB.out) hb); have _ := AM (hbox); have _ := AM ((by rw [hg]; exact (bZ (bX HB.out)) : w.heap.size ≤ gb102)); clear BK101 HB; rename_i BK101 HB BK102 GE102; clear hb hbox hg; have hcz2 := q7 BK102.out; have hfz2 := fZ BK102.out; have hcz1 := q4 BK101.out; have hfz1 := fZ BK101.out) | (go_at_call 22; (with_reducible refine (impl_isTopic.calls k a0_0 a0_1 A0_2 c0_2 l0_2 A0_3 c0_3 l0_3 false _ ?side1 ?side2 ?side3 ?side4 A1.out).mono ?_); (case side1 => repeat (first | exact (cB HR0_2.out HB.out) | (with_reducible first | apply cA | apply cN | apply cD))); (case side2 => exact HC0_2.out); (case side3 => repeat (first | exact (cB HR0_3.out HB.out) | (with_reducible first | apply cA | apply cN | apply cD))); (case side4 => exact HC0_3.out); rintro e w7 ⟨rfl, hb⟩; have n_ := AM (nB BK101.out hb); clear BK101; have BK101 := n_; clear n_; have n_ := AM (nB BK102.out hb); clear BK102; have BK102 := n_; clear n_; have n_ := AM (below_step (bX HB.out) hb); clear HB; have HB := n_; clear n_ hb; have hcz4 := q7 BK102.out; have hfz4 := fZ BK102.out; have hcz3 := q4 BK101.out; have hfz3 := fZ BK101.out))
    refine bodyPost_ret (results_cell_row rfl _ _ gb102 30 #[.string (⟨#[]⟩ : ByteArray), .int .i64 0, .slice none 0 0, .slice none 0 0, .slice none 0 0, .int .i64 0, .int .i64 1] (0, 0) _ rfl (by refine kP (cs := #[.string (⟨#[]⟩ : ByteArray), .int .i64 0, .slice none 0 0, .slice none 0 0, .slice none 0 0, .int .i64 0, .int .i64 0]) 6 ?_; refine kP (cs := #[.string (⟨#[]⟩ : ByteArray), .int .i64 0, .slice none 0 0, .slice none 0 0, .slice none 0 0, .int .i64 0, .int .i64 0]) 5 ?_; refine kP (cs := #[.string (⟨#[]⟩ : ByteArray), .int .i64 0, .slice none 0 0, .slice none 0 0, .slice none 0 0, .int .i64 0, .int .i64 0]) 4 ?_; refine kP (cs := #[.string (⟨#[]⟩ : ByteArray), .int .i64 0, .slice none 0 0, .slice none 0 0, .slice none 0 0, .int .i64 0, .int .i64 0]) 3 ?_; refine kP (cs := #[.string (⟨#[]⟩ : ByteArray), .int .i64 0, .slice none 0 0, .slice none 0 0, .slice none 0 0, .int .i64 0, .int .i64 0]) 2 ?_; refine kP (cs := #[.string (⟨#[]⟩ : ByteArray), .int .i64 0, .slice none 0 0, .slice none 0 0, .slice none 0 0, .int .i64 0, .int .i64 0]) 1 ?_; refine kP (cs := #[.string (⟨#[]⟩ : ByteArray), .int .i64 0, .slice none 0 0, .slice none 0 0, .slice none 0 0, .int .i64 0, .int .i64 0]) 0 ?_; (with_reducible repeat (first | apply kN | apply kD | apply kA)); exact BK102.out) Try.underlying30 rfl (by kernel_rfl)) rfl ?_
    obtain ⟨rfl, rfl, rfl, rfl, rfl, rfl, rfl⟩ : (⟨#[]⟩ : ByteArray) = r1 ∧ 0 = r2 ∧ [] = r3 ∧ [] = r4 ∧ [] = r5 ∧ 0 = r6 ∧ 1 = r7 := by simpa using E1.out
    exact ⟨_, _, _, rfl, Kd.Q_nil _ _ _ _ _, Kd.R_nil _ _ _ _ _, Kd.R_nil _ _ _ _ _, bX HB.out⟩
  | true =>
    have HX : Aside0 (∃ m, impl_within.f a1 0 20 = some m ∧ (if m = true then (impl_cloneTopic.f a0_0 a0_1 l0_2 l0_3).bind fun c => (impl_Topic_retain.f k c.1 c.2.1 c.2.2.1 c.2.2.2 a1).bind fun p => some (c.1, p.2.1, p.2.2.1, p.2.2.2, [], p.1, 0) else some (⟨#[]⟩, 0, [], [], [], 0, 1)) = some (r1, r2, r3, r4, r5, r6, r7)) := ⟨by have := HH.out; rw [if_pos rfl] at this; exact Option.bind_eq_some_iff.mp this⟩
    clear HH
    obtain ⟨m, h1, h2⟩ := HX.out
    have A2 := AM h1
    have HH := AM h2
    clear HX h1 h2
    cases m with
    | false =>
      have E1 : Aside0 ((⟨#[]⟩, 0, [], [], [], 0, 1) = (r1, r2, r3, r4, r5, r6, r7)) := ⟨by have := HH.out; rw [if_neg (by decide)] at this; exact Option.some.inj this⟩
      clear HH
      go_enter Try.func6, Try.ntmps6
      go_wp2_with (first | ((with_reducible refine gate_dst (N := 2) rfl ?_); refine box_event (by rfl) (N := 2) (by rfl) (cs := #[.string a0_0, .int .i64 a0_1, .slice A0_2 l0_2.length c0_2, .slice A0_3 l0_3.length c0_3]) (t := 26) (by first | (go_simp; done) | (go_simp; rfl)) ?_; intro gb101 hg w5 hbox hb; have _ := AM (below_step (bX HB.out) hb); have _ := AM (hbox); have _ := AM ((by rw [hg]; exact (bZ (bX HB.out)) : w.heap.size ≤ gb101)); clear HB; rename_i HB BK101 GE101; clear hb hbox hg) | ((with_reducible refine gate_dst (N := 4) rfl ?_); refine box_event (by rfl) (N := 4) (by rfl) (cs := #[.string (⟨#[]⟩ : ByteArray), .int .i64 0, .slice none 0 0, .slice none 0 0, .slice none 0 0, .int .i64 0, .int .i64 0]) (t := 30) (by first | (go_simp; done) | (go_simp; rfl)) ?_; intro gb102 hg w6 hbox hb; have _ := AM (nB BK101.out hb); have _ := AM (below_step (bX HB.out) hb); have _ := AM (hbox); have _ := AM ((by rw [hg]; exact (bZ (bX HB.out)) : w.heap.size ≤ gb102)); clear BK101 HB; rename_i BK101 HB BK102 GE102; clear hb hbox hg; have hcz2 := q7 BK102.out; have hfz2 := fZ BK102.out; have hcz1 := q4 BK101.out; have hfz1 := fZ BK101.out) | (go_at_call 22; (with_reducible refine (impl_isTopic.calls k a0_0 a0_1 A0_2 c0_2 l0_2 A0_3 c0_3 l0_3 true _ ?side1 ?side2 ?side3 ?side4 A1.out).mono ?_); (case side1 => repeat (first | exact (cB HR0_2.out HB.out) | (with_reducible first | apply cA | apply cN | apply cD))); (case side2 => exact HC0_2.out); (case side3 => repeat (first | exact (cB HR0_3.out HB.out) | (with_reducible first | apply cA | apply cN | apply cD))); (case side4 => exact HC0_3.out); rintro e w7 ⟨rfl, hb⟩; have n_ := AM (nB BK101.out hb); clear BK101; have BK101 := n_; clear n_; have n_ := AM (nB BK102.out hb); clear BK102; have BK102 := n_; clear n_; have n_ := AM (below_step (bX HB.out) hb); clear HB; have HB := n_; clear n_ hb; have hcz4 := q7 BK102.out; have hfz4 := fZ BK102.out; have hcz3 := q4 BK101.out; have hfz3 := fZ BK101.out) | (go_at_call 23; (with_reducible refine (impl_within.calls a1 0 20 false _ A2.out).mono ?_); rintro e w' ⟨rfl, ⟨nd, rfl⟩⟩))
      refine bodyPost_ret (results_cell_row rfl _ _ gb102 30 #[.string (⟨#[]⟩ : ByteArray), .int .i64 0, .slice none 0 0, .slice none 0 0, .slice none 0 0, .int .i64 0, .int .i64 1] (0, 0) _ rfl (by refine kP (cs := #[.string (⟨#[]⟩ : ByteArray), .int .i64 0, .slice none 0 0, .slice none 0 0, .slice none 0 0, .int .i64 0, .int .i64 0]) 6 ?_; refine kP (cs := #[.string (⟨#[]⟩ : ByteArray), .int .i64 0, .slice none 0 0, .slice none 0 0, .slice none 0 0, .int .i64 0, .int .i64 0]) 5 ?_; refine kP (cs := #[.string (⟨#[]⟩ : ByteArray), .int .i64 0, .slice none 0 0, .slice none 0 0, .slice none 0 0, .int .i64 0, .int .i64 0]) 4 ?_; refine kP (cs := #[.string (⟨#[]⟩ : ByteArray), .int .i64 0, .slice none 0 0, .slice none 0 0, .slice none 0 0, .int .i64 0, .int .i64 0]) 3 ?_; refine kP (cs := #[.string (⟨#[]⟩ : ByteArray), .int .i64 0, .slice none 0 0, .slice none 0 0, .slice none 0 0, .int .i64 0, .int .i64 0]) 2 ?_; refine kP (cs := #[.string (⟨#[]⟩ : ByteArray), .int .i64 0, .slice none 0 0, .slice none 0 0, .slice none 0 0, .int .i64 0, .int .i64 0]) 1 ?_; refine kP (cs := #[.string (⟨#[]⟩ : ByteArray), .int .i64 0, .slice none 0 0, .slice none 0 0, .slice none 0 0, .int .i64 0, .int .i64 0]) 0 ?_; (with_reducible repeat (first | apply kN | apply kD | apply kA)); exact BK102.out) Try.underlying30 rfl (by kernel_rfl)) rfl ?_
      obtain ⟨rfl, rfl, rfl, rfl, rfl, rfl, rfl⟩ : (⟨#[]⟩ : ByteArray) = r1 ∧ 0 = r2 ∧ [] = r3 ∧ [] = r4 ∧ [] = r5 ∧ 0 = r6 ∧ 1 = r7 := by simpa using E1.out
      exact ⟨_, _, _, rfl, Kd.Q_nil _ _ _ _ _, Kd.R_nil _ _ _ _ _, Kd.R_nil _ _ _ _ _, bX HB.out⟩
    | true =>
      have HX : Aside0 (∃ c0 d1 e2 e3 p0 p1 p2 p3, impl_cloneTopic.f a0_0 a0_1 l0_2 l0_3 = some (c0, d1, e2, e3) ∧ impl_Topic_retain.f k c0 d1 e2 e3 a1 = some (p0, p1, p2, p3) ∧ (c0, p1, p2, p3, [], p0, 0) = (r1, r2, r3, r4, r5, r6, r7)) := ⟨by
        have := HH.out; rw [if_pos rfl] at this
        obtain ⟨⟨c0, d1, e2, e3⟩, h1, h2⟩ := Option.bind_eq_some_iff.mp this
        obtain ⟨⟨p0, p1, p2, p3⟩, h3, h4⟩ := Option.bind_eq_some_iff.mp h2
        exact ⟨c0, d1, e2, e3, p0, p1, p2, p3, h1, h3, Option.some.inj h4⟩⟩
      clear HH
      obtain ⟨c0, d1, e2, e3, p0, p1, p2, p3, h1, h2, h3⟩ := HX.out
      have A3 := AM h1
      have A4 := AM h2
      simp only [Prod.mk.injEq] at h3
      obtain ⟨rfl, rfl, rfl, rfl, rfl, rfl, rfl⟩ := h3
      clear HX h1 h2
      go_enter Try.func6, Try.ntmps6
      go_wp2_with (first | ((with_reducible refine gate_dst (N := 2) rfl ?_); refine box_event (by rfl) (N := 2) (by rfl) (cs := #[.string a0_0, .int .i64 a0_1, .slice A0_2 l0_2.length c0_2, .slice A0_3 l0_3.length c0_3]) (t := 26) (by first | (go_simp; done) | (go_simp; rfl)) ?_; intro gb101 hg w5 hbox hb; have _ := AM (below_step (bX HB.out) hb); have _ := AM (hbox); have _ := AM ((by rw [hg]; exact (bZ (bX HB.out)) : w.heap.size ≤ gb101)); clear HB; rename_i HB BK101 GE101; clear hb hbox hg) | ((with_reducible refine gate_dst (N := 4) rfl ?_); refine box_event (by rfl) (N := 4) (by rfl) (cs := #[.string (⟨#[]⟩ : ByteArray), .int .i64 0, .slice none 0 0, .slice none 0 0, .slice none 0 0, .int .i64 0, .int .i64 0]) (t := 30) (by first | (go_simp; done) | (go_simp; rfl)) ?_; intro gb102 hg w6 hbox hb; have _ := AM (nB BK101.out hb); have _ := AM (below_step (bX HB.out) hb); have _ := AM (hbox); have _ := AM ((by rw [hg]; exact (bZ (bX HB.out)) : w.heap.size ≤ gb102)); clear BK101 HB; rename_i BK101 HB BK102 GE102; clear hb hbox hg; have hcz2 := q7 BK102.out; have hfz2 := fZ BK102.out; have hcz1 := q4 BK101.out; have hfz1 := fZ BK101.out) | (go_at_call 22; (with_reducible refine (impl_isTopic.calls k a0_0 a0_1 A0_2 c0_2 l0_2 A0_3 c0_3 l0_3 true _ ?side1 ?side2 ?side3 ?side4 A1.out).mono ?_); (case side1 => repeat (first | exact (cB HR0_2.out HB.out) | (with_reducible first | apply cA | apply cN | apply cD))); (case side2 => exact HC0_2.out); (case side3 => repeat (first | exact (cB HR0_3.out HB.out) | (with_reducible first | apply cA | apply cN | apply cD))); (case side4 => exact HC0_3.out); rintro e w7 ⟨rfl, hb⟩; have n_ := AM (nB BK101.out hb); clear BK101; have BK101 := n_; clear n_; have n_ := AM (nB BK102.out hb); clear BK102; have BK102 := n_; clear n_; have n_ := AM (below_step (bX HB.out) hb); clear HB; have HB := n_; clear n_ hb; have hcz4 := q7 BK102.out; have hfz4 := fZ BK102.out; have hcz3 := q4 BK101.out; have hfz3 := fZ BK101.out) | (go_at_call 23; (with_reducible refine (impl_within.calls a1 0 20 true _ A2.out).mono ?_); rintro e w' ⟨rfl, ⟨nd, rfl⟩⟩) | (go_at_call 24; (with_reducible refine (impl_cloneTopic.calls a0_0 a0_1 A0_2 c0_2 l0_2 A0_3 c0_3 l0_3 c0 d1 e2 e3 _ ?side1 ?side2 ?side3 ?side4 A3.out).mono ?_); (case side1 => repeat (first | exact (cB HR0_2.out HB.out) | (with_reducible first | apply cA | apply cN | apply cD))); (case side2 => exact HC0_2.out); (case side3 => repeat (first | exact (cB HR0_3.out HB.out) | (with_reducible first | apply cA | apply cN | apply cD))); (case side4 => exact HC0_3.out); rintro e w8 ⟨v8, v9, rfl, ho2, ho3, hb⟩; obtain ⟨A8, c8, rfl⟩ := Kd.R_slice ho2; obtain ⟨A9, c9, rfl⟩ := Kd.R_slice ho3; have HO2 := AM (Kd.R_lower ho2 (bZ (bX HB.out))); have HO3 := AM (Kd.R_lower ho3 (bZ (bX HB.out))); clear ho2 ho3; have n_ := AM (nB BK101.out hb); clear BK101; have BK101 := n_; clear n_; have n_ := AM (nB BK102.out hb); clear BK102; have BK102 := n_; clear n_; have n_ := AM (below_step (bX HB.out) hb); clear HB; have HB := n_; clear n_ hb; have hcz6 := q7 BK102.out; have hfz6 := fZ BK102.out; have hcz5 := q4 BK101.out; have hfz5 := fZ BK101.out) | ((with_reducible refine gate_dst (N := 5) rfl ?_); refine box_event (by rfl) (N := 5) (by rfl) (cs := #[.string (⟨#[]⟩ : ByteArray), .int .i64 0, .slice none 0 0, .slice none 0 0]) (t := 26) (by first | (go_simp; done) | (go_simp; rfl)) ?_; intro gb103 hg w9 hbox hb; have n_ := AM (nB BK101.out hb); clear BK101; have BK101 := n_; clear n_; have n_ := AM (nB BK102.out hb); clear BK102; have BK102 := n_; clear n_; have n2_ := AM (Kd.R_below (rX HO2.out) hb); have n3_ := AM (Kd.R_below (rX HO3.out) hb); clear HO2 HO3; have HO2 := n2_; have HO3 := n3_; clear n2_ n3_; have n1_ := AM (below_step (bX HB.out) hb); have n2_ := AM hbox; have n3_ := AM ((by rw [hg]; exact (bZ (bX HB.out))) : w.heap.size ≤ gb103); have NB : Aside0 (gb102 ≠ gb103) := ⟨fun e_ => by have h_ := BK102.out; rw [e_, hbox] at h_; injection h_ with h_; injection h_ with _ h_; exact absurd h_ (by decide)⟩; clear HB; have HB := n1_; have BK103 := n2_; have GE103 := n3_; clear n1_ n2_ n3_ hb hbox hg; have hcz7 := q7 BK102.out; have hfz7 := fZ BK102.out; have hcz8 := q4 BK103.out; have hfz8 := fZ BK103.out) | (go_at_call 25; (with_reducible refine (impl_Topic_retain.calls k gb103 c0 d1 (.slice A8 e2.length c8) (.slice A9 e3.length c9) e2 e3 a1 p0 p1 p2 p3 w _ ?side1 GE103.out ?side2 ?side3 ?side4 A4.out).mono ?_); (case side1 => refine kP (cs := #[.string c0, .int .i64 d1, .slice A8 e2.length c8, .slice none 0 0]) 3 ?_; refine kP (cs := #[.string c0, .int .i64 d1, .slice none 0 0, .slice none 0 0]) 2 ?_; refine kP (cs := #[.string c0, .int .i64 0, .slice none 0 0, .slice none 0 0]) 1 ?_; refine kP (cs := #[.string (⟨#[]⟩ : ByteArray), .int .i64 0, .slice none 0 0, .slice none 0 0]) 0 ?_; (with_reducible repeat (first | apply kN | apply kD | apply kA)); exact BK103.out); (case side2 => exact (bX HB.out)); (case side3 => (with_reducible repeat (first | apply rA | apply rN | apply rD)); exact Rf4 HO2.out BK103.out (by decide) (fun _ _ => trivial)); (case side4 => (with_reducible repeat (first | apply rA | apply rN | apply rD)); exact Rf4 HO3.out BK103.out (by decide) (fun _ _ => trivial)); rintro e w10 ⟨v10, rfl, hG, hQ, hR, hb, hk⟩; obtain ⟨A10, c10, rfl, _⟩ := Kd.Q_slice hQ; have hw_ := blk_far (p := ⟨gb103, 3, none⟩) (blk_far (p := ⟨gb103, 2, none⟩) (blk_far (p := ⟨gb103, 1, none⟩) (blk_far (p := ⟨gb103, 0, none⟩) BK102.out NB.out (.string c0)) NB.out (.int .i64 d1)) NB.out (.slice A8 e2.length c8)) NB.out (.slice A9 e3.length c9); have n2_ := AM ((hk.2 gb102 (blk_lt hw_) NB.out (Kd.R_ne HO3.out BK102.out (by decide))).trans hw_); clear hw_ hk BK101 BK102 BK103 HO2 HO3 HB; have BK102 := n2_; have BK103 := AM hG; have HO2 := AM hQ; have HO3 := AM hR; have HB := AM hb; clear n2_ hG hR hQ hb; have hcz9 := q4 BK103.out; have hfz9 := fZ BK103.out; have hcz10 := q7 BK102.out; have hfz10 := fZ BK102.out))
      refine bodyPost_ret (results_cell_row rfl _ _ gb102 30 #[.string c0, .int .i64 p1, .slice A10 p2.length c10, .slice A9 e3.length c9, .slice none 0 0, .int .i64 p0, .int .i64 0] (0, 0) _ rfl (by refine kP (cs := #[.string c0, .int .i64 p1, .slice A10 p2.length c10, .slice A9 e3.length c9, .slice none 0 0, .int .i64 p0, .int .i64 0]) 6 ?_; refine kP (cs := #[.string c0, .int .i64 p1, .slice A10 p2.length c10, .slice A9 e3.length c9, .slice none 0 0, .int .i64 0, .int .i64 0]) 5 ?_; refine kP (cs := #[.string c0, .int .i64 p1, .slice A10 p2.length c10, .slice A9 e3.length c9, .slice none 0 0, .int .i64 0, .int .i64 0]) 4 ?_; refine kP (cs := #[.string c0, .int .i64 p1, .slice A10 p2.length c10, .slice none 0 0, .slice none 0 0, .int .i64 0, .int .i64 0]) 3 ?_; refine kP (cs := #[.string c0, .int .i64 p1, .slice none 0 0, .slice none 0 0, .slice none 0 0, .int .i64 0, .int .i64 0]) 2 ?_; refine kP (cs := #[.string c0, .int .i64 0, .slice none 0 0, .slice none 0 0, .slice none 0 0, .int .i64 0, .int .i64 0]) 1 ?_; refine kP (cs := #[.string (⟨#[]⟩ : ByteArray), .int .i64 0, .slice none 0 0, .slice none 0 0, .slice none 0 0, .int .i64 0, .int .i64 0]) 0 ?_; (with_reducible repeat (first | apply kN | apply kD | apply kA)); exact BK102.out) Try.underlying30 rfl (by kernel_rfl)) rfl ?_
      exact ⟨_, _, _, rfl, by (with_reducible repeat (first | apply Kd.Q_alloc | apply Kd.Q_drewN | apply Kd.Q_drew)); exact Qf7 HO2.out BK102.out (by decide) (fun _ hk => by simp [Value.ownBlock]), by (with_reducible repeat (first | apply rA | apply rN | apply rD)); exact Rf7 HO3.out BK102.out (by decide) (fun _ _ => trivial), Kd.R_nil _ _ _ _ _, bX HB.out⟩


end Go.Proofs.Ytcnilcipcnjmjaa.Q
