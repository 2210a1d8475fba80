/- Printed by wip/mp.py: functions as plain Lean functions, and their calls. -/
import Derived.Test.YtnjnjffjblgldaaQx7
namespace Go.Proofs.Ytnjnjffjblgldaa.Q
open Go.RowKit Go.Proofs.Ytnjnjffjblgldaa.HB Go.Proofs.YtnjnjffjblgldaaW.PrintWords Go.Proofs.YtnjnjffjblgldaaW.PrintLast Go.Proofs.YtnjnjffjblgldaaW.PrintMore
attribute [local go_sem] max2_int min2_int max_two min_two max_three min_three max_four min_four   -- for this text's walks alone
set_option linter.unusedVariables false
set_option linter.unusedSimpArgs false

/-! ### spec_TopicSeek: function 19 -/

def spec_TopicSeek.f (k : Nat) (a0_0 : ByteArray) (a0_1 : Int) (l0_2 : List ByteArray) (l0_3 : List (S55)) (a1 : ByteArray) (a2 : Int) : Option (ByteArray × Int × List ByteArray × (List (S55)) × List ByteArray × Int × Int) := (spec_l07Set.f k a0_0 a0_1 l0_2 l0_3 a1 a2 true).bind fun bt103 => (some (bt103.1, bt103.2.1, bt103.2.2.1, bt103.2.2.2.1, bt103.2.2.2.2.1, bt103.2.2.2.2.2.1, bt103.2.2.2.2.2.2))
set_option maxHeartbeats 60000000 in
set_option maxRecDepth 100000 in
theorem spec_TopicSeek.calls (k : Nat) (a0_0 : ByteArray) (a0_1 : Int) (A0_2 : Option Addr) (c0_2 : Nat) (l0_2 : List ByteArray) (A0_3 : Option Addr) (c0_3 : Nat) (l0_3 : List (S55)) (a1 : ByteArray) (a2 : Int) (r1 : ByteArray) (r2 : Int) (r3 : List ByteArray) (r4 : List (S55)) (r5 : List ByteArray) (r6 : Int) (r7 : Int) (w : World) (hr0_2 : Kd.C Kd.string w A0_2 l0_2.length l0_2) (hc0_2 : l0_2.length ≤ c0_2) (hr0_3 : Kd.C k55 w A0_3 l0_3.length l0_3) (hc0_3 : l0_3.length ≤ c0_3) (h : spec_TopicSeek.f k a0_0 a0_1 l0_2 l0_3 a1 a2 = some (r1, r2, r3, r4, r5, r6, r7)) :
    Calls Try.prog 19 #[.agg #[.string a0_0, .int .i64 a0_1, .slice A0_2 l0_2.length c0_2, .slice A0_3 l0_3.length c0_3], .string a1, .int .i64 a2] w fun e w' => ∃ v2_ v3_ v4_ : Value, e = .returned (.agg #[.string r1, .int .i64 r2, v2_, v3_, v4_, .int .i64 r6, .int .i64 r7]) ∧ Kd.R Kd.string 9 w' w.heap.size (fun k_ => some k_ ≠ (v4_ : Value).ownBlock) v2_ r3 ∧ Kd.R k55 55 w' w.heap.size (fun _ => True) v3_ r4 ∧ Kd.R Kd.string 9 w' w.heap.size (fun k_ => some k_ ≠ (v2_ : Value).ownBlock) v4_ r5 ∧ Below w.heap.size w w' := by
 have hu29 := Try.underlying29; have hu31 := Try.underlying31; have HR0_2 := AM hr0_2; have HC0_2 := AM hc0_2; clear hr0_2 hc0_2; have HR0_3 := AM hr0_3; have HC0_3 := AM hc0_3; clear hr0_3 hc0_3; have HB := AM (Below.refl w.heap.size w); have H : ((spec_l07Set.f k a0_0 a0_1 l0_2 l0_3 a1 a2 true).bind fun bt103 => (some (bt103.1, bt103.2.1, bt103.2.2.1, bt103.2.2.2.1, bt103.2.2.2.2.1, bt103.2.2.2.2.2.1, bt103.2.2.2.2.2.2))) = some (r1, r2, r3, r4, r5, r6, r7) := h; clear h; replace H := oM H; obtain ⟨⟨t103, t104, t105, t108, t111, t114, t115⟩, A40, H⟩ := H; try dsimp only at H
 have A4 := AM A40; clear A40; simp only [Option.some.injEq, Prod.mk.injEq] at H
 obtain ⟨rfl, rfl, rfl, rfl, rfl, rfl, rfl⟩ := H; go_enter Try.func19, Try.ntmps19
 go_wp2_with (first | (refine bE (N := 3) (cs := #[.string a0_0, .int .i64 a0_1, .slice A0_2 l0_2.length c0_2, .slice A0_3 l0_3.length c0_3]) (t := 29) ?_; intro gb101 hg w5 hbox hb; have GW101 := gY hg HB; have GE101 := GW101; have BK101 := AM (hbox); replace HB := bY HB hb; clear hb hbox hg) | (refine bE (N := 6) (cs := zz0) (t := 31) ?_; intro gb102 hg w6 hbox hb; have GW102 := gY hg HB; have GE102 := GW102; have BK102 := AM (hbox); have NB101_102 := lY hg BK101; have NB102_101 := sY NB101_102; replace BK101 := nY BK101 hb; replace HB := bY HB hb; clear hb hbox hg; have hnb7 := nP NB101_102; have hcz8 := q4 BK101.out; have hfz8 := fZ BK101.out) | ((with_reducible refine gate_callee (f := 50) rfl ?_); refine gL (some 10) Try.func50 #[.agg #[.string a0_0, .int .i64 a0_1, .slice A0_2 l0_2.length c0_2, .slice A0_3 l0_3.length c0_3], .string a1, .int .i64 a2, .bool true] ?_; (with_reducible refine (spec_l07Set.calls _ _ _ _ _ _ _ _ _ _ _ _ _ _ _ _ _ _ _ _ ?s1 ?s2 ?s3 ?s4 A4.out).mono ?_); (case s1 => exact cY HR0_2 HB); (case s2 => exact HC0_2.out); (case s3 => exact cY HR0_3 HB); (case s4 => exact HC0_3.out); rintro e w9 ⟨v106, v109, v112, rfl, ho0, ho1, ho2, hb⟩; refine ⟨_, rfl, ?_⟩; have HO107 := AM (Kd.R_lower ho0 (bZ (bX HB.out))); have HO110 := AM (Kd.R_lower ho1 (bZ (bX HB.out))); have HO113 := AM (Kd.R_lower ho2 (bZ (bX HB.out))); replace BK101 := nY BK101 hb; replace BK102 := nY BK102 hb; replace HB := bY HB hb; (try clear ho0); (try clear ho1); (try clear ho2); have hcz10 := q7 BK102.out; have hfz10 := fZ BK102.out; obtain ⟨Ao11, co11, eo11⟩ := Kd.R_slice HO107.out; subst eo11; obtain ⟨Ao12, co12, eo12⟩ := Kd.R_slice HO110.out; subst eo12; obtain ⟨Ao13, co13, eo13⟩ := Kd.R_slice HO113.out; subst eo13))
 refine bodyPost_ret (results_cell_row rfl _ _ gb102 31 #[.string t103, .int .i64 t104, .slice Ao11 t105.length co11, .slice Ao12 t108.length co12, .slice Ao13 t111.length co13, .int .i64 t114, .int .i64 t115] (0, 0) _ rfl (by refine pk7 zz0 ?_; exact kX BK102.out) Try.underlying31 rfl (by kernel_rfl)) rfl ?_; exact ⟨_, _, _, rE, by (with_reducible repeat (first | apply rA | apply rN | apply rD)); exact Rf7 HO107.out BK102.out (by decide) (fun _ hk => hk.1), by (with_reducible repeat (first | apply rA | apply rN | apply rD)); exact Rf7 HO110.out BK102.out (by decide) (fun _ hk => trivial), by (with_reducible repeat (first | apply rA | apply rN | apply rD)); exact Rf7 HO113.out BK102.out (by decide) (fun _ hk => hk.1), bX HB.out⟩

/-- A state of type 92 at block g of W; what its slices lead to came in by w0. -/
def IsS92 (w0 W : World) (g : Nat) (f0 : List Int) (f1 : Int) (f2 : Int) (f3 : Int) : Prop := ∃ A0 c0, W.heap[g]? = some (.cells #[.slice A0 f0.length c0, .int .i64 f1, .int .u64 f2, .int .i64 f3] 92 (0, 0)) ∧ w0.heap.size ≤ g ∧ Kd.C (Kd.int .u8) w0 A0 f0.length f0
theorem IsS92.grown {w0 W : World} {g : Nat} {f0 : List Int} {f1 : Int} {f2 : Int} {f3 : Int} {W1 : World} {row : Option Nat} (h : IsS92 w0 W g f0 f1 f2 f3) (hw : W.grownBy W1 row) (hne : some g ≠ row) : IsS92 w0 W1 g f0 f1 f2 f3 := by
  obtain ⟨A0, c0, hb, hg, hr0⟩ := h; exact ⟨A0, c0, blk_grown hb hw hne, hg, hr0⟩
theorem IsS92.own_neN {w0 W : World} {g : Nat} {f0 : List Int} {f1 : Int} {f2 : Int} {f3 : Int} {α : Type} {d : Kd α} {e : Nat} {base : Nat} {ok : Nat → Prop} {v : Value} {xs : List α} (h : IsS92 w0 W g f0 f1 f2 f3) (ho : Kd.N d e W base ok v xs) (ht : e ≠ 92) : some g ≠ v.ownBlock := by
  obtain ⟨A0, c0, hb, hg, hr0⟩ := h; exact Kd.N_ne ho hb ht
theorem IsS92.fresh {w0 W : World} {g : Nat} {f0 : List Int} {f1 : Int} {f2 : Int} {f3 : Int} (h : IsS92 w0 W g f0 f1 f2 f3) : ∀ k, W.heap.size ≤ k → k ≠ g := by
  obtain ⟨A0, c0, hb, hg, hr0⟩ := h; exact Kd.freshB hb
theorem IsS92.kept {w0 W : World} {g : Nat} {f0 : List Int} {f1 : Int} {f2 : Int} {f3 : Int} {W1 : World} {S : Nat → Prop} (h : IsS92 w0 W g f0 f1 f2 f3) (hk : Kept W W1 S) (hne : ¬ S g) : IsS92 w0 W1 g f0 f1 f2 f3 := by
  obtain ⟨A0, c0, hb, hg, hr0⟩ := h; exact ⟨A0, c0, blk_kept hb hk hne, hg, hr0⟩
theorem IsS92.below {w0 W : World} {g : Nat} {f0 : List Int} {f1 : Int} {f2 : Int} {f3 : Int} {W1 : World} (h : IsS92 w0 W g f0 f1 f2 f3) (hw : Below W.heap.size W W1) : IsS92 w0 W1 g f0 f1 f2 f3 := h.grown (grown_of_below hw none) (by simp)
theorem IsS92.alloc {w0 W : World} {g : Nat} {f0 : List Int} {f1 : Int} {f2 : Int} {f3 : Int} (h : IsS92 w0 W g f0 f1 f2 f3) (o : Obj) : IsS92 w0 (W.alloc o) g f0 f1 f2 f3 := h.below (bA (Below.refl _ _) o)
theorem IsS92.drewN {w0 W : World} {g : Nat} {f0 : List Int} {f1 : Int} {f2 : Int} {f3 : Int} (h : IsS92 w0 W g f0 f1 f2 f3) (m : Nat) : IsS92 w0 (W.drewN m) g f0 f1 f2 f3 := h
theorem IsS92.drew {w0 W : World} {g : Nat} {f0 : List Int} {f1 : Int} {f2 : Int} {f3 : Int} (h : IsS92 w0 W g f0 f1 f2 f3) : IsS92 w0 W.drew g f0 f1 f2 f3 := h
theorem IsS92.at_ {w0 W : World} {g : Nat} {f0 : List Int} {f1 : Int} {f2 : Int} {f3 : Int} {w' : World} {m : Nat} (hq : W.drewN m = w') (h : IsS92 w0 W g f0 f1 f2 f3) : IsS92 w0 w' g f0 f1 f2 f3 := by subst hq; exact IsS92.drewN h m
theorem IsS92.apart {w0 W : World} {g : Nat} {f0 : List Int} {f1 : Int} {f2 : Int} {f3 : Int} {α : Type} {d : Kd α} {e : Nat} {base : Nat} {ok : Nat → Prop} {v : Value} {xs : List α} (h : IsS92 w0 W g f0 f1 f2 f3) (ho : d.R e W base ok v xs) (ht : ∀ q, q ∈ e :: d.E → q ≠ 92) : d.R e W base (fun k => ok k ∧ k ≠ g) v xs := by
  obtain ⟨A0, c0, hb, hg, hr0⟩ := h; exact Kd.R_types ho hb ht
theorem IsS92.aR {w0 W : World} {g : Nat} {f0 : List Int} {f1 : Int} {f2 : Int} {f3 : Int} {α : Type} {d : Kd α} {e : Nat} {base : Nat} {ok : Nat → Prop} {v : Value} {xs : List α} {w_ w1_ : World} (h : IsS92 w0 W g f0 f1 f2 f3) (ho : Aside0 (d.R e w_ base ok v xs)) (hk : KeepBut W w1_ g none) (ht : ∀ q, q ∈ e :: d.E → q ≠ 92 := by decide) (f : d.R e w_ base ok v xs → d.R e W base ok v xs := by intro h_; (with_reducible repeat (first | apply rA | apply rN | apply rD)); exact h_) : Aside0 (d.R e w1_ base ok v xs) := ⟨Kd.R_mono (Kd.R_keep (h.apart (f ho.out) ht) hk (fun _ h => h.2)) (fun _ h => h.1)⟩
theorem IsS92.own_ne {w0 W : World} {g : Nat} {f0 : List Int} {f1 : Int} {f2 : Int} {f3 : Int} {α : Type} {d : Kd α} {e : Nat} {base : Nat} {ok : Nat → Prop} {v : Value} {xs : List α} (h : IsS92 w0 W g f0 f1 f2 f3) (ho : d.R e W base ok v xs) (ht : e ≠ 92) : some g ≠ v.ownBlock := by
  obtain ⟨A0, c0, hb, hg, hr0⟩ := h; exact Kd.R_ne ho hb ht
theorem IsS92.apartQ {w0 W : World} {g : Nat} {f0 : List Int} {f1 : Int} {f2 : Int} {f3 : Int} {α : Type} {d : Kd α} {e : Nat} {base : Nat} {ok : Nat → Prop} {v : Value} {xs : List α} (h : IsS92 w0 W g f0 f1 f2 f3) (ho : d.Q e W base ok v xs) (ht : ∀ q, q ∈ e :: d.E → q ≠ 92) : d.Q e W base (fun k => ok k ∧ k ≠ g) v xs := by
  obtain ⟨A0, c0, hb, hg, hr0⟩ := h; exact Kd.Q_types ho hb ht
theorem IsS92.aQ {w0 W : World} {g : Nat} {f0 : List Int} {f1 : Int} {f2 : Int} {f3 : Int} {α : Type} {d : Kd α} {e : Nat} {base : Nat} {ok : Nat → Prop} {v : Value} {xs : List α} {w_ w1_ : World} (h : IsS92 w0 W g f0 f1 f2 f3) (ho : Aside0 (d.Q e w_ base ok v xs)) (hk : KeepBut W w1_ g none) (ht : ∀ q, q ∈ e :: d.E → q ≠ 92 := by decide) (f : d.Q e w_ base ok v xs → d.Q e W base ok v xs := by intro h_; (with_reducible repeat (first | apply Kd.Q_alloc | apply Kd.Q_drewN | apply Kd.Q_drew)); exact h_) : Aside0 (d.Q e w1_ base ok v xs) := ⟨Kd.Q_mono (Kd.Q_keep (h.apartQ (f ho.out) ht) hk (fun _ h => h.2)) (fun _ h => h.1)⟩
theorem IsS92.own_neQ {w0 W : World} {g : Nat} {f0 : List Int} {f1 : Int} {f2 : Int} {f3 : Int} {α : Type} {d : Kd α} {e : Nat} {base : Nat} {ok : Nat → Prop} {v : Value} {xs : List α} (h : IsS92 w0 W g f0 f1 f2 f3) (ho : d.Q e W base ok v xs) (ht : e ≠ 92) : some g ≠ v.ownBlock := by
  obtain ⟨A0, c0, hb, hg, hr0⟩ := h; exact Kd.Q_ne ho hb ht
theorem IsS92.apartS {w0 W : World} {g : Nat} {f0 : List Int} {f1 : Int} {f2 : Int} {f3 : Int} {α : Type} {d : Kd α} {e : Nat} {base : Nat} {ok : Nat → Prop} {v : Value} {xs : List α} (h : IsS92 w0 W g f0 f1 f2 f3) (ho : d.S e W base ok v xs) (ht : ∀ q, q ∈ e :: d.E → q ≠ 92) : d.S e W base (fun k => ok k ∧ k ≠ g) v xs := by
  obtain ⟨A0, c0, hb, hg, hr0⟩ := h; exact Kd.S_types ho hb ht
theorem IsS92.own_neS {w0 W : World} {g : Nat} {f0 : List Int} {f1 : Int} {f2 : Int} {f3 : Int} {α : Type} {d : Kd α} {e : Nat} {base : Nat} {ok : Nat → Prop} {v : Value} {xs : List α} (h : IsS92 w0 W g f0 f1 f2 f3) (ho : d.S e W base ok v xs) (ht : e ≠ 92) : some g ≠ v.ownBlock := by
  obtain ⟨A0, c0, hb, hg, hr0⟩ := h; exact Kd.S_ne ho hb ht
theorem IsS92.lt {w0 W : World} {g : Nat} {f0 : List Int} {f1 : Int} {f2 : Int} {f3 : Int} (h : IsS92 w0 W g f0 f1 f2 f3) : g < W.heap.size := by
  obtain ⟨A0, c0, hb, hg, hr0⟩ := h; exact blk_lt hb
theorem IsS92.ge {w0 W : World} {g : Nat} {f0 : List Int} {f1 : Int} {f2 : Int} {f3 : Int} (h : IsS92 w0 W g f0 f1 f2 f3) : w0.heap.size ≤ g := by
  obtain ⟨A0, c0, hb, hg, hr0⟩ := h; exact hg
theorem IsS92.ne_blk {w0 W : World} {g : Nat} {f0 : List Int} {f1 : Int} {f2 : Int} {f3 : Int} {a : Nat} {cs : Array Value} {t : TypeId} {fr : Nat × Nat} (h : IsS92 w0 W g f0 f1 f2 f3) (hb2 : W.heap[a]? = some (.cells cs t fr)) (ht : t ≠ 92) : g ≠ a := by
  obtain ⟨A0, c0, hb, hg, hr0⟩ := h; rintro rfl; rw [hb] at hb2
  injection hb2 with hb2
  injection hb2 with _ ht2
  exact ht ht2.symm
theorem IsS92.far {w0 W : World} {g : Nat} {f0 : List Int} {f1 : Int} {f2 : Int} {f3 : Int} {p : Addr} (h : IsS92 w0 W g f0 f1 f2 f3) (hne : g ≠ p.block) (u : Value) : IsS92 w0 (W.setCell p u) g f0 f1 f2 f3 := by
  obtain ⟨A0, c0, hb, hg, hr0⟩ := h; exact ⟨A0, c0, blk_far hb hne u, hg, hr0⟩
theorem cellS92_0 {W : World} {g : Nat} {A0 : Option Addr} {c0 : Nat} {f0 : List Int} {f1 : Int} {f2 : Int} {f3 : Int} (h : W.heap[g]? = some (.cells #[.slice A0 f0.length c0, .int .i64 f1, .int .u64 f2, .int .i64 f3] 92 (0, 0))) : W.cell? ⟨g, 0, none⟩ = some (.slice A0 f0.length c0) := (kC h 0).trans rfl
theorem cellS92_1 {W : World} {g : Nat} {A0 : Option Addr} {c0 : Nat} {f0 : List Int} {f1 : Int} {f2 : Int} {f3 : Int} (h : W.heap[g]? = some (.cells #[.slice A0 f0.length c0, .int .i64 f1, .int .u64 f2, .int .i64 f3] 92 (0, 0))) : W.cell? ⟨g, 1, none⟩ = some (.int .i64 f1) := (kC h 1).trans rfl
theorem IsS92.set_1 {w0 W : World} {g : Nat} {f0 : List Int} {f1 : Int} {f2 : Int} {f3 : Int} (h : IsS92 w0 W g f0 f1 f2 f3) (x : Int) : IsS92 w0 (W.setCell ⟨g, 1, none⟩ (.int .i64 x)) g f0 x f2 f3 := by
  obtain ⟨A0, c0, hb, hg, hr0⟩ := h; exact ⟨A0, c0, by simpa using blk_set hb 1 (.int .i64 x), hg, hr0⟩
theorem cellS92_2 {W : World} {g : Nat} {A0 : Option Addr} {c0 : Nat} {f0 : List Int} {f1 : Int} {f2 : Int} {f3 : Int} (h : W.heap[g]? = some (.cells #[.slice A0 f0.length c0, .int .i64 f1, .int .u64 f2, .int .i64 f3] 92 (0, 0))) : W.cell? ⟨g, 2, none⟩ = some (.int .u64 f2) := (kC h 2).trans rfl
theorem IsS92.set_2 {w0 W : World} {g : Nat} {f0 : List Int} {f1 : Int} {f2 : Int} {f3 : Int} (h : IsS92 w0 W g f0 f1 f2 f3) (x : Int) : IsS92 w0 (W.setCell ⟨g, 2, none⟩ (.int .u64 x)) g f0 f1 x f3 := by
  obtain ⟨A0, c0, hb, hg, hr0⟩ := h; exact ⟨A0, c0, by simpa using blk_set hb 2 (.int .u64 x), hg, hr0⟩
theorem cellS92_3 {W : World} {g : Nat} {A0 : Option Addr} {c0 : Nat} {f0 : List Int} {f1 : Int} {f2 : Int} {f3 : Int} (h : W.heap[g]? = some (.cells #[.slice A0 f0.length c0, .int .i64 f1, .int .u64 f2, .int .i64 f3] 92 (0, 0))) : W.cell? ⟨g, 3, none⟩ = some (.int .i64 f3) := (kC h 3).trans rfl
theorem IsS92.set_3 {w0 W : World} {g : Nat} {f0 : List Int} {f1 : Int} {f2 : Int} {f3 : Int} (h : IsS92 w0 W g f0 f1 f2 f3) (x : Int) : IsS92 w0 (W.setCell ⟨g, 3, none⟩ (.int .i64 x)) g f0 f1 f2 x := by
  obtain ⟨A0, c0, hb, hg, hr0⟩ := h; exact ⟨A0, c0, by simpa using blk_set hb 3 (.int .i64 x), hg, hr0⟩
theorem IsS92.new (w0 W : World) (A0 : Option Addr) (c0 : Nat) (f0 : List Int) (f1 : Int) (f2 : Int) (f3 : Int) (hB : Below w0.heap.size w0 W) (hr0 : Kd.C (Kd.int .u8) w0 A0 f0.length f0) : IsS92 w0 (W.alloc (.cells #[.slice A0 f0.length c0, .int .i64 f1, .int .u64 f2, .int .i64 f3] 92)) W.heap.size f0 f1 f2 f3 := ⟨A0, c0, by simpa using heap_alloc_new W _, hB.size, hr0⟩

/-! ### spec_l01Source: function 52 -/
abbrev spec_l01Source.b0 : Array Bool := #[true, true, true, true, false, true, false, false, false, false, false, false, false, false, false]
abbrev spec_l01Source.b1 : Array Bool := #[true, true, true, true, false, true, true, false, false, false, false, false, false, false, false]
abbrev spec_l01Source.b2 : Array Bool := #[true, true, true, true, false, true, true, true, false, false, false, false, false, false, false]
def spec_l01Source.l0 : Nat → List Int → Int → List Int → Int → Int → Int → Option (List Int × Int × Int × Int)
  | 0, _, _, _, _, _, _ => none
  | k + 1, x0, x4, x102000, x102001, x102002, x102003 => if x4 < (x0.length : Int) then (if x4 < 64 then (if 0 ≤ x4 then (spec_l01Source.l0 k x0 (wrap64 (x4 + 1)) x102000 x102001 (IntKind.u64.wrap ((Go.bits .xor .u64 x102002 (IntKind.u64.wrap (rd x0 x4))) * 1099511628211)) x102003) else (none)) else (if (wrap64 ((x0.length : Int) / 20)) > 12 then (some (x102000, x102001, x102002, 12)) else (some (x102000, x102001, x102002, wrap64 ((x0.length : Int) / 20))))) else (if (wrap64 ((x0.length : Int) / 20)) > 12 then (some (x102000, x102001, x102002, 12)) else (some (x102000, x102001, x102002, wrap64 ((x0.length : Int) / 20))))
def spec_l01Source.f (k : Nat) (l0 : List Int) : Option (List Int × Int × Int × Int) := spec_l01Source.l0 k l0 0 l0 0 88172645463325252 0
def spec_l01Source.T5 : Bool × List (List Nat × List Nat) := (true, [([], []), ([], []), ([1], [1]), ([2], [2]), ([3], [3]), ([], []), ([], []), ([5, 6], [5, 6]), ([7], [7]), ([8], [8]), ([4, 9], [4, 9]), ([10], [10]), ([0, 0, 1, 2, 3, 4, 5, 6, 7, 8, 9, 10, 11], [0]), ([12, 0, 1, 2, 3, 4, 5, 6, 7, 8, 9, 10, 11], [12]), ([13, 11, 0, 1, 2, 3, 4, 5, 6, 7, 8, 9, 10, 11], [11, 13])])
def spec_l01Source.B5 : List Nat := [0, 0, 2, 6, 14, 0, 0, 96, 224, 480, 1022, 2046, 4095, 8191, 16383]
theorem spec_l01Source.tab5 : rtab .any (opsOf Try.f52 5) = spec_l01Source.T5 := by kernel_rfl
theorem spec_l01Source.bits5 : waitsOk spec_l01Source.T5.2 spec_l01Source.B5 = true := by kernel_rfl
set_option maxHeartbeats 60000000 in
set_option maxRecDepth 100000 in
theorem spec_l01Source.calls (k : Nat) (A0 : Option Addr) (c0 : Nat) (l0 : List Int) (r1 : List Int) (r2 : Int) (r3 : Int) (r4 : Int) (w0 w : World) (hB : Below w0.heap.size w0 w) (hr0 : Kd.C (Kd.int .u8) w0 A0 l0.length l0) (hc0 : l0.length ≤ c0) (h : spec_l01Source.f k l0 = some (r1, r2, r3, r4)) :
    Calls Try.prog 52 #[.slice A0 l0.length c0] w fun e w' => ∃ g_ : Nat, e = .returned (.pointer (some ⟨g_, 0, none⟩)) ∧ IsS92 w0 w' g_ r1 r2 r3 r4 ∧ Below w0.heap.size w0 w' ∧ Below w.heap.size w w' := by
 have hu92 := Try.underlying92; have HR0 := AM hr0; have HC0 := AM hc0; clear hr0 hc0; have HBW := AM (Below.refl w.heap.size w); have HW0 := AM hB.size; have HB := AM hB; clear hB; have H : (spec_l01Source.l0 k l0 0 l0 0 88172645463325252 0) = some (r1, r2, r3, r4) := h; clear h; have H' := AM H; clear H; go_enter Try.func52, Try.ntmps52
 go_wp2_with (first | (refine bE (N := 7) (cs := #[.slice A0 l0.length c0, .int .i64 0, .int .u64 88172645463325252, .int .i64 0]) (t := 92) ?_; intro gb101 hg w2 hbox hb; have _ := AM (below_step HBW.out hb); have _ := bY HB hb; have _ := AM (hbox); have _ := AM ((by rw [hg]; exact (bZ (by repeat (first | (with_reducible first | exact HBW.out | apply bA | apply bN | apply bD) | exact HBW.out))) : w.heap.size ≤ gb101)); have _ := AM ((Nat.le_trans HW0.out (by rw [hg]; exact (bZ (by repeat (first | (with_reducible first | exact HBW.out | apply bA | apply bN | apply bD) | exact HBW.out))) : w.heap.size ≤ gb101) : w0.heap.size ≤ gb101)); clear HBW HB; rename_i HBW HB BK101 GW101 GE101; clear hb hbox hg))
 go_loopg [4] k (fun kq v4 w' => ∃ (x4_1 : Int) (x102002_1 : Int), v4 = .int .i64 x4_1 ∧ Aside0 (spec_l01Source.l0 kq l0 x4_1 l0 0 x102002_1 0 = some (r1, r2, r3, r4)) ∧ Aside0 (kq ≤ k) ∧ Aside0 (w'.heap[gb101]? = some (.cells #[(.slice A0 l0.length c0), .int .i64 0, .int .u64 x102002_1, .int .i64 0] 92 (0, 0))) ∧ Aside0 (Below w0.heap.size w0 w') ∧ Aside0 (Below w.heap.size w w'))
 case atStart => exact ⟨(0), (88172645463325252), rR, H', ⟨Nat.le_refl _⟩, ⟨kX BK101.out⟩, ⟨bX HB.out⟩, ⟨by repeat (first | (with_reducible first | exact HBW.out | apply bA | apply bN | apply bD | refine bS ?_ GW101.out) | exact HBW.out)⟩⟩
 case round =>
  clear H'; try clear p2
  obtain ⟨x4_1, x102002_1, rfl, HA, HK1, BK101, HB, HBW⟩ := hrel
  cases gk with
  | zero => exact absurd HA.out (by simp [spec_l01Source.l0])
  | succ k1 =>
   have H := HA.out; clear HA; simp only [spec_l01Source.l0] at H
   by_cases c3 : x4_1 < (l0.length : Int)
   ·
    rw [if_pos c3] at H; have c3b0 := dY c3; clear c3; by_cases c4 : x4_1 < 64
    ·
     rw [if_pos c4] at H; have c4b0 := dY c4; clear c4; by_cases c5 : 0 ≤ x4_1
     ·
      rw [if_pos c5] at H; have c5b0 := dY c5; clear c5; have H' := AM H; clear H; try go_wp2
      replace BK101 := kDY BK101; replace HB := bDY HB; obtain ⟨p102, q102, ad102, e102, hx102_0⟩ := pQ (Kd.at_int HR0.out x4_1); have hw102_0 := hx102_0; cases e102; replace hx102_0 := pB HB.out hx102_0; refine start_ (n := 15) (S := fun w' => w'.cell? ⟨gb101, 0, none⟩ = some (.slice (some ad102) l0.length c0) ∧ w'.cell? ⟨gb101, 1, none⟩ = some (.int .i64 0) ∧ w'.cell? ⟨gb101, 2, none⟩ = some (.int .u64 x102002_1) ∧ w'.cell? ⟨gb101, 3, none⟩ = some (.int .i64 0) ∧ w'.cell? (ad102.add (x4_1).toNat) = some (.int .u8 (rd l0 x4_1))) (ds := [14]) (upTo 0 15) (by kernel_rfl) rfl rfl ⟨hC BK101.out 0, hC BK101.out 1, hC BK101.out 2, hC BK101.out 3, (pB HB.out hw102_0)⟩ (fun hHeld => ?_); refine with_tabW spec_l01Source.tab5 spec_l01Source.bits5 (fun HT_ HW_ => ?_); have HBW := AM (bD HBW.out : Below w.heap.size w wr.drew); generalize wr.drew = w6 at BK101 HB HBW hx102_0 hHeld ⊢; refine pF 0 1 15 18 ?_; refine pF 1 2 15 19 ?_; refine pF 2 3 15 20 ?_; refine pF 3 4 15 21 ?_; refine pF2 5 23 spec_l01Source.b0 ?_; refine pF2 6 24 spec_l01Source.b1 ?_; refine pF2 7 25 spec_l01Source.b2 ?_; refine pT2 4 22 (upTo 8 15) ?_ hHeld; refine pT2 8 26 (upTo 9 15) ?_ hHeld; refine pF 9 10 15 27 ?_; refine pF 10 11 15 28 ?_; refine pF 11 12 15 29 ?_; refine pF 12 13 15 30 ?_; refine pF 13 14 15 31 ?_; refine last_ (i := 14) (N := none) (upTo 15 15) rfl rfl (one_of HT_.out (by kernel_rfl)) (by decide) (fun K hK => ?_); have hs7 : w6.cell? ⟨gb101, 2, none⟩ = some (.int .u64 x102002_1) := hC BK101.out 2; have hfs7 := fZ BK101.out; refine skip_ (w1 := ?_) (by rfl) rfl ?_ ?_; rotate_left
      ·
       go_simp
       rfl
      refine hK.out _ _ ?_; clear hK K; refine done_ (done_of HT_.out (by kernel_rfl)) ?_; try go_wp2
      go_roundg k1
      case measure => have := HK1.out; omega
      case rel => exact ⟨(wrap64 (x4_1 + 1)), (IntKind.u64.wrap ((Go.bits .xor .u64 x102002_1 (IntKind.u64.wrap (rd l0 x4_1))) * 1099511628211)), rR, H', ⟨by have := HK1.out; omega⟩, ⟨by refine kP (cs := #[.slice (some ad102) l0.length c0, .int .i64 0, .int .u64 x102002_1, .int .i64 0]) 2 ?_; exact kX BK101.out⟩, ⟨bX HB.out⟩, ⟨by repeat (first | (with_reducible first | exact HBW.out | apply bA | apply bN | apply bD | refine bS ?_ GW101.out) | exact HBW.out)⟩⟩
     rw [if_neg c5] at H; exact absurd H (by simp)
    rw [if_neg c4] at H; have c4b0 := dN c4; clear c4; by_cases c8 : (wrap64 ((l0.length : Int) / 20)) > 12
    ·
     rw [if_pos c8] at H; have c8b0 : decide (12 < (wrap64 ((l0.length : Int) / 20))) = true := dY c8; clear c8; simp only [Option.some.injEq, Prod.mk.injEq] at H
     obtain ⟨rfl, rfl, rfl, rfl⟩ := H; have hcz9 := q4 BK101.out; have hfz9 := fZ BK101.out; go_wp2
     go_ret
     exact ⟨_, rfl, (show IsS92 w0 _ gb101 l0 0 x102002_1 12 from ⟨_, _, by refine kP (cs := #[.slice A0 l0.length c0, .int .i64 0, .int .u64 x102002_1, .int .i64 (wrap64 ((l0.length : Int) / 20))]) 3 ?_; refine kP (cs := #[.slice A0 l0.length c0, .int .i64 0, .int .u64 x102002_1, .int .i64 0]) 3 ?_; exact kX BK101.out, GE101.out, HR0.out⟩), bX HB.out, by repeat (first | (with_reducible first | exact HBW.out | apply bA | apply bN | apply bD | refine bS ?_ GW101.out) | exact HBW.out)⟩
    rw [if_neg c8] at H; have c8b0 : decide (12 < (wrap64 ((l0.length : Int) / 20))) = false := dN c8; clear c8; simp only [Option.some.injEq, Prod.mk.injEq] at H
    obtain ⟨rfl, rfl, rfl, rfl⟩ := H; have hcz10 := q4 BK101.out; have hfz10 := fZ BK101.out; go_wp2
    go_ret
    exact ⟨_, rfl, (show IsS92 w0 _ gb101 l0 0 x102002_1 (wrap64 ((l0.length : Int) / 20)) from ⟨_, _, by refine kP (cs := #[.slice A0 l0.length c0, .int .i64 0, .int .u64 x102002_1, .int .i64 0]) 3 ?_; exact kX BK101.out, GE101.out, HR0.out⟩), bX HB.out, by repeat (first | (with_reducible first | exact HBW.out | apply bA | apply bN | apply bD | refine bS ?_ GW101.out) | exact HBW.out)⟩
   rw [if_neg c3] at H; have c3b0 := dN c3; clear c3; by_cases c11 : (wrap64 ((l0.length : Int) / 20)) > 12
   ·
    rw [if_pos c11] at H; have c11b0 : decide (12 < (wrap64 ((l0.length : Int) / 20))) = true := dY c11; clear c11; simp only [Option.some.injEq, Prod.mk.injEq] at H
    obtain ⟨rfl, rfl, rfl, rfl⟩ := H; have hcz12 := q4 BK101.out; have hfz12 := fZ BK101.out; go_wp2
    go_ret
    exact ⟨_, rfl, (show IsS92 w0 _ gb101 l0 0 x102002_1 12 from ⟨_, _, by refine kP (cs := #[.slice A0 l0.length c0, .int .i64 0, .int .u64 x102002_1, .int .i64 (wrap64 ((l0.length : Int) / 20))]) 3 ?_; refine kP (cs := #[.slice A0 l0.length c0, .int .i64 0, .int .u64 x102002_1, .int .i64 0]) 3 ?_; exact kX BK101.out, GE101.out, HR0.out⟩), bX HB.out, by repeat (first | (with_reducible first | exact HBW.out | apply bA | apply bN | apply bD | refine bS ?_ GW101.out) | exact HBW.out)⟩
   rw [if_neg c11] at H; have c11b0 : decide (12 < (wrap64 ((l0.length : Int) / 20))) = false := dN c11; clear c11; simp only [Option.some.injEq, Prod.mk.injEq] at H
   obtain ⟨rfl, rfl, rfl, rfl⟩ := H; have hcz13 := q4 BK101.out; have hfz13 := fZ BK101.out; go_wp2
   go_ret
   exact ⟨_, rfl, (show IsS92 w0 _ gb101 l0 0 x102002_1 (wrap64 ((l0.length : Int) / 20)) from ⟨_, _, by refine kP (cs := #[.slice A0 l0.length c0, .int .i64 0, .int .u64 x102002_1, .int .i64 0]) 3 ?_; exact kX BK101.out, GE101.out, HR0.out⟩), bX HB.out, by repeat (first | (with_reducible first | exact HBW.out | apply bA | apply bN | apply bD | refine bS ?_ GW101.out) | exact HBW.out)⟩

/-! ### spec_l01Src_n: function 56 (by hand) -/

theorem world_inv {P : Program} {c : Code} {K : Exit → Act → World → Prop} {a : Act} {w : World} (Inv : World → Prop) (h : Inv w) (k : ∀ W, Inv W → Code.wp P c K a W) : Code.wp P c K a w := k w h
def spec_l01Src_n.f (s0 : List Int) (s1 s2 s3 a1 : Int) : Option (Int × Int × Int × Int) :=
  if a1 ≤ 1 then some (0, s1, s2, s3) else if a1 ≤ 9223372036854775807 then
    (if s1 < (s0.length : Int) then (if 0 ≤ s1 then some (wrap64 ((IntKind.u64.wrap (IntKind.u64.wrap (rd s0 s1) + (Go.bits .xor .u64 (Go.bits .xor .u64 (Go.bits .xor .u64 s2 (IntKind.u64.wrap (s2 * 8192))) ((Go.bits .xor .u64 s2 (IntKind.u64.wrap (s2 * 8192))) / 128)) (IntKind.u64.wrap ((Go.bits .xor .u64 (Go.bits .xor .u64 s2 (IntKind.u64.wrap (s2 * 8192))) ((Go.bits .xor .u64 s2 (IntKind.u64.wrap (s2 * 8192))) / 128)) * 131072))) / 1048576)).tmod (IntKind.u64.wrap a1)), wrap64 (s1 + 1), Go.bits .xor .u64 (Go.bits .xor .u64 (Go.bits .xor .u64 s2 (IntKind.u64.wrap (s2 * 8192))) ((Go.bits .xor .u64 s2 (IntKind.u64.wrap (s2 * 8192))) / 128)) (IntKind.u64.wrap ((Go.bits .xor .u64 (Go.bits .xor .u64 s2 (IntKind.u64.wrap (s2 * 8192))) ((Go.bits .xor .u64 s2 (IntKind.u64.wrap (s2 * 8192))) / 128)) * 131072)), s3) else none)
     else some (wrap64 ((IntKind.u64.wrap ((Go.bits .xor .u64 (Go.bits .xor .u64 (Go.bits .xor .u64 s2 (IntKind.u64.wrap (s2 * 8192))) ((Go.bits .xor .u64 s2 (IntKind.u64.wrap (s2 * 8192))) / 128)) (IntKind.u64.wrap ((Go.bits .xor .u64 (Go.bits .xor .u64 s2 (IntKind.u64.wrap (s2 * 8192))) ((Go.bits .xor .u64 s2 (IntKind.u64.wrap (s2 * 8192))) / 128)) * 131072))) / 1048576)).tmod (IntKind.u64.wrap a1)), s1, Go.bits .xor .u64 (Go.bits .xor .u64 (Go.bits .xor .u64 s2 (IntKind.u64.wrap (s2 * 8192))) ((Go.bits .xor .u64 s2 (IntKind.u64.wrap (s2 * 8192))) / 128)) (IntKind.u64.wrap ((Go.bits .xor .u64 (Go.bits .xor .u64 s2 (IntKind.u64.wrap (s2 * 8192))) ((Go.bits .xor .u64 s2 (IntKind.u64.wrap (s2 * 8192))) / 128)) * 131072)), s3)) else none
set_option maxHeartbeats 4000000 in
set_option maxRecDepth 100000 in
theorem spec_l01Src_n.calls (g : Nat) (s0_0 : List Int) (s0_1 : Int) (s0_2 : Int) (s0_3 : Int) (a1 : Int) (r1 : Int) (r2 : Int) (r3 : Int) (r4 : Int) (w0 w : World) (hI : IsS92 w0 w g s0_0 s0_1 s0_2 s0_3) (hB : Below w0.heap.size w0 w) (h : spec_l01Src_n.f s0_0 s0_1 s0_2 s0_3 a1 = some (r1, r2, r3, r4)) :
    Calls Try.prog 56 #[.pointer (some ⟨g, 0, none⟩), .int .i64 a1] w fun e w' => e = .returned (.int .i64 r1) ∧ IsS92 w0 w' g s0_0 r2 r3 r4 ∧ Below w0.heap.size w0 w' ∧ KeepBut w w' g none := by
  have HI := Aside0.mk hI; have HK := Aside0.mk (KeepBut.refl w g none); obtain ⟨A0, c0, HG, hg, HS⟩ := hI; have HB := Aside0.mk hB; have HR := Aside0.mk HS; have HL := Aside0.mk hg; have hc0 := cellS92_0 HG; have hc1 := cellS92_1 HG; have hc2 := cellS92_2 HG; have hc3 := cellS92_3 HG; have hf1 := blk_frozen HG 1; have hf2 := blk_frozen HG 2; have HH := Aside0.mk h; clear hB HS hg HG h; by_cases c1 : a1 ≤ 1
  · have c1b : decide (a1 ≤ 1) = true := dY c1
    have HH2 : Aside0 ((0, s0_1, s0_2, s0_3) = (r1, r2, r3, r4)) := ⟨by have := HH.out; unfold spec_l01Src_n.f at this; rw [if_pos c1] at this; exact Option.some.inj this⟩; clear c1; go_enter Try.func56, Try.ntmps56
    go_wp2
    go_ret
    obtain ⟨rfl, rfl, rfl, rfl⟩ : 0 = r1 ∧ s0_1 = r2 ∧ s0_2 = r3 ∧ s0_3 = r4 := by simpa using HH2.out
    exact ⟨rfl, HI.out, HB.out, HK.out⟩
  · have c1b : decide (a1 ≤ 1) = false := dN c1
    by_cases c5 : a1 ≤ 9223372036854775807
    · have C1 : Aside0 (2 ≤ a1 ∧ a1 ≤ 9223372036854775807) := ⟨by omega⟩
      have hz : IntKind.u64.wrap a1 ≠ 0 := by rw [show IntKind.u64.wrap a1 = a1 % 18446744073709551616 by simp [IntKind.wrap, IntKind.signed, IntKind.bits]]; omega
      have cz : (IntKind.u64.wrap a1 == 0) = false := beq_eq_false_iff_ne.2 hz; clear c1 c5; by_cases c2 : s0_1 < (s0_0.length : Int)
      · have c2b : decide (s0_1 < (s0_0.length : Int)) = true := dY c2
        by_cases c3 : 0 ≤ s0_1
        · obtain ⟨ad, e, hx⟩ := Kd.at_int HR.out s0_1 c3 c2
          cases e
          replace hx := pB HB.out hx; have C2 := Aside0.mk c2; have C3 := Aside0.mk c3; replace c2 := eq_true c2; replace c3 := eq_true c3; go_enter Try.func56, Try.ntmps56
          go_wp2
          go_region
          go_wp2
          go_region
          go_wp2
          go_region
          go_wp2
          clear hx c2 c3; refine world_inv (fun W => IsS92 w0 W g s0_0 (wrap64 (s0_1 + 1)) (Go.bits .xor .u64 s0_2 (IntKind.u64.wrap (s0_2 * 8192))) s0_3 ∧ Below w0.heap.size w0 W ∧ KeepBut w W g none) ⟨by repeat (first | (with_reducible first | exact HI.out | apply IsS92.drewN | apply IsS92.drew | apply IsS92.set_1 | apply IsS92.set_2) | exact HI.out), by repeat (first | (with_reducible first | exact HB.out | apply pw_below_drewN | apply below_drew1 | refine below_set ?_ HL.out) | exact HB.out), by repeat (first | (with_reducible first | exact HK.out | apply KeepBut.set_ | apply keep_drewN | apply keep_drew) | exact HK.out)⟩ ?_; clear HI HB HK hc0 hc1 hc2 hc3 hf1 hf2; rintro W ⟨hI, hB, hK⟩; have HI := Aside0.mk hI; have HB := Aside0.mk hB; have HK := Aside0.mk hK; obtain ⟨A0, c0, HG, hg, HS⟩ := hI; have hc0 := cellS92_0 HG; have hc1 := cellS92_1 HG; have hc2 := cellS92_2 HG; have hc3 := cellS92_3 HG; have hf1 := blk_frozen HG 1; have hf2 := blk_frozen HG 2; clear hB hK HG hg HS; go_region
          go_wp2
          refine world_inv (fun W => IsS92 w0 W g s0_0 (wrap64 (s0_1 + 1)) (Go.bits .xor .u64 (Go.bits .xor .u64 s0_2 (IntKind.u64.wrap (s0_2 * 8192))) ((Go.bits .xor .u64 s0_2 (IntKind.u64.wrap (s0_2 * 8192))) / 128)) s0_3 ∧ Below w0.heap.size w0 W ∧ KeepBut w W g none) ⟨by repeat (first | (with_reducible first | exact HI.out | apply IsS92.drewN | apply IsS92.drew | apply IsS92.set_1 | apply IsS92.set_2) | exact HI.out), by repeat (first | (with_reducible first | exact HB.out | apply pw_below_drewN | apply below_drew1 | refine below_set ?_ HL.out) | exact HB.out), by repeat (first | (with_reducible first | exact HK.out | apply KeepBut.set_ | apply keep_drewN | apply keep_drew) | exact HK.out)⟩ ?_; clear HI HB HK hc0 hc1 hc2 hc3 hf1 hf2; rintro W ⟨hI, hB, hK⟩; have HI := Aside0.mk hI; have HB := Aside0.mk hB; have HK := Aside0.mk hK; obtain ⟨A0, c0, HG, hg, HS⟩ := hI; have hc0 := cellS92_0 HG; have hc1 := cellS92_1 HG; have hc2 := cellS92_2 HG; have hc3 := cellS92_3 HG; have hf1 := blk_frozen HG 1; have hf2 := blk_frozen HG 2; clear hB hK HG hg HS; go_region
          go_wp2
          go_ret
          have HH2 : (wrap64 ((IntKind.u64.wrap (IntKind.u64.wrap (rd s0_0 s0_1) + (Go.bits .xor .u64 (Go.bits .xor .u64 (Go.bits .xor .u64 s0_2 (IntKind.u64.wrap (s0_2 * 8192))) ((Go.bits .xor .u64 s0_2 (IntKind.u64.wrap (s0_2 * 8192))) / 128)) (IntKind.u64.wrap ((Go.bits .xor .u64 (Go.bits .xor .u64 s0_2 (IntKind.u64.wrap (s0_2 * 8192))) ((Go.bits .xor .u64 s0_2 (IntKind.u64.wrap (s0_2 * 8192))) / 128)) * 131072))) / 1048576)).tmod (IntKind.u64.wrap a1)), wrap64 (s0_1 + 1), Go.bits .xor .u64 (Go.bits .xor .u64 (Go.bits .xor .u64 s0_2 (IntKind.u64.wrap (s0_2 * 8192))) ((Go.bits .xor .u64 s0_2 (IntKind.u64.wrap (s0_2 * 8192))) / 128)) (IntKind.u64.wrap ((Go.bits .xor .u64 (Go.bits .xor .u64 s0_2 (IntKind.u64.wrap (s0_2 * 8192))) ((Go.bits .xor .u64 s0_2 (IntKind.u64.wrap (s0_2 * 8192))) / 128)) * 131072)), s0_3) = (r1, r2, r3, r4) := by have := HH.out; unfold spec_l01Src_n.f at this; rw [if_neg (by have := C1.out; omega), if_pos C1.out.2, if_pos C2.out, if_pos C3.out] at this; exact Option.some.inj this
          simp only [Prod.mk.injEq] at HH2
          obtain ⟨rfl, rfl, rfl, rfl⟩ := HH2; exact ⟨rfl, by repeat (first | (with_reducible first | exact HI.out | apply IsS92.drewN | apply IsS92.drew | apply IsS92.set_1 | apply IsS92.set_2) | exact HI.out), by repeat (first | (with_reducible first | exact HB.out | apply pw_below_drewN | apply below_drew1 | refine below_set ?_ HL.out) | exact HB.out), by repeat (first | (with_reducible first | exact HK.out | apply KeepBut.set_ | apply keep_drewN | apply keep_drew) | exact HK.out)⟩
        · exact absurd HH.out (by have h1 := C1.out; unfold spec_l01Src_n.f; rw [if_neg (by omega), if_pos h1.2, if_pos c2, if_neg c3]; simp)
      · have c2b : decide (s0_1 < (s0_0.length : Int)) = false := dN c2
        have C2 := Aside0.mk c2; clear c2; go_enter Try.func56, Try.ntmps56
        go_wp2
        go_region
        go_wp2
        go_region
        go_wp2
        refine world_inv (fun W => IsS92 w0 W g s0_0 (s0_1) (Go.bits .xor .u64 s0_2 (IntKind.u64.wrap (s0_2 * 8192))) s0_3 ∧ Below w0.heap.size w0 W ∧ KeepBut w W g none) ⟨by repeat (first | (with_reducible first | exact HI.out | apply IsS92.drewN | apply IsS92.drew | apply IsS92.set_1 | apply IsS92.set_2) | exact HI.out), by repeat (first | (with_reducible first | exact HB.out | apply pw_below_drewN | apply below_drew1 | refine below_set ?_ HL.out) | exact HB.out), by repeat (first | (with_reducible first | exact HK.out | apply KeepBut.set_ | apply keep_drewN | apply keep_drew) | exact HK.out)⟩ ?_; clear HI HB HK hc0 hc1 hc2 hc3 hf1 hf2; rintro W ⟨hI, hB, hK⟩; have HI := Aside0.mk hI; have HB := Aside0.mk hB; have HK := Aside0.mk hK; obtain ⟨A0, c0, HG, hg, HS⟩ := hI; have hc0 := cellS92_0 HG; have hc1 := cellS92_1 HG; have hc2 := cellS92_2 HG; have hc3 := cellS92_3 HG; have hf1 := blk_frozen HG 1; have hf2 := blk_frozen HG 2; clear hB hK HG hg HS; go_region
        go_wp2
        refine world_inv (fun W => IsS92 w0 W g s0_0 (s0_1) (Go.bits .xor .u64 (Go.bits .xor .u64 s0_2 (IntKind.u64.wrap (s0_2 * 8192))) ((Go.bits .xor .u64 s0_2 (IntKind.u64.wrap (s0_2 * 8192))) / 128)) s0_3 ∧ Below w0.heap.size w0 W ∧ KeepBut w W g none) ⟨by repeat (first | (with_reducible first | exact HI.out | apply IsS92.drewN | apply IsS92.drew | apply IsS92.set_1 | apply IsS92.set_2) | exact HI.out), by repeat (first | (with_reducible first | exact HB.out | apply pw_below_drewN | apply below_drew1 | refine below_set ?_ HL.out) | exact HB.out), by repeat (first | (with_reducible first | exact HK.out | apply KeepBut.set_ | apply keep_drewN | apply keep_drew) | exact HK.out)⟩ ?_; clear HI HB HK hc0 hc1 hc2 hc3 hf1 hf2; rintro W ⟨hI, hB, hK⟩; have HI := Aside0.mk hI; have HB := Aside0.mk hB; have HK := Aside0.mk hK; obtain ⟨A0, c0, HG, hg, HS⟩ := hI; have hc0 := cellS92_0 HG; have hc1 := cellS92_1 HG; have hc2 := cellS92_2 HG; have hc3 := cellS92_3 HG; have hf1 := blk_frozen HG 1; have hf2 := blk_frozen HG 2; clear hB hK HG hg HS; go_region
        go_wp2
        go_ret
        have HH2 : (wrap64 ((IntKind.u64.wrap ((Go.bits .xor .u64 (Go.bits .xor .u64 (Go.bits .xor .u64 s0_2 (IntKind.u64.wrap (s0_2 * 8192))) ((Go.bits .xor .u64 s0_2 (IntKind.u64.wrap (s0_2 * 8192))) / 128)) (IntKind.u64.wrap ((Go.bits .xor .u64 (Go.bits .xor .u64 s0_2 (IntKind.u64.wrap (s0_2 * 8192))) ((Go.bits .xor .u64 s0_2 (IntKind.u64.wrap (s0_2 * 8192))) / 128)) * 131072))) / 1048576)).tmod (IntKind.u64.wrap a1)), s0_1, Go.bits .xor .u64 (Go.bits .xor .u64 (Go.bits .xor .u64 s0_2 (IntKind.u64.wrap (s0_2 * 8192))) ((Go.bits .xor .u64 s0_2 (IntKind.u64.wrap (s0_2 * 8192))) / 128)) (IntKind.u64.wrap ((Go.bits .xor .u64 (Go.bits .xor .u64 s0_2 (IntKind.u64.wrap (s0_2 * 8192))) ((Go.bits .xor .u64 s0_2 (IntKind.u64.wrap (s0_2 * 8192))) / 128)) * 131072)), s0_3) = (r1, r2, r3, r4) := by have := HH.out; unfold spec_l01Src_n.f at this; rw [if_neg (by have := C1.out; omega), if_pos C1.out.2, if_neg (by have := C2.out; omega)] at this; exact Option.some.inj this
        simp only [Prod.mk.injEq] at HH2
        obtain ⟨rfl, rfl, rfl, rfl⟩ := HH2; exact ⟨rfl, by repeat (first | (with_reducible first | exact HI.out | apply IsS92.drewN | apply IsS92.drew | apply IsS92.set_1 | apply IsS92.set_2) | exact HI.out), by repeat (first | (with_reducible first | exact HB.out | apply pw_below_drewN | apply below_drew1 | refine below_set ?_ HL.out) | exact HB.out), by repeat (first | (with_reducible first | exact HK.out | apply KeepBut.set_ | apply keep_drewN | apply keep_drew) | exact HK.out)⟩
    · exact absurd HH.out (by unfold spec_l01Src_n.f; rw [if_neg c1, if_neg c5]; simp)


/-! ### spec_l01Src_one: function 55 -/

def spec_l01Src_one.f (s0_0 : List Int) (s0_1 : Int) (s0_2 : Int) (s0_3 : Int) (a1 : Int) : Option (Bool × Int × Int × Int) := (spec_l01Src_n.f s0_0 s0_1 s0_2 s0_3 a1).bind fun bt101 => (some ((bt101.1 == 0), bt101.2.1, bt101.2.2.1, bt101.2.2.2))
theorem jX3 {n : Nat} {w W W' : World} (h : Below n w W) (f : Below n w W → Below n w W' := by intro h_; repeat (first | (with_reducible first | exact h_ | apply bA | apply bN | apply bD | refine bS ?_ (IsS92.ge HI0.out) | refine bS ?_ (Aside0.out (by assumption))) | exact h_)) : Below n w W' := f h
theorem jX14 {p q : Prop} (h : p) (f : p → q := by intro h_; repeat (first | (with_reducible first | exact h_ | apply IsS92.alloc | apply IsS92.drewN | apply IsS92.drew | apply IsS92.set_1 | apply IsS92.set_2 | apply IsS92.set_3 | refine IsS92.far ?_ (Aside0.out (by assumption)) _ | apply IsS92.far | exact Aside0.out (by assumption)) | exact h_)) : q := f h
set_option maxHeartbeats 60000000 in
set_option maxRecDepth 100000 in
theorem spec_l01Src_one.calls (g : Nat) (s0_0 : List Int) (s0_1 : Int) (s0_2 : Int) (s0_3 : Int) (a1 : Int) (r1 : Bool) (r2 : Int) (r3 : Int) (r4 : Int) (w0 w : World) (hI : IsS92 w0 w g s0_0 s0_1 s0_2 s0_3) (hB : Below w0.heap.size w0 w) (h : spec_l01Src_one.f s0_0 s0_1 s0_2 s0_3 a1 = some (r1, r2, r3, r4)) :
    Calls Try.prog 55 #[.pointer (some ⟨g, 0, none⟩), .int .i64 a1] w fun e w' => e = .returned (.bool r1) ∧ IsS92 w0 w' g s0_0 r2 r3 r4 ∧ Below w0.heap.size w0 w' ∧ KeepBut w w' g none := by
 have HI0 := AM hI; have HK := AM (KeepBut.refl w g none); have HL := AM hB.size; clear hI; have HW0 := AM hB.size; have HB := AM hB; clear hB; have H : ((spec_l01Src_n.f s0_0 s0_1 s0_2 s0_3 a1).bind fun bt101 => (some ((bt101.1 == 0), bt101.2.1, bt101.2.2.1, bt101.2.2.2))) = some (r1, r2, r3, r4) := h; clear h; replace H := oM H; obtain ⟨⟨t101, t102, t103, t104⟩, A30, H⟩ := H; try dsimp only at H
 have A3 := AM A30; clear A30; simp only [Option.some.injEq, Prod.mk.injEq] at H
 obtain ⟨rfl, rfl, rfl, rfl⟩ := H; go_enter Try.func55, Try.ntmps55
 go_wp2_with (first | ((with_reducible refine gate_callee (f := 56) rfl ?_); refine gL (some 7) Try.func56 #[.pointer (some ⟨g, 0, none⟩), .int .i64 a1] ?_; (with_reducible refine (spec_l01Src_n.calls g _ _ _ _ _ _ _ _ _ w0 _ ?s1 ?s2 A3.out).mono ?_); (case s1 => exact (jX14 HI0.out)); (case s2 => exact (jX3 HB.out)); rintro e w4 ⟨rfl, hi, hb, hk⟩; refine ⟨_, rfl, ?_⟩; have _ := AM (KeepBut.trans (hX HK.out) hk (.inl rfl)); have _ := AM (hb); have _ := AM (hi); clear HK HB HI0; rename_i HK HB HI0))
 go_ret
 exact ⟨rE, jX14 HI0.out, jX3 HB.out, hX HK.out⟩

/-! ### spec_TopicPublish: function 77 -/

mutual
def spec_TopicPublish.j0 : Nat → ByteArray → Bool → ByteArray → Int → List ByteArray → List (S55) → Option (ByteArray × Int × List ByteArray × (List (S55)) × List ByteArray × Int × Int)
  | 0, _, _, _, _, _, _ => none
  | k + 1, x1, x17, x102000, x102001, x102002, x102003 => if x17 = true then ((spec_l07Ill.f 1).bind fun bt118 => (some (bt118.1, bt118.2.1, bt118.2.2.1, bt118.2.2.2.1, bt118.2.2.2.2.1, bt118.2.2.2.2.2.1, bt118.2.2.2.2.2.2))) else (if (x102002.length : Int) ≥ 20 then (spec_TopicPublish.j1 k x1 true x102000 x102001 x102002 x102003) else ((spec_l07End.f x102000 x102001 x102002 x102003).bind fun t131 => (spec_TopicPublish.j1 k x1 (decide (t131 ≥ 1000000000)) x102000 x102001 x102002 x102003)))
def spec_TopicPublish.j1 : Nat → ByteArray → Bool → ByteArray → Int → List ByteArray → List (S55) → Option (ByteArray × Int × List ByteArray × (List (S55)) × List ByteArray × Int × Int)
  | 0, _, _, _, _, _, _ => none
  | k + 1, x1, x27, x102000, x102001, x102002, x102003 => if x27 = true then ((spec_l07Ill.f 9).bind fun bt132 => (some (bt132.1, bt132.2.1, bt132.2.2.1, bt132.2.2.2.1, bt132.2.2.2.2.1, bt132.2.2.2.2.2.1, bt132.2.2.2.2.2.2))) else ((spec_l07Copy.f x102000 x102001 x102002 x102003).bind fun bt145 => (if bt145.2.2.1.length < 8796093022208 then ((spec_l07End.f x102000 x102001 x102002 x102003).bind fun t157 => (some (bt145.1, bt145.2.1, (bt145.2.2.1 ++ [x1]), bt145.2.2.2, ([] : List ByteArray), t157, 0))) else (none)))
end
def spec_TopicPublish.f (k : Nat) (a0_0 : ByteArray) (a0_1 : Int) (l0_2 : List ByteArray) (l0_3 : List (S55)) (a1 : ByteArray) : Option (ByteArray × Int × List ByteArray × (List (S55)) × List ByteArray × Int × Int) := if (a1.size : Int) > 20000 then ((spec_l07Ill.f 2).bind fun bt103 => (some (bt103.1, bt103.2.1, bt103.2.2.1, bt103.2.2.2.1, bt103.2.2.2.2.1, bt103.2.2.2.2.2.1, bt103.2.2.2.2.2.2))) else ((spec_TopicRight.f k a0_0 a0_1 l0_2 l0_3).bind fun t116 => (if t116 = true then ((spec_l07Text.f a1).bind fun t117 => (spec_TopicPublish.j0 k a1 (!t117) a0_0 a0_1 l0_2 l0_3)) else (spec_TopicPublish.j0 k a1 true a0_0 a0_1 l0_2 l0_3)))
set_option maxHeartbeats 60000000 in
set_option maxRecDepth 100000 in
theorem spec_TopicPublish.calls (k : Nat) (a0_0 : ByteArray) (a0_1 : Int) (A0_2 : Option Addr) (c0_2 : Nat) (l0_2 : List ByteArray) (A0_3 : Option Addr) (c0_3 : Nat) (l0_3 : List (S55)) (a1 : ByteArray) (r1 : ByteArray) (r2 : Int) (r3 : List ByteArray) (r4 : List (S55)) (r5 : List ByteArray) (r6 : Int) (r7 : Int) (w : World) (hr0_2 : Kd.C Kd.string w A0_2 l0_2.length l0_2) (hc0_2 : l0_2.length ≤ c0_2) (hr0_3 : Kd.C k55 w A0_3 l0_3.length l0_3) (hc0_3 : l0_3.length ≤ c0_3) (h : spec_TopicPublish.f k a0_0 a0_1 l0_2 l0_3 a1 = some (r1, r2, r3, r4, r5, r6, r7)) :
    Calls Try.prog 77 #[.agg #[.string a0_0, .int .i64 a0_1, .slice A0_2 l0_2.length c0_2, .slice A0_3 l0_3.length c0_3], .string a1] w fun e w' => ∃ v2_ v3_ v4_ : Value, e = .returned (.agg #[.string r1, .int .i64 r2, v2_, v3_, v4_, .int .i64 r6, .int .i64 r7]) ∧ Kd.R Kd.string 9 w' w.heap.size (fun k_ => some k_ ≠ (v4_ : Value).ownBlock) v2_ r3 ∧ Kd.R k55 55 w' w.heap.size (fun _ => True) v3_ r4 ∧ Kd.R Kd.string 9 w' w.heap.size (fun k_ => some k_ ≠ (v2_ : Value).ownBlock) v4_ r5 ∧ Below w.heap.size w w' := by
 have hu29 := Try.underlying29; have hu31 := Try.underlying31; have HR0_2 := AM hr0_2; have HC0_2 := AM hc0_2; clear hr0_2 hc0_2; have HR0_3 := AM hr0_3; have HC0_3 := AM hc0_3; clear hr0_3 hc0_3; have HB := AM (Below.refl w.heap.size w); have H : (if (a1.size : Int) > 20000 then ((spec_l07Ill.f 2).bind fun bt103 => (some (bt103.1, bt103.2.1, bt103.2.2.1, bt103.2.2.2.1, bt103.2.2.2.2.1, bt103.2.2.2.2.2.1, bt103.2.2.2.2.2.2))) else ((spec_TopicRight.f k a0_0 a0_1 l0_2 l0_3).bind fun t116 => (if t116 = true then ((spec_l07Text.f a1).bind fun t117 => (spec_TopicPublish.j0 k a1 (!t117) a0_0 a0_1 l0_2 l0_3)) else (spec_TopicPublish.j0 k a1 true a0_0 a0_1 l0_2 l0_3)))) = some (r1, r2, r3, r4, r5, r6, r7) := h; clear h; by_cases c3 : (a1.size : Int) > 20000
 ·
  rw [if_pos c3] at H; have c3b0 : decide (20000 < (a1.size : Int)) = true := dY c3; have c3b1 : decide (20000 < a1.size) = true := dY (by omega); clear c3; replace H := oM H; obtain ⟨⟨t103, t104, t105, t108, t111, t114, t115⟩, A40, H⟩ := H; try dsimp only at H
  have A4 := AM A40; clear A40; simp only [Option.some.injEq, Prod.mk.injEq] at H
  obtain ⟨rfl, rfl, rfl, rfl, rfl, rfl, rfl⟩ := H; go_enter Try.func77, Try.ntmps77
  go_wp2_with (first | (refine bE (N := 2) (cs := #[.string a0_0, .int .i64 a0_1, .slice A0_2 l0_2.length c0_2, .slice A0_3 l0_3.length c0_3]) (t := 29) ?_; intro gb101 hg w5 hbox hb; have GW101 := gY hg HB; have GE101 := GW101; have BK101 := AM (hbox); replace HB := bY HB hb; clear hb hbox hg) | (refine bE (N := 4) (cs := zz0) (t := 31) ?_; intro gb102 hg w6 hbox hb; have GW102 := gY hg HB; have GE102 := GW102; have BK102 := AM (hbox); have NB101_102 := lY hg BK101; have NB102_101 := sY NB101_102; replace BK101 := nY BK101 hb; replace HB := bY HB hb; clear hb hbox hg) | ((with_reducible refine gate_callee (f := 34) rfl ?_); refine gL (some 9) Try.func34 #[.int .i64 2] ?_; (with_reducible refine (spec_l07Ill.calls _ _ _ _ _ _ _ _ _ A4.out).mono ?_); rintro e w7 ⟨v106, v109, v112, rfl, ho0, ho1, ho2, hb⟩; refine ⟨_, rfl, ?_⟩; have HO107 := AM (Kd.R_lower ho0 (bZ (bX HB.out))); have HO110 := AM (Kd.R_lower ho1 (bZ (bX HB.out))); have HO113 := AM (Kd.R_lower ho2 (bZ (bX HB.out))); replace BK101 := nY BK101 hb; replace BK102 := nY BK102 hb; replace HB := bY HB hb; (try clear ho0); (try clear ho1); (try clear ho2); have hnb8 := nP NB102_101; have hcz9 := q7 BK102.out; have hfz9 := fZ BK102.out; obtain ⟨Ao10, co10, eo10⟩ := Kd.R_slice HO107.out; subst eo10; obtain ⟨Ao11, co11, eo11⟩ := Kd.R_slice HO110.out; subst eo11; obtain ⟨Ao12, co12, eo12⟩ := Kd.R_slice HO113.out; subst eo12))
  refine bodyPost_ret (results_cell_row rfl _ _ gb102 31 #[.string t103, .int .i64 t104, .slice Ao10 t105.length co10, .slice Ao11 t108.length co11, .slice Ao12 t111.length co12, .int .i64 t114, .int .i64 t115] (0, 0) _ rfl (by refine pk7 zz0 ?_; exact kX BK102.out) Try.underlying31 rfl (by kernel_rfl)) rfl ?_; exact ⟨_, _, _, rE, by (with_reducible repeat (first | apply rA | apply rN | apply rD)); exact Rf7 HO107.out BK102.out (by decide) (fun _ hk => hk.1), by (with_reducible repeat (first | apply rA | apply rN | apply rD)); exact Rf7 HO110.out BK102.out (by decide) (fun _ hk => trivial), by (with_reducible repeat (first | apply rA | apply rN | apply rD)); exact Rf7 HO113.out BK102.out (by decide) (fun _ hk => hk.1), bX HB.out⟩
 rw [if_neg c3] at H; have c3b0 : decide (20000 < (a1.size : Int)) = false := dN c3; have c3b1 : decide (20000 < a1.size) = false := dN (by omega); clear c3; have HC13 := AM H; clear H; go_enter Try.func77, Try.ntmps77
 go_upto_region 3 with (first | (refine bE (N := 2) (cs := #[.string a0_0, .int .i64 a0_1, .slice A0_2 l0_2.length c0_2, .slice A0_3 l0_3.length c0_3]) (t := 29) ?_; intro gb101 hg w14 hbox hb; have GW101 := gY hg HB; have GE101 := GW101; have BK101 := AM (hbox); replace HB := bY HB hb; clear hb hbox hg) | (refine bE (N := 4) (cs := zz0) (t := 31) ?_; intro gb102 hg w15 hbox hb; have GW102 := gY hg HB; have GE102 := GW102; have BK102 := AM (hbox); have NB101_102 := lY hg BK101; have NB102_101 := sY NB101_102; replace BK101 := nY BK101 hb; replace HB := bY HB hb; clear hb hbox hg))
 (try simp only [Act.put, List.setIfInBounds_toArray, List.set_cons_zero, List.set_cons_succ]); go_cut [17] (fun v17 wc => ∃ (kq : Nat) (x17_12 : Bool), v17 = .bool x17_12 ∧ Aside0 (spec_TopicPublish.j0 kq a1 x17_12 a0_0 a0_1 l0_2 l0_3 = some (r1, r2, r3, r4, r5, r6, r7)) ∧ Aside0 (kq ≤ k) ∧ Aside0 (wc.heap[gb101]? = some (.cells #[.string a0_0, .int .i64 a0_1, (.slice A0_2 l0_2.length c0_2), (.slice A0_3 l0_3.length c0_3)] 29 (0, 0))) ∧ Aside0 (wc.heap[gb102]? = some (.cells #[.string (⟨#[]⟩ : ByteArray), .int .i64 0, (.slice none 0 0), (.slice none 0 0), (.slice none 0 0), .int .i64 0, .int .i64 0] 31 (0, 0))) ∧ Aside0 (Below w.heap.size w wc))
 case first =>
  have H := HC13.out; clear HC13; replace H := oM H; obtain ⟨t116, A160, H⟩ := H; have A16 := AM A160; clear A160; by_cases c17 : t116 = true
  ·
   subst c17; rw [if_pos rfl] at H; replace H := oM H; obtain ⟨t117, A180, H⟩ := H; have A18 := AM A180; clear A180; have H' := AM H; clear H; have hnb19 := nP NB101_102; have hcz20 := q4 BK101.out; have hfz20 := fZ BK101.out; go_wp2_with (first | ((with_reducible refine gate_callee (f := 59) rfl ?_); refine gL (some 11) Try.func59 #[.agg #[.string a0_0, .int .i64 a0_1, .slice A0_2 l0_2.length c0_2, .slice A0_3 l0_3.length c0_3]] ?_; (with_reducible refine (spec_TopicRight.calls _ _ _ _ _ _ _ _ _ _ _ ?s1 ?s2 ?s3 ?s4 A16.out).mono ?_); (case s1 => exact cY HR0_2 HB); (case s2 => exact HC0_2.out); (case s3 => exact cY HR0_3 HB); (case s4 => exact HC0_3.out); rintro e w21 ⟨rfl, hb⟩; refine ⟨_, rfl, ?_⟩; have _ := nY BK101 hb; have _ := nY BK102 hb; have _ := bY HB hb; clear BK101 BK102 HB; rename_i BK101 BK102 HB) | (go_at_call 81; (with_reducible refine (spec_l07Text.calls _ _ _ A18.out).mono ?_); rintro e w' ⟨rfl, ⟨nd, rfl⟩⟩))
   go_meet
   case rel => exact ⟨_, (!t117), rR, H', ⟨by first | omega | exact Nat.le_refl _⟩, ⟨kX BK101.out⟩, ⟨kX BK102.out⟩, ⟨bX HB.out⟩⟩
  replace c17 := oE c17; subst c17; rw [if_neg nft] at H; have H' := AM H; clear H; have hnb22 := nP NB101_102; have hcz23 := q4 BK101.out; have hfz23 := fZ BK101.out; go_wp2_with (first | ((with_reducible refine gate_callee (f := 59) rfl ?_); refine gL (some 11) Try.func59 #[.agg #[.string a0_0, .int .i64 a0_1, .slice A0_2 l0_2.length c0_2, .slice A0_3 l0_3.length c0_3]] ?_; (with_reducible refine (spec_TopicRight.calls _ _ _ _ _ _ _ _ _ _ _ ?s1 ?s2 ?s3 ?s4 A16.out).mono ?_); (case s1 => exact cY HR0_2 HB); (case s2 => exact HC0_2.out); (case s3 => exact cY HR0_3 HB); (case s4 => exact HC0_3.out); rintro e w24 ⟨rfl, hb⟩; refine ⟨_, rfl, ?_⟩; have _ := nY BK101 hb; have _ := nY BK102 hb; have _ := bY HB hb; clear BK101 BK102 HB; rename_i BK101 BK102 HB))
  go_meet
  case rel => exact ⟨_, (true), rR, H', ⟨by first | omega | exact Nat.le_refl _⟩, ⟨kX BK101.out⟩, ⟨kX BK102.out⟩, ⟨bX HB.out⟩⟩
 case rest =>
  clear HC13; (try clear c1); (try clear c2); (try clear p2); (try clear c3); (try clear c3b0); (try clear c3b1); (try clear c5); (try clear c7); (try clear c8); (try clear c17); (try clear c19); (try clear c22); (try clear hcz20); (try clear hcz23); (try clear hcz9); (try clear hfz20); (try clear hfz23); (try clear hfz9); obtain ⟨kq, x17_12, rfl, HA, HJ12, BK101, BK102, HB⟩ := hcut
  cases kq with
  | zero => exact absurd HA.out (by simp [spec_TopicPublish.j0])
  | succ kj12 =>
   have H := HA.out; clear HA; simp only [spec_TopicPublish.j0] at H
   by_cases c25 : x17_12 = true
   ·
    subst c25; rw [if_pos rfl] at H; replace H := oM H; obtain ⟨⟨t118, t119, t120, t123, t126, t129, t130⟩, A260, H⟩ := H; try dsimp only at H
    have A26 := AM A260; clear A260; simp only [Option.some.injEq, Prod.mk.injEq] at H
    obtain ⟨rfl, rfl, rfl, rfl, rfl, rfl, rfl⟩ := H; go_wp2_with (first | ((with_reducible refine gate_callee (f := 34) rfl ?_); refine gL (some 18) Try.func34 #[.int .i64 1] ?_; (with_reducible refine (spec_l07Ill.calls _ _ _ _ _ _ _ _ _ A26.out).mono ?_); rintro e w27 ⟨v121, v124, v127, rfl, ho0, ho1, ho2, hb⟩; refine ⟨_, rfl, ?_⟩; have HO122 := AM (Kd.R_lower ho0 (bZ (bX HB.out))); have HO125 := AM (Kd.R_lower ho1 (bZ (bX HB.out))); have HO128 := AM (Kd.R_lower ho2 (bZ (bX HB.out))); replace BK101 := nY BK101 hb; replace BK102 := nY BK102 hb; replace HB := bY HB hb; (try clear ho0); (try clear ho1); (try clear ho2); have hnb28 := nP NB102_101; have hcz29 := q7 BK102.out; have hfz29 := fZ BK102.out; obtain ⟨Ao30, co30, eo30⟩ := Kd.R_slice HO122.out; subst eo30; obtain ⟨Ao31, co31, eo31⟩ := Kd.R_slice HO125.out; subst eo31; obtain ⟨Ao32, co32, eo32⟩ := Kd.R_slice HO128.out; subst eo32))
    refine bodyPost_ret (results_cell_row rfl _ _ gb102 31 #[.string t118, .int .i64 t119, .slice Ao30 t120.length co30, .slice Ao31 t123.length co31, .slice Ao32 t126.length co32, .int .i64 t129, .int .i64 t130] (0, 0) _ rfl (by refine pk7 zz0 ?_; exact kX BK102.out) Try.underlying31 rfl (by kernel_rfl)) rfl ?_; exact ⟨_, _, _, rE, by (with_reducible repeat (first | apply rA | apply rN | apply rD)); exact Rf7 HO122.out BK102.out (by decide) (fun _ hk => hk.1), by (with_reducible repeat (first | apply rA | apply rN | apply rD)); exact Rf7 HO125.out BK102.out (by decide) (fun _ hk => trivial), by (with_reducible repeat (first | apply rA | apply rN | apply rD)); exact Rf7 HO128.out BK102.out (by decide) (fun _ hk => hk.1), bX HB.out⟩
   replace c25 := oE c25; subst c25; rw [if_neg nft] at H; have HC33 := AM H; clear H; go_upto_region 5 with (fail)
   go_cut [27] (fun v27 wc => ∃ (kq : Nat) (x27_32 : Bool), v27 = .bool x27_32 ∧ Aside0 (spec_TopicPublish.j1 kq a1 x27_32 a0_0 a0_1 l0_2 l0_3 = some (r1, r2, r3, r4, r5, r6, r7)) ∧ Aside0 (kq ≤ kj12) ∧ Aside0 (wc.heap[gb101]? = some (.cells #[.string a0_0, .int .i64 a0_1, (.slice A0_2 l0_2.length c0_2), (.slice A0_3 l0_3.length c0_3)] 29 (0, 0))) ∧ Aside0 (wc.heap[gb102]? = some (.cells #[.string (⟨#[]⟩ : ByteArray), .int .i64 0, (.slice none 0 0), (.slice none 0 0), (.slice none 0 0), .int .i64 0, .int .i64 0] 31 (0, 0))) ∧ Aside0 (Below w.heap.size w wc))
   case first =>
    have H := HC33.out; clear HC33; by_cases c34 : (l0_2.length : Int) ≥ 20
    ·
     rw [if_pos c34] at H; have c34b0 : decide (20 ≤ (l0_2.length : Int)) = true := dY c34; have c34b1 : decide (20 ≤ l0_2.length) = true := dY (by omega); clear c34
     (first | rw [c34b0] | (simp only [i64_w, i32_w]; rw [c34b0]) | skip)
     have H' := AM H; clear H; have hnb35 := nP NB101_102; have hcz36 := q4 BK101.out; have hfz36 := fZ BK101.out; go_wp2
     go_meet
     case rel => exact ⟨_, (true), rR, H', ⟨by have := HJ12.out; first | omega | exact Nat.le_refl _⟩, ⟨kX BK101.out⟩, ⟨kX BK102.out⟩, ⟨bX HB.out⟩⟩
    rw [if_neg c34] at H; have c34b0 : decide (20 ≤ (l0_2.length : Int)) = false := dN c34; have c34b1 : decide (20 ≤ l0_2.length) = false := dN (by omega); clear c34
    (first | rw [c34b0] | (simp only [i64_w, i32_w]; rw [c34b0]) | skip)
    replace H := oM H; obtain ⟨t131, A370, H⟩ := H; have A37 := AM A370; clear A370; have H' := AM H; clear H; have hnb38 := nP NB101_102; have hcz39 := q4 BK101.out; have hfz39 := fZ BK101.out; go_wp2_with (first | (go_at_call 61; (with_reducible refine (spec_l07End.calls _ _ _ _ _ _ _ _ _ _ ?s1 ?s2 ?s3 ?s4 A37.out).mono ?_); (case s1 => exact cY HR0_2 HB); (case s2 => exact HC0_2.out); (case s3 => exact cY HR0_3 HB); (case s4 => exact HC0_3.out); rintro e w40 ⟨rfl, hb⟩; have _ := nY BK101 hb; have _ := nY BK102 hb; have _ := bY HB hb; clear BK101 BK102 HB; rename_i BK101 BK102 HB))
    go_meet
    case rel => exact ⟨_, (decide (t131 ≥ 1000000000)), rR, H', ⟨by have := HJ12.out; first | omega | exact Nat.le_refl _⟩, ⟨kX BK101.out⟩, ⟨kX BK102.out⟩, ⟨bX HB.out⟩⟩
   case rest =>
    clear HC33; (try clear c1); (try clear c2); (try clear p2); (try clear c3); (try clear c3b0); (try clear c3b1); (try clear c5); (try clear c7); (try clear c8); (try clear c17); (try clear c19); (try clear c22); (try clear c25); (try clear c28); (try clear c34); (try clear c34b0); (try clear c34b1); (try clear c35); (try clear c38); (try clear hcz20); (try clear hcz23); (try clear hcz29); (try clear hcz36); (try clear hcz39); (try clear hcz9); (try clear hfz20); (try clear hfz23); (try clear hfz29); (try clear hfz36); (try clear hfz39); (try clear hfz9); obtain ⟨kq, x27_32, rfl, HA, HJ32, BK101, BK102, HB⟩ := hcut
    cases kq with
    | zero => exact absurd HA.out (by simp [spec_TopicPublish.j1])
    | succ kj32 =>
     have H := HA.out; clear HA; simp only [spec_TopicPublish.j1] at H
     by_cases c41 : x27_32 = true
     ·
      subst c41; rw [if_pos rfl] at H; replace H := oM H; obtain ⟨⟨t132, t133, t134, t137, t140, t143, t144⟩, A420, H⟩ := H; try dsimp only at H
      have A42 := AM A420; clear A420; simp only [Option.some.injEq, Prod.mk.injEq] at H
      obtain ⟨rfl, rfl, rfl, rfl, rfl, rfl, rfl⟩ := H; go_wp2_with (first | ((with_reducible refine gate_callee (f := 34) rfl ?_); refine gL (some 28) Try.func34 #[.int .i64 9] ?_; (with_reducible refine (spec_l07Ill.calls _ _ _ _ _ _ _ _ _ A42.out).mono ?_); rintro e w43 ⟨v135, v138, v141, rfl, ho0, ho1, ho2, hb⟩; refine ⟨_, rfl, ?_⟩; have HO136 := AM (Kd.R_lower ho0 (bZ (bX HB.out))); have HO139 := AM (Kd.R_lower ho1 (bZ (bX HB.out))); have HO142 := AM (Kd.R_lower ho2 (bZ (bX HB.out))); replace BK101 := nY BK101 hb; replace BK102 := nY BK102 hb; replace HB := bY HB hb; (try clear ho0); (try clear ho1); (try clear ho2); have hnb44 := nP NB102_101; have hcz45 := q7 BK102.out; have hfz45 := fZ BK102.out; obtain ⟨Ao46, co46, eo46⟩ := Kd.R_slice HO136.out; subst eo46; obtain ⟨Ao47, co47, eo47⟩ := Kd.R_slice HO139.out; subst eo47; obtain ⟨Ao48, co48, eo48⟩ := Kd.R_slice HO142.out; subst eo48))
      refine bodyPost_ret (results_cell_row rfl _ _ gb102 31 #[.string t132, .int .i64 t133, .slice Ao46 t134.length co46, .slice Ao47 t137.length co47, .slice Ao48 t140.length co48, .int .i64 t143, .int .i64 t144] (0, 0) _ rfl (by refine pk7 zz0 ?_; exact kX BK102.out) Try.underlying31 rfl (by kernel_rfl)) rfl ?_; exact ⟨_, _, _, rE, by (with_reducible repeat (first | apply rA | apply rN | apply rD)); exact Rf7 HO136.out BK102.out (by decide) (fun _ hk => hk.1), by (with_reducible repeat (first | apply rA | apply rN | apply rD)); exact Rf7 HO139.out BK102.out (by decide) (fun _ hk => trivial), by (with_reducible repeat (first | apply rA | apply rN | apply rD)); exact Rf7 HO142.out BK102.out (by decide) (fun _ hk => hk.1), bX HB.out⟩
     replace c41 := oE c41; subst c41; rw [if_neg nft] at H; replace H := oM H; obtain ⟨⟨t145, t146, t147, t150⟩, A490, H⟩ := H; try dsimp only at H
     have A49 := AM A490; clear A490; by_cases c50 : t147.length < 8796093022208
     ·
      rw [if_pos c50] at H; have LMc50 := AM c50; clear c50; obtain ⟨y154, hy154⟩ : ∃ y_ : List ByteArray, y_ = (t147 ++ [a1]) := ⟨_, rfl⟩; replace H : ((spec_l07End.f a0_0 a0_1 l0_2 l0_3).bind fun t157 => (some (t145, t146, y154, t150, ([] : List ByteArray), t157, 0))) = some (r1, r2, r3, r4, r5, r6, r7) := hS hy154 H
      have Ny154 := AM hy154; clear hy154; replace H := oM H; obtain ⟨t157, A510, H⟩ := H; have A51 := AM A510; clear A510; simp only [Option.some.injEq, Prod.mk.injEq] at H
      obtain ⟨rfl, rfl, rfl, rfl, rfl, rfl, rfl⟩ := H; have hnb52 := nP NB101_102; have hcz53 := q4 BK101.out; have hfz53 := fZ BK101.out; try go_wp2_with (first | ((with_reducible refine gate_callee (f := 82) rfl ?_); refine gL (some 30) Try.func82 #[.agg #[.string a0_0, .int .i64 a0_1, .slice A0_2 l0_2.length c0_2, .slice A0_3 l0_3.length c0_3]] ?_; (with_reducible refine (spec_l07Copy.calls _ _ _ _ _ _ _ _ _ _ _ _ _ ?s1 ?s2 ?s3 ?s4 A49.out).mono ?_); (case s1 => exact cY HR0_2 HB); (case s2 => exact HC0_2.out); (case s3 => exact cY HR0_3 HB); (case s4 => exact HC0_3.out); rintro e w54 ⟨v148, v151, rfl, ho0, ho1, hb⟩; refine ⟨_, rfl, ?_⟩; have HO149 := AM (Kd.R_lower ho0 (bZ (bX HB.out))); have HO152 := AM (Kd.R_lower ho1 (bZ (bX HB.out))); replace BK101 := nY BK101 hb; replace BK102 := nY BK102 hb; replace HB := bY HB hb; (try clear ho0); (try clear ho1)) | (refine bE (N := 5) (cs := zz1) (t := 29) ?_; intro gb153 hg w55 hbox hb; have GW153 := gY hg HB; have GE153 := GW153; have BK153 := AM (hbox); have NB101_153 := lY hg BK101; have NB153_101 := sY NB101_153; have NB102_153 := lY hg BK102; have NB153_102 := sY NB102_153; replace HO149 := rY HO149 hb; replace HO152 := rY HO152 hb; replace BK101 := nY BK101 hb; replace BK102 := nY BK102 hb; replace HB := bY HB hb; clear hb hbox hg; have hnb56 := nP NB153_101; have hnb57 := nP NB153_102; have hcz58 := q4 BK153.out; have hfz58 := fZ BK153.out; obtain ⟨Ao59, co59, eo59⟩ := Kd.R_slice HO149.out; subst eo59; obtain ⟨Ao60, co60, eo60⟩ := Kd.R_slice HO152.out; subst eo60) | ((with_reducible refine gate_builtin (b := .append) (xs := #[.tmp 32, .tmp 34]) rfl ?_); at_builtin; refine Kd.R_append Kd.string (w0 := w) w.heap.size rfl (.tmp 32) (.tmp 34) 22 9 (.string ⟨#[]⟩) 16 rfl Try.underlying22 info9 rfl (by decide) (by omega) (.slice Ao59 t147.length co59) t147 a1 [.string a1] (fun _ => True) (fun _ => False) rfl (by first | (go_simp; done) | (go_simp; rfl)) ?aP (fun _ hk => hk.elim) ?aF ?aO ?aB ?aS ?aL ?_; (case aP => exact rfl); (case aB => exact (bX HB.out)); (case aF => exact (fun _ _ => trivial)); (case aO => exact (by (with_reducible repeat (first | apply rA | apply rN | apply rD)); exact Rf4 HO149.out BK153.out (by decide) (fun _ hk => trivial))); (case aS => exact (bZ (bX HB.out))); (case aL => have := LMc50.out; omega); intro v155 w61 ho hb hg hat; rw [← Ny154.out] at ho; have _ := AM (blk_grown (g := gb101) (o := .cells #[.string a0_0, .int .i64 a0_1, .slice A0_2 l0_2.length c0_2, .slice A0_3 l0_3.length c0_3] 29 (0, 0)) (by (iterate 4 refine kF NB101_153.out ?_); exact kX BK101.out) hg (Kd.R_ne HO149.out BK101.out (by decide))); have _ := AM (blk_grown (g := gb102) (o := .cells #[.string (⟨#[]⟩ : ByteArray), .int .i64 0, .slice none 0 0, .slice none 0 0, .slice none 0 0, .int .i64 0, .int .i64 0] 31 (0, 0)) (by (iterate 4 refine kF NB102_153.out ?_); exact kX BK102.out) hg (Kd.R_ne HO149.out BK102.out (by decide))); have _ := AM (Kd.R_over' (by (with_reducible repeat (first | apply rA | apply rN | apply rD)); exact (Rf4 HO152.out BK153.out (by decide) (fun _ h_ => h_.1))) (Kd.R_typed (by (with_reducible repeat (first | apply rA | apply rN | apply rD)); exact (Rf4 HO149.out BK153.out (by decide) (fun _ h_ => h_.1)))) (by decide) hg); have _ := AM (blk_grown (g := gb153) (o := .cells #[.string t145, .int .i64 t146, .slice Ao59 t147.length co59, .slice Ao60 t150.length co60] 29 (0, 0)) (by refine pk4 zz1 ?_; exact kX BK153.out) hg (Kd.R_ne HO149.out BK153.out (by decide))); have _ := AM (hb); have _ := AM (ho); clear BK101 BK102 HO152 BK153 HB HO149; rename_i BK101 BK102 HO152 BK153 HB HO156; clear ho hb hg hat; obtain ⟨Ao62, co62, eo62⟩ := Kd.R_slice HO156.out; subst eo62; have hcz63 := q4 BK153.out; have hfz63 := fZ BK153.out))
      generalize hW_ : (w61.setCell ⟨gb153, 2, none⟩ (.slice Ao62 y154.length co62)) = w64; have n0_ : Aside0 (Kd.R k55 55 w64 w.heap.size (fun _ => True) (.slice Ao60 t150.length co60) t150) := by subst hW_; exact ⟨by (with_reducible repeat (first | apply rA | apply rN | apply rD)); exact Kd.R_mono (Kd.R_far (p := ⟨gb153, 2, none⟩) (Kd.R_types HO152.out BK153.out (by decide)) (fun _ hk => hk.2) (.slice Ao62 y154.length co62)) (fun _ hk => trivial)⟩
      have n1_ : Aside0 (Kd.R Kd.string 9 w64 w.heap.size (fun _ => True) (.slice Ao62 y154.length co62) y154) := by subst hW_; exact ⟨by (with_reducible repeat (first | apply rA | apply rN | apply rD)); exact Kd.R_mono (Kd.R_far (p := ⟨gb153, 2, none⟩) (Kd.R_types HO156.out BK153.out (by decide)) (fun _ hk => hk.2) (.slice Ao62 y154.length co62)) (fun _ hk => trivial)⟩
      have n2_ := kW hW_ BK101 (by intro h_; refine kF NB101_153.out ?_; exact kX h_)
      have n3_ := kW hW_ BK102 (by intro h_; refine kF NB102_153.out ?_; exact kX h_)
      have n4_ : Aside0 (w64.heap[gb153]? = some (.cells #[.string t145, .int .i64 t146, .slice Ao62 y154.length co62, .slice Ao60 t150.length co60] 29 (0, 0))) := by subst hW_; exact ⟨by refine kP (cs := #[.string t145, .int .i64 t146, .slice Ao59 t147.length co59, .slice Ao60 t150.length co60]) 2 ?_; exact kX BK153.out⟩
      have n5_ := bW hW_ HB
      (try clear HO152); (try clear HO156); (try clear BK101); (try clear BK102); (try clear BK153); (try clear HB); clear hW_; have HO152 := n0_; have HO156 := n1_; have BK101 := n2_; have BK102 := n3_; have BK153 := n4_; have HB := n5_; clear n0_ n1_ n2_ n3_ n4_ n5_; replace HO152 := rDY HO152; replace HO156 := rDY HO156; replace BK101 := kDY BK101; replace BK102 := kDY BK102; replace BK153 := kDY BK153; replace HB := bDY HB; refine start_ (n := 5) (S := fun w' => w'.cell? ⟨gb153, 0, none⟩ = some (.string t145) ∧ w'.cell? ⟨gb153, 1, none⟩ = some (.int .i64 t146) ∧ w'.cell? ⟨gb153, 2, none⟩ = some (.slice Ao62 y154.length co62) ∧ w'.cell? ⟨gb153, 3, none⟩ = some (.slice Ao60 t150.length co60) ∧ w'.cell? ⟨gb101, 0, none⟩ = some (.string a0_0) ∧ w'.cell? ⟨gb101, 1, none⟩ = some (.int .i64 a0_1) ∧ w'.cell? ⟨gb101, 2, none⟩ = some (.slice A0_2 l0_2.length c0_2) ∧ w'.cell? ⟨gb101, 3, none⟩ = some (.slice A0_3 l0_3.length c0_3)) (ds := []) #[false, false, false, false, false] (by kernel_rfl) rfl rfl ⟨hC BK153.out 0, hC BK153.out 1, hC BK153.out 2, hC BK153.out 3, hC BK101.out 0, hC BK101.out 1, hC BK101.out 2, hC BK101.out 3⟩ (fun hHeld => ?_); generalize w64.drew = w65 at HO152 HO156 BK101 BK102 BK153 HB hHeld ⊢; refine take_ (i := 0) (N := some 37) (v := ?_) (a' := ?_) #[true, false, false, false, false] rfl rfl (by kernel_rfl) (fun _ _ _ h => h) (Or.inl ⟨by rfl, ?_⟩) hHeld ?_ ?_
      rotate_left; (focus (rintro w' ⟨s0, s1, s2, s3, s4, s5, s6, s7⟩; go_simp; with_reducible rfl))
      rotate_left; (focus (simp only [Act.put, sA, sB, sC, i64_w, i32_w]; rfl))
      refine take_ (i := 1) (N := some 38) (v := ?_) (a' := ?_) #[true, true, false, false, false] rfl rfl (by kernel_rfl) (fun _ _ _ h => h) (Or.inl ⟨by rfl, ?_⟩) hHeld ?_ ?_
      rotate_left; (focus (rintro w' ⟨s0, s1, s2, s3, s4, s5, s6, s7⟩; go_simp; with_reducible rfl))
      rotate_left; (focus (simp only [Act.put, sA, sB, sC, i64_w, i32_w]; rfl))
      refine one_ (i := 2) (N := some 39) #[true, true, true, false, false] rfl rfl (by kernel_rfl) (by decide) (fun K hK => ?_); refine gs Try.func61 #[.agg #[.string a0_0, .int .i64 a0_1, .slice A0_2 l0_2.length c0_2, .slice A0_3 l0_3.length c0_3]] ?_; with_reducible refine (spec_l07End.calls a0_0 a0_1 _ _ l0_2 _ _ l0_3 t157 _ ?s1 ?s2 ?s3 ?s4 A51.out).mono ?_
      (case s1 => exact cY HR0_2 HB)
      (case s2 => exact HC0_2.out)
      (case s3 => exact cY HR0_3 HB)
      (case s4 => exact HC0_3.out)
      rintro e w66 ⟨rfl, hb⟩; refine ⟨_, rfl, ?_⟩; replace HO152 := rY HO152 hb; replace HO156 := rY HO156 hb; replace BK101 := nY BK101 hb; replace BK102 := nY BK102 hb; replace BK153 := nY BK153 hb; replace HB := bY HB hb; refine hK.out _ _ ⟨hC BK153.out 0, hC BK153.out 1, hC BK153.out 2, hC BK153.out 3, hC BK101.out 0, hC BK101.out 1, hC BK101.out 2, hC BK101.out 3⟩ (fun hHeld => ?_); clear hK K; refine nS 39 ?_
      refine pure_ (i := 3) (N := some 40) (v := ?_) (a' := ?_) #[true, true, true, true, false] rfl rfl (by kernel_rfl) (fun _ _ _ h => h) (Or.inl ⟨by rfl, ?_⟩) ?_ ?_; rotate_left
      ·
       intro w'; go_simp
       with_reducible rfl
      rotate_left
      ·
       simp only [Act.put, sA, sB, sC, i64_w, i32_w]
       rfl
      refine one_ (i := 4) (N := none) #[true, true, true, true, true] rfl rfl (by kernel_rfl) (by decide) (fun K hK => ?_); have hs67 := q7 BK102.out; have hfs67 := fZ BK102.out; have hns67_0 := nP NB101_102; have hns67_2 := nP NB153_102; refine skip_ (w1 := ?_) (by rfl) rfl ?_ ?_; rotate_left
      ·
       go_simp
       rfl
      refine hK.out _ _ ⟨(cT7 NB153_102 hHeld.1), (cT7 NB153_102 hHeld.2.1), (cT7 NB153_102 hHeld.2.2.1), (cT7 NB153_102 hHeld.2.2.2.1), (cT7 NB101_102 hHeld.2.2.2.2.1), (cT7 NB101_102 hHeld.2.2.2.2.2.1), (cT7 NB101_102 hHeld.2.2.2.2.2.2.1), (cT7 NB101_102 hHeld.2.2.2.2.2.2.2)⟩ (fun hHeld => ?_); clear hK K; refine done_ (by kernel_rfl) ?_; try go_wp2
      refine bodyPost_ret (results_cell_row rfl _ _ gb102 31 #[.string t145, .int .i64 t146, .slice Ao62 y154.length co62, .slice Ao60 t150.length co60, .slice none 0 0, .int .i64 t157, .int .i64 0] (0, 0) _ rfl (by refine pk7 zz0 ?_; exact kX BK102.out) Try.underlying31 rfl (by kernel_rfl)) rfl ?_; exact ⟨_, _, _, rE, by (with_reducible repeat (first | apply rA | apply rN | apply rD)); exact Rf7 HO156.out BK102.out (by decide) (fun _ hk => (by simp [Value.ownBlock])), by (with_reducible repeat (first | apply rA | apply rN | apply rD)); exact Rf7 HO152.out BK102.out (by decide) (fun _ hk => trivial), by first | exact Kd.R_nil _ _ _ _ _ | exact Kd.N_nil _ _ _ _ _ | exact Kd.V_nil _ _ _ _ _ | exact Kd.Q_nil _ _ _ _ _ | exact Kd.S_nil _ _ _ _ _, bX HB.out⟩
     rw [if_neg c50] at H; exact absurd H (by simp)

/-! ### spec_l01Src_pick: function 78 -/

def spec_l01Src_pick.f (s0_0 : List Int) (s0_1 : Int) (s0_2 : Int) (s0_3 : Int) (l1 : List ByteArray) : Option (ByteArray × Int × Int × Int) := (spec_l01Src_n.f s0_0 s0_1 s0_2 s0_3 (l1.length : Int)).bind fun bt101 => (if 0 ≤ bt101.1 then (if bt101.1 < (l1.length : Int) then (some (rdOf ByteArray.empty l1 bt101.1, bt101.2.1, bt101.2.2.1, bt101.2.2.2)) else (none)) else (none))
theorem jX4 {n : Nat} {w W W' : World} (h : Below n w W) (f : Below n w W → Below n w W' := by intro h_; repeat (first | (with_reducible first | exact h_ | apply bA | apply bN | apply bD | refine bS ?_ (IsS92.ge HI0.out) | refine bS ?_ (Aside0.out (by assumption))) | exact h_)) : Below n w W' := f h
theorem jX15 {p q : Prop} (h : p) (f : p → q := by intro h_; repeat (first | (with_reducible first | exact h_ | apply IsS92.alloc | apply IsS92.drewN | apply IsS92.drew | apply IsS92.set_1 | apply IsS92.set_2 | apply IsS92.set_3 | refine IsS92.far ?_ (Aside0.out (by assumption)) _ | apply IsS92.far | exact Aside0.out (by assumption)) | exact h_)) : q := f h
set_option maxHeartbeats 60000000 in
set_option maxRecDepth 100000 in
theorem spec_l01Src_pick.calls (g : Nat) (s0_0 : List Int) (s0_1 : Int) (s0_2 : Int) (s0_3 : Int) (A1 : Option Addr) (c1 : Nat) (l1 : List ByteArray) (r1 : ByteArray) (r2 : Int) (r3 : Int) (r4 : Int) (w0 w : World) (hI : IsS92 w0 w g s0_0 s0_1 s0_2 s0_3) (hB : Below w0.heap.size w0 w) (hr1 : Kd.C Kd.string w A1 l1.length l1) (hc1 : l1.length ≤ c1) (hf1 : ∀ ad, A1 = some ad → 0 < l1.length → ad.block ≠ g) (h : spec_l01Src_pick.f s0_0 s0_1 s0_2 s0_3 l1 = some (r1, r2, r3, r4)) :
    Calls Try.prog 78 #[.pointer (some ⟨g, 0, none⟩), .slice A1 l1.length c1] w fun e w' => e = .returned (.string r1) ∧ IsS92 w0 w' g s0_0 r2 r3 r4 ∧ Below w0.heap.size w0 w' ∧ KeepBut w w' g none := by
 have HR1 := AM hr1; have HC1 := AM hc1; clear hr1 hc1; have HI0 := AM hI; have HK := AM (KeepBut.refl w g none); have HL := AM hB.size; clear hI; have HW0 := AM hB.size; have HB := AM hB; clear hB; have H : ((spec_l01Src_n.f s0_0 s0_1 s0_2 s0_3 (l1.length : Int)).bind fun bt101 => (if 0 ≤ bt101.1 then (if bt101.1 < (l1.length : Int) then (some (rdOf ByteArray.empty l1 bt101.1, bt101.2.1, bt101.2.2.1, bt101.2.2.2)) else (none)) else (none))) = some (r1, r2, r3, r4) := h; clear h; replace H := oM H; obtain ⟨⟨t101, t102, t103, t104⟩, A30, H⟩ := H; try dsimp only at H
 have A3 := AM A30; clear A30; by_cases c4 : 0 ≤ t101
 ·
  rw [if_pos c4] at H; have c4b0 := dY c4; clear c4; by_cases c5 : t101 < (l1.length : Int)
  ·
   rw [if_pos c5] at H; have c5b0 := dY c5; clear c5; simp only [Option.some.injEq, Prod.mk.injEq] at H
   obtain ⟨rfl, rfl, rfl, rfl⟩ := H; go_enter Try.func78, Try.ntmps78
   go_wp2_with (first | ((with_reducible refine gate_callee (f := 56) rfl ?_); refine gL (some 9) Try.func56 #[.pointer (some ⟨g, 0, none⟩), .int .i64 (l1.length : Int)] ?_; (with_reducible refine (spec_l01Src_n.calls g _ _ _ _ _ _ _ _ _ w0 _ ?s1 ?s2 A3.out).mono ?_); (case s1 => exact (jX15 HI0.out)); (case s2 => exact (jX4 HB.out)); rintro e w6 ⟨rfl, hi, hb, hk⟩; refine ⟨_, rfl, ?_⟩; replace HK := AM (KeepBut.trans (hX HK.out) hk (.inl rfl)); replace HB := AM (hb); replace HI0 := AM (hi); have p105 : 0 ≤ (t101 : Int) := oD ‹_›; have q105 : t101 < (l1.length : Int) := oD ‹_›; obtain ⟨ad105, e105, hx105_0⟩ := Kd.at_string HR1.out t101 p105 q105; cases e105; replace hx105_0 := keep_cell HK.out hx105_0 (by first | (rw [add_block]; exact hf1 _ rfl (by omega)) | exact hf1 _ rfl (by omega) | exact hf1 ad105 rfl (by omega)); replace p105 := eq_true p105; replace q105 := eq_true q105))
   go_ret
   exact ⟨rE, jX15 HI0.out, jX4 HB.out, hX HK.out⟩
  rw [if_neg c5] at H; exact absurd H (by simp)
 rw [if_neg c4] at H; exact absurd H (by simp)

/-! ### spec_l01Max: function 88 -/

def spec_l01Max.f (a0 : Int) (a1 : Int) : Option (Int) := if a0 > a1 then (some a0) else (some a1)
set_option maxHeartbeats 60000000 in
set_option maxRecDepth 100000 in
theorem spec_l01Max.calls (a0 : Int) (a1 : Int) (r : Int) (w : World) (h : spec_l01Max.f a0 a1 = some r) :
    Calls Try.prog 88 #[.int .i64 a0, .int .i64 a1] w fun e w' => e = .returned (.int .i64 r) ∧ Drawn0 w w' := by
 have H : (if a0 > a1 then (some a0) else (some a1)) = some r := h; clear h; by_cases c3 : a0 > a1
 ·
  rw [if_pos c3] at H; have c3b0 : decide (a1 < a0) = true := dY c3; clear c3; obtain rfl := Option.some.inj H; go_enter Try.func88, Try.ntmps88
  go_wp2
  go_ret
  exact ⟨by first | rfl | (simp; done) | (simp [*]; done), drX⟩
 rw [if_neg c3] at H; have c3b0 : decide (a1 < a0) = false := dN c3; clear c3; obtain rfl := Option.some.inj H; go_enter Try.func88, Try.ntmps88
 go_wp2
 go_ret
 exact ⟨by first | rfl | (simp; done) | (simp [*]; done), drX⟩

end Go.Proofs.Ytnjnjffjblgldaa.Q
