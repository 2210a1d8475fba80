/- Printed by a program of this session (wip/mp.py over the kit's print.py): functions of the translation as plain Lean functions, and that the machine's calls do what these say. -/
import Derived.Test.YtbediildfabhnaaDoorQx0
import Derived.Test.YtbediildfabhnaaDoorQx8
namespace Go.Proofs.YtbediildfabhnaaDoor.Q
open Go.RowKit Go.Proofs.YtbediildfabhnaaDoor.HB Go.Proofs.YtbediildfabhnaaDoorW.PrintWords Go.Proofs.YtbediildfabhnaaDoorW.PrintLast Go.Proofs.YtbediildfabhnaaDoorW.PrintMore
attribute [local go_sem] max2_int min2_int max_two min_two max_three min_three max_four min_four   -- for this text's walks alone
set_option linter.unusedVariables false
set_option linter.unusedSimpArgs false

/-- A state of type 62 at block g of W; what its slices lead to came in by w0. -/
def IsS62 (w0 W : World) (g : Nat) (f0 : ByteArray) (f1 : Int) (f2 : Bool) : Prop := W.heap[g]? = some (.cells #[.string f0, .int .i64 f1, .bool f2] 62 (0, 0)) ∧ w0.heap.size ≤ g
theorem IsS62.grown {w0 W : World} {g : Nat} {f0 : ByteArray} {f1 : Int} {f2 : Bool} {W1 : World} {row : Option Nat} (h : IsS62 w0 W g f0 f1 f2) (hw : W.grownBy W1 row) (hne : some g ≠ row) : IsS62 w0 W1 g f0 f1 f2 := by
  obtain ⟨hb, hg⟩ := h
  exact ⟨blk_grown hb hw hne, hg⟩
theorem IsS62.own_neN {w0 W : World} {g : Nat} {f0 : ByteArray} {f1 : Int} {f2 : Bool} {α : Type} {d : Kd α} {e : Nat} {base : Nat} {ok : Nat → Prop} {v : Value} {xs : List α} (h : IsS62 w0 W g f0 f1 f2) (ho : Kd.N d e W base ok v xs) (ht : e ≠ 62) : some g ≠ v.ownBlock := by
  obtain ⟨hb, hg⟩ := h
  exact Kd.N_ne ho hb ht
theorem IsS62.fresh {w0 W : World} {g : Nat} {f0 : ByteArray} {f1 : Int} {f2 : Bool} (h : IsS62 w0 W g f0 f1 f2) : ∀ k, W.heap.size ≤ k → k ≠ g := by
  obtain ⟨hb, hg⟩ := h
  exact Kd.freshB hb
theorem IsS62.kept {w0 W : World} {g : Nat} {f0 : ByteArray} {f1 : Int} {f2 : Bool} {W1 : World} {S : Nat → Prop} (h : IsS62 w0 W g f0 f1 f2) (hk : Kept W W1 S) (hne : ¬ S g) : IsS62 w0 W1 g f0 f1 f2 := by
  obtain ⟨hb, hg⟩ := h
  exact ⟨blk_kept hb hk hne, hg⟩
theorem IsS62.below {w0 W : World} {g : Nat} {f0 : ByteArray} {f1 : Int} {f2 : Bool} {W1 : World} (h : IsS62 w0 W g f0 f1 f2) (hw : Below W.heap.size W W1) : IsS62 w0 W1 g f0 f1 f2 := h.grown (grown_of_below hw none) (by simp)
theorem IsS62.alloc {w0 W : World} {g : Nat} {f0 : ByteArray} {f1 : Int} {f2 : Bool} (h : IsS62 w0 W g f0 f1 f2) (o : Obj) : IsS62 w0 (W.alloc o) g f0 f1 f2 := h.below (bA (Below.refl _ _) o)
theorem IsS62.drewN {w0 W : World} {g : Nat} {f0 : ByteArray} {f1 : Int} {f2 : Bool} (h : IsS62 w0 W g f0 f1 f2) (m : Nat) : IsS62 w0 (W.drewN m) g f0 f1 f2 := h
theorem IsS62.drew {w0 W : World} {g : Nat} {f0 : ByteArray} {f1 : Int} {f2 : Bool} (h : IsS62 w0 W g f0 f1 f2) : IsS62 w0 W.drew g f0 f1 f2 := h
theorem IsS62.at_ {w0 W : World} {g : Nat} {f0 : ByteArray} {f1 : Int} {f2 : Bool} {w' : World} {m : Nat} (hq : W.drewN m = w') (h : IsS62 w0 W g f0 f1 f2) : IsS62 w0 w' g f0 f1 f2 := by subst hq; exact IsS62.drewN h m
theorem IsS62.apart {w0 W : World} {g : Nat} {f0 : ByteArray} {f1 : Int} {f2 : Bool} {α : Type} {d : Kd α} {e : Nat} {base : Nat} {ok : Nat → Prop} {v : Value} {xs : List α} (h : IsS62 w0 W g f0 f1 f2) (ho : d.R e W base ok v xs) (ht : ∀ q, q ∈ e :: d.E → q ≠ 62) : d.R e W base (fun k => ok k ∧ k ≠ g) v xs := by
  obtain ⟨hb, hg⟩ := h
  exact Kd.R_types ho hb ht
theorem IsS62.own_ne {w0 W : World} {g : Nat} {f0 : ByteArray} {f1 : Int} {f2 : Bool} {α : Type} {d : Kd α} {e : Nat} {base : Nat} {ok : Nat → Prop} {v : Value} {xs : List α} (h : IsS62 w0 W g f0 f1 f2) (ho : d.R e W base ok v xs) (ht : e ≠ 62) : some g ≠ v.ownBlock := by
  obtain ⟨hb, hg⟩ := h
  exact Kd.R_ne ho hb ht
theorem IsS62.apartQ {w0 W : World} {g : Nat} {f0 : ByteArray} {f1 : Int} {f2 : Bool} {α : Type} {d : Kd α} {e : Nat} {base : Nat} {ok : Nat → Prop} {v : Value} {xs : List α} (h : IsS62 w0 W g f0 f1 f2) (ho : d.Q e W base ok v xs) (ht : ∀ q, q ∈ e :: d.E → q ≠ 62) : d.Q e W base (fun k => ok k ∧ k ≠ g) v xs := by
  obtain ⟨hb, hg⟩ := h
  exact Kd.Q_types ho hb ht
theorem IsS62.own_neQ {w0 W : World} {g : Nat} {f0 : ByteArray} {f1 : Int} {f2 : Bool} {α : Type} {d : Kd α} {e : Nat} {base : Nat} {ok : Nat → Prop} {v : Value} {xs : List α} (h : IsS62 w0 W g f0 f1 f2) (ho : d.Q e W base ok v xs) (ht : e ≠ 62) : some g ≠ v.ownBlock := by
  obtain ⟨hb, hg⟩ := h
  exact Kd.Q_ne ho hb ht
theorem IsS62.apartS {w0 W : World} {g : Nat} {f0 : ByteArray} {f1 : Int} {f2 : Bool} {α : Type} {d : Kd α} {e : Nat} {base : Nat} {ok : Nat → Prop} {v : Value} {xs : List α} (h : IsS62 w0 W g f0 f1 f2) (ho : d.S e W base ok v xs) (ht : ∀ q, q ∈ e :: d.E → q ≠ 62) : d.S e W base (fun k => ok k ∧ k ≠ g) v xs := by
  obtain ⟨hb, hg⟩ := h
  exact Kd.S_types ho hb ht
theorem IsS62.own_neS {w0 W : World} {g : Nat} {f0 : ByteArray} {f1 : Int} {f2 : Bool} {α : Type} {d : Kd α} {e : Nat} {base : Nat} {ok : Nat → Prop} {v : Value} {xs : List α} (h : IsS62 w0 W g f0 f1 f2) (ho : d.S e W base ok v xs) (ht : e ≠ 62) : some g ≠ v.ownBlock := by
  obtain ⟨hb, hg⟩ := h
  exact Kd.S_ne ho hb ht
theorem IsS62.lt {w0 W : World} {g : Nat} {f0 : ByteArray} {f1 : Int} {f2 : Bool} (h : IsS62 w0 W g f0 f1 f2) : g < W.heap.size := by
  obtain ⟨hb, hg⟩ := h
  exact blk_lt hb
theorem IsS62.ge {w0 W : World} {g : Nat} {f0 : ByteArray} {f1 : Int} {f2 : Bool} (h : IsS62 w0 W g f0 f1 f2) : w0.heap.size ≤ g := by
  obtain ⟨hb, hg⟩ := h
  exact hg
theorem IsS62.ne_blk {w0 W : World} {g : Nat} {f0 : ByteArray} {f1 : Int} {f2 : Bool} {a : Nat} {cs : Array Value} {t : TypeId} {fr : Nat × Nat} (h : IsS62 w0 W g f0 f1 f2) (hb2 : W.heap[a]? = some (.cells cs t fr)) (ht : t ≠ 62) : g ≠ a := by
  obtain ⟨hb, hg⟩ := h
  rintro rfl
  rw [hb] at hb2
  injection hb2 with hb2
  injection hb2 with _ ht2
  exact ht ht2.symm
theorem IsS62.far {w0 W : World} {g : Nat} {f0 : ByteArray} {f1 : Int} {f2 : Bool} {p : Addr} (h : IsS62 w0 W g f0 f1 f2) (hne : g ≠ p.block) (u : Value) : IsS62 w0 (W.setCell p u) g f0 f1 f2 := by
  obtain ⟨hb, hg⟩ := h
  exact ⟨blk_far hb hne u, hg⟩
theorem cellS62_0 {W : World} {g : Nat} {f0 : ByteArray} {f1 : Int} {f2 : Bool} (h : W.heap[g]? = some (.cells #[.string f0, .int .i64 f1, .bool f2] 62 (0, 0))) : W.cell? ⟨g, 0, none⟩ = some (.string f0) := (kC h 0).trans rfl
theorem IsS62.set_0 {w0 W : World} {g : Nat} {f0 : ByteArray} {f1 : Int} {f2 : Bool} (h : IsS62 w0 W g f0 f1 f2) (x : ByteArray) : IsS62 w0 (W.setCell ⟨g, 0, none⟩ (.string x)) g x f1 f2 := by
  obtain ⟨hb, hg⟩ := h
  exact ⟨by simpa using blk_set hb 0 (.string x), hg⟩
theorem cellS62_1 {W : World} {g : Nat} {f0 : ByteArray} {f1 : Int} {f2 : Bool} (h : W.heap[g]? = some (.cells #[.string f0, .int .i64 f1, .bool f2] 62 (0, 0))) : W.cell? ⟨g, 1, none⟩ = some (.int .i64 f1) := (kC h 1).trans rfl
theorem IsS62.set_1 {w0 W : World} {g : Nat} {f0 : ByteArray} {f1 : Int} {f2 : Bool} (h : IsS62 w0 W g f0 f1 f2) (x : Int) : IsS62 w0 (W.setCell ⟨g, 1, none⟩ (.int .i64 x)) g f0 x f2 := by
  obtain ⟨hb, hg⟩ := h
  exact ⟨by simpa using blk_set hb 1 (.int .i64 x), hg⟩
theorem cellS62_2 {W : World} {g : Nat} {f0 : ByteArray} {f1 : Int} {f2 : Bool} (h : W.heap[g]? = some (.cells #[.string f0, .int .i64 f1, .bool f2] 62 (0, 0))) : W.cell? ⟨g, 2, none⟩ = some (.bool f2) := (kC h 2).trans rfl
theorem IsS62.set_2 {w0 W : World} {g : Nat} {f0 : ByteArray} {f1 : Int} {f2 : Bool} (h : IsS62 w0 W g f0 f1 f2) (x : Bool) : IsS62 w0 (W.setCell ⟨g, 2, none⟩ (.bool x)) g f0 f1 x := by
  obtain ⟨hb, hg⟩ := h
  exact ⟨by simpa using blk_set hb 2 (.bool x), hg⟩
theorem IsS62.new (w0 W : World) (f0 : ByteArray) (f1 : Int) (f2 : Bool) (hB : Below w0.heap.size w0 W) : IsS62 w0 (W.alloc (.cells #[.string f0, .int .i64 f1, .bool f2] 62)) W.heap.size f0 f1 f2 := ⟨by simpa using heap_alloc_new W _, hB.size⟩

/-! ### spec_l06Reader_num: function 42 -/
abbrev spec_l06Reader_num.b0 : Array Bool := #[true, true, true, false, true, false, false, false, false, false, false]
abbrev spec_l06Reader_num.b1 : Array Bool := #[true, true, true, false, true, true, false, false, false, false, false]
abbrev spec_l06Reader_num.b2 : Array Bool := #[true, true, true, false, true, true, true, false, false, false, false]
abbrev spec_l06Reader_num.b3 : Array Bool := #[true, true, true, true, true, true, true, true, false, true, false]
def spec_l06Reader_num.f (k : Nat) (s0_0 : ByteArray) (s0_1 : Int) (s0_2 : Bool) : Option (Int × ByteArray × Int × Bool) := (spec_GetNum.f k s0_0 s0_1).bind fun bt101 => (if s0_2 = true then (some (0, s0_0, s0_1, true)) else (if bt101.2.2 = 0 then (some (bt101.1, s0_0, bt101.2.1, s0_2)) else (some (0, s0_0, s0_1, true))))
theorem spec_l06Reader_num.mono : ∀ a0 a1 a2 k, LeO (spec_l06Reader_num.f k a0 a1 a2) (spec_l06Reader_num.f (k + 1) a0 a1 a2) := by
  intro a0 a1 a2 k
  unfold spec_l06Reader_num.f
  repeat' first
      | (with_reducible exact spec_GetNum.mono _ _ _)
      | (with_reducible exact LeO.refl _)
      | (with_reducible exact LeO.none _)
      | (with_reducible refine LeO.ite ?_ ?_)
      | (with_reducible refine LeO.bind ?_ (fun _ => ?_))
      | exact spec_GetNum.mono _ _ _
      | exact LeO.none _
      | refine LeO.ite ?_ ?_
      | refine LeO.bind ?_ (fun _ => ?_)
def spec_l06Reader_num.T1 : Bool × List (List Nat × List Nat) := (true, [([], []), ([0], [0]), ([1], [1]), ([2], [2]), ([], []), ([4], [4]), ([5], [5]), ([6], [6]), ([3, 7], [3, 7]), ([], []), ([9, 8, 8, 0, 1, 2, 3, 4, 5, 6, 7, 8, 9], [8, 9])])
def spec_l06Reader_num.B1 : List Nat := [0, 1, 3, 7, 0, 16, 48, 112, 255, 0, 1023]
theorem spec_l06Reader_num.tab1 : rtab .any (opsOf Tryd.f42 1) = spec_l06Reader_num.T1 := by kernel_rfl
theorem spec_l06Reader_num.bits1 : waitsOk spec_l06Reader_num.T1.2 spec_l06Reader_num.B1 = true := by kernel_rfl
theorem bI62_0_spec_l06Reader_num {n : Nat} {w W W' : World} (h : Below n w W) (f : Below n w W → Below n w W' := by intro h_; repeat (first | (with_reducible first | exact h_ | apply bA | apply bN | apply bD | refine bS ?_ (IsS62.ge HI0.out) | refine bS ?_ (Aside0.out (by assumption))) | exact h_)) : Below n w W' := f h
theorem iX62_6_spec_l06Reader_num {p q : Prop} (h : p) (f : p → q := by intro h_; repeat (first | (with_reducible first | exact h_ | apply IsS62.alloc | apply IsS62.drewN | apply IsS62.drew | apply IsS62.set_0 | apply IsS62.set_1 | apply IsS62.set_2 | refine IsS62.far ?_ (Aside0.out (by assumption)) _ | apply IsS62.far | exact Aside0.out (by assumption)) | exact h_)) : q := f h
set_option maxHeartbeats 60000000 in
set_option maxRecDepth 100000 in
theorem spec_l06Reader_num.calls (k : Nat) (g : Nat) (s0_0 : ByteArray) (s0_1 : Int) (s0_2 : Bool) (r1 : Int) (r2 : ByteArray) (r3 : Int) (r4 : Bool) (w0 w : World) (hI : IsS62 w0 w g s0_0 s0_1 s0_2) (hB : Below w0.heap.size w0 w) (h : spec_l06Reader_num.f k s0_0 s0_1 s0_2 = some (r1, r2, r3, r4)) :
    Calls Tryd.prog 42 #[.pointer (some ⟨g, 0, none⟩)] w fun e w' => e = .returned (.int .i64 r1) ∧ IsS62 w0 w' g r2 r3 r4 ∧ Below w0.heap.size w0 w' ∧ KeepBut w w' g none := by
 have hu69 := Tryd.underlying69
 have HI0 := AM hI
 have HK := AM (KeepBut.refl w g none)
 have HL := AM hB.size
 clear hI
 have HW0 := AM hB.size
 have HB := AM hB
 clear hB
 have H : ((spec_GetNum.f k s0_0 s0_1).bind fun bt101 => (if s0_2 = true then (some (0, s0_0, s0_1, true)) else (if bt101.2.2 = 0 then (some (bt101.1, s0_0, bt101.2.1, s0_2)) else (some (0, s0_0, s0_1, true))))) = some (r1, r2, r3, r4) := h
 clear h
 replace H := Option.bind_eq_some_iff.mp H
 obtain ⟨⟨t101, t102, t103⟩, A20, H⟩ := H
 try dsimp only at H
 have A2 := AM A20
 clear A20
 by_cases c3 : s0_2 = true
 ·
  subst c3
  have H1 : (some (0, s0_0, s0_1, true)) = some (r1, r2, r3, r4) := by rw [if_pos rfl] at H; exact H
  clear H
  have H := H1
  clear H1
  simp only [Option.some.injEq, Prod.mk.injEq] at H
  obtain ⟨rfl, rfl, rfl, rfl⟩ := H
  go_enter Tryd.func42, Tryd.ntmps42
  try go_wp2
  have _ := AM (IsS62.drew HI0.out)
  have _ := AM (keep_drew HK.out)
  have _ := AM (bD HB.out)
  clear HI0 HK HB
  rename_i HI0 HK HB
  refine start_ (n := 11) (S := fun w' => w'.cell? ⟨g, 0, none⟩ = some (.string s0_0) ∧ w'.cell? ⟨g, 1, none⟩ = some (.int .i64 s0_1) ∧ w'.cell? ⟨g, 2, none⟩ = some (.bool true)) (ds := []) (upTo 0 11) (by kernel_rfl) rfl rfl ⟨(kC (AM HI0.out.1).out 0).trans rfl, (kC (AM HI0.out.1).out 1).trans rfl, (kC (AM HI0.out.1).out 2).trans rfl⟩ (fun hHeld => ?_); refine with_tabW spec_l06Reader_num.tab1 spec_l06Reader_num.bits1 (fun HT_ HW_ => ?_)
  generalize w.drew = w4 at HI0 HK HB hHeld ⊢
  refine pF 0 1 11 4 ?_
  refine pF 1 2 11 5 ?_
  refine pF 2 3 11 6 ?_
  refine pF2 4 8 spec_l06Reader_num.b0 ?_
  refine pF2 5 9 spec_l06Reader_num.b1 ?_
  refine pF2 6 10 spec_l06Reader_num.b2 ?_
  refine pT2 3 7 (upTo 7 11) ?_ hHeld
  refine pT2 7 11 (upTo 8 11) ?_ hHeld
  refine join_ (σ := Nat) 1 (upTo 10 11) (fun s_ => [(12, .agg #[.int .i64 t101, .int .i64 t102, .int .i64 t103]), (3, .pointer (some ⟨s_, 0, none⟩))]) (fun s_ w' => (w'.cell? ⟨g, 0, none⟩ = some (.string s0_0) ∧ w'.cell? ⟨g, 1, none⟩ = some (.int .i64 s0_1) ∧ w'.cell? ⟨g, 2, none⟩ = some (.bool true)) ∧ (w'.heap[s_]? = some (.cells #[.int .i64 0, .int .i64 0, .int .i64 0] 69 (0, 0))) ∧ (w.heap.size ≤ s_) ∧ (w0.heap.size ≤ s_) ∧ (g ≠ s_) ∧ (s_ ≠ g) ∧ (IsS62 w0 w' g s0_0 s0_1 true) ∧ (KeepBut w w' g none) ∧ (Below w0.heap.size w0 w')) ?_ ?_
  rotate_left
  ·
   intro hCont
   refine two_ (i := 8) (j := 9) (Ni := some 12) (Nj := some 3) (upTo 9 11) spec_l06Reader_num.b3 rfl rfl rfl rfl (two_of HT_.out (by kernel_rfl)) (by decide) (by decide) (fun K hK => ?_) (fun K hK => ?_)
   ·
    skip
    refine goes_ Tryd.func47 (by kernel_rfl) rfl #[.string s0_0, .int .i64 s0_1] (by rfl) rfl rfl (by (try simp only [mA, mB, mC]); first | done | rfl | (simp only [mD, mE]; rfl)) ?_
    with_reducible refine (spec_GetNum.calls k s0_0 s0_1 t101 t102 t103 _ A2.out).mono ?_
    rintro e w5 ⟨rfl, hb⟩
    refine ⟨_, rfl, ?_⟩
    have _ := AM (IsS62.below (iX62_6_spec_l06Reader_num HI0.out) hb)
    have _ := AM (KeepBut.trans (hX HK.out) (KeepBut.of_below hb g none) (.inl rfl))
    have _ := AM (below_step (bI62_0_spec_l06Reader_num HB.out) hb)
    clear HI0 HK HB
    rename_i HI0 HK HB
    (try clear hb)
    (try clear hk)
    refine hK.out _ _ ⟨(kC (AM HI0.out.1).out 0).trans rfl, (kC (AM HI0.out.1).out 1).trans rfl, (kC (AM HI0.out.1).out 2).trans rfl⟩ (fun hHeld => ?_)
    clear hK K
    refine norm_ (a' := ?_) ?_ ?_
    rotate_left
    ·
     show Act.put _ (some 12) _ = _
     simp only [Act.put, sA, sB, sC, i64_w, i32_w]
     rfl
    refine one_ (i := 9) (N := some 3) (upTo 10 11) rfl rfl (one_of HT_.out (by kernel_rfl)) (by decide) (fun K hK => ?_)
    refine box_step ?hg (N := 3) ?hd (cs := #[.int .i64 0, .int .i64 0, .int .i64 0]) (t := 69) ?hr ?_; (case hd => rfl); (case hg => rfl); (case hr => first | (go_simp; done) | (go_simp; rfl))
    intro gb104 hg w6 hbox hb
    have _ := AM (IsS62.below (iX62_6_spec_l06Reader_num HI0.out) hb)
    have _ := AM (KeepBut.trans (hX HK.out) (KeepBut.of_below hb g none) (.inl rfl))
    have _ := AM (below_step (bI62_0_spec_l06Reader_num HB.out) hb)
    have _ := AM (hbox)
    have _ := AM ((by rw [hg]; exact (keep_size (w := w) (g := g) (row := none) (hX HK.out)) : w.heap.size ≤ gb104))
    have _ := AM ((Nat.le_trans HW0.out (by rw [hg]; exact (keep_size (w := w) (g := g) (row := none) (hX HK.out)) : w.heap.size ≤ gb104) : w0.heap.size ≤ gb104))
    have _ := AM ((by rw [hg]; exact Nat.ne_of_lt (IsS62.lt (show IsS62 w0 _ g s0_0 s0_1 true from iX62_6_spec_l06Reader_num HI0.out)) : g ≠ gb104))
    have _ := AM ((by rw [hg]; exact Nat.ne_of_gt (IsS62.lt (show IsS62 w0 _ g s0_0 s0_1 true from iX62_6_spec_l06Reader_num HI0.out)) : gb104 ≠ g))
    clear HI0 HK HB
    rename_i HI0 HK HB BK104 GW104 GE104 NB0_104 NB104_0
    clear hb hbox hg
    refine hK.out _ _ ⟨(kC (AM HI0.out.1).out 0).trans rfl, (kC (AM HI0.out.1).out 1).trans rfl, (kC (AM HI0.out.1).out 2).trans rfl⟩ (fun hHeld => ?_)
    clear hK K
    refine norm_ (a' := ?_) ?_ ?_
    rotate_left
    ·
     show Act.put _ (some 3) _ = _
     simp only [Act.put, sA, sB, sC, i64_w, i32_w]
     rfl
    exact norm_ (by simp only [putAll, Act.put, List.setIfInBounds_toArray, List.set_cons_zero, List.set_cons_succ]) (hCont (gb104) _ ⟨hHeld, (kX BK104.out), GW104.out, GE104.out, NB0_104.out, NB104_0.out, (iX62_6_spec_l06Reader_num HI0.out), (hX HK.out), (bI62_0_spec_l06Reader_num HB.out)⟩)
   skip
   refine box_step ?hg (N := 3) ?hd (cs := #[.int .i64 0, .int .i64 0, .int .i64 0]) (t := 69) ?hr ?_; (case hd => rfl); (case hg => rfl); (case hr => first | (go_simp; done) | (go_simp; rfl))
   intro gb104 hg w5 hbox hb
   have _ := AM (IsS62.below (iX62_6_spec_l06Reader_num HI0.out) hb)
   have _ := AM (KeepBut.trans (hX HK.out) (KeepBut.of_below hb g none) (.inl rfl))
   have _ := AM (below_step (bI62_0_spec_l06Reader_num HB.out) hb)
   have _ := AM (hbox)
   have _ := AM ((by rw [hg]; exact (keep_size (w := w) (g := g) (row := none) (hX HK.out)) : w.heap.size ≤ gb104))
   have _ := AM ((Nat.le_trans HW0.out (by rw [hg]; exact (keep_size (w := w) (g := g) (row := none) (hX HK.out)) : w.heap.size ≤ gb104) : w0.heap.size ≤ gb104))
   have _ := AM ((by rw [hg]; exact Nat.ne_of_lt (IsS62.lt (show IsS62 w0 _ g s0_0 s0_1 true from iX62_6_spec_l06Reader_num HI0.out)) : g ≠ gb104))
   have _ := AM ((by rw [hg]; exact Nat.ne_of_gt (IsS62.lt (show IsS62 w0 _ g s0_0 s0_1 true from iX62_6_spec_l06Reader_num HI0.out)) : gb104 ≠ g))
   clear HI0 HK HB
   rename_i HI0 HK HB BK104 GW104 GE104 NB0_104 NB104_0
   clear hb hbox hg
   refine hK.out _ _ ⟨(kC (AM HI0.out.1).out 0).trans rfl, (kC (AM HI0.out.1).out 1).trans rfl, (kC (AM HI0.out.1).out 2).trans rfl⟩ (fun hHeld => ?_)
   clear hK K
   refine norm_ (a' := ?_) ?_ ?_
   rotate_left
   ·
    show Act.put _ (some 3) _ = _
    simp only [Act.put, sA, sB, sC, i64_w, i32_w]
    rfl
   refine one_ (i := 8) (N := some 12) (upTo 10 11) rfl rfl (one_of HT_.out (by kernel_rfl)) (by decide) (fun K hK => ?_)
   refine goes_ Tryd.func47 (by kernel_rfl) rfl #[.string s0_0, .int .i64 s0_1] (by rfl) rfl rfl (by (try simp only [mA, mB, mC]); first | done | rfl | (simp only [mD, mE]; rfl)) ?_
   with_reducible refine (spec_GetNum.calls k s0_0 s0_1 t101 t102 t103 _ A2.out).mono ?_
   rintro e w6 ⟨rfl, hb⟩
   refine ⟨_, rfl, ?_⟩
   have _ := AM (IsS62.below (iX62_6_spec_l06Reader_num HI0.out) hb)
   have _ := AM (nB BK104.out hb)
   have _ := AM (KeepBut.trans (hX HK.out) (KeepBut.of_below hb g none) (.inl rfl))
   have _ := AM (below_step (bI62_0_spec_l06Reader_num HB.out) hb)
   clear HI0 BK104 HK HB
   rename_i HI0 BK104 HK HB
   (try clear hb)
   (try clear hk)
   refine hK.out _ _ ⟨(kC (AM HI0.out.1).out 0).trans rfl, (kC (AM HI0.out.1).out 1).trans rfl, (kC (AM HI0.out.1).out 2).trans rfl⟩ (fun hHeld => ?_)
   clear hK K
   refine norm_ (a' := ?_) ?_ ?_
   rotate_left
   ·
    show Act.put _ (some 12) _ = _
    simp only [Act.put, sA, sB, sC, i64_w, i32_w]
    rfl
   exact norm_ (by simp only [putAll, Act.put, List.setIfInBounds_toArray, List.set_cons_zero, List.set_cons_succ]) (hCont (gb104) _ ⟨hHeld, (kX BK104.out), GW104.out, GE104.out, NB0_104.out, NB104_0.out, (iX62_6_spec_l06Reader_num HI0.out), (hX HK.out), (bI62_0_spec_l06Reader_num HB.out)⟩)
  rintro gb104 w7 ⟨hS_, h0_, h1_, h2_, h3_, h4_, h5_, h6_, h7_⟩
  have _ : Aside0 (w7.heap[gb104]? = some (.cells #[.int .i64 0, .int .i64 0, .int .i64 0] 69 (0, 0))) := ⟨h0_⟩
  have _ : Aside0 (w.heap.size ≤ gb104) := ⟨h1_⟩
  have _ : Aside0 (w0.heap.size ≤ gb104) := ⟨h2_⟩
  have _ : Aside0 (g ≠ gb104) := ⟨h3_⟩
  have _ : Aside0 (gb104 ≠ g) := ⟨h4_⟩
  have _ : Aside0 (IsS62 w0 w7 g s0_0 s0_1 true) := ⟨h5_⟩
  have _ : Aside0 (KeepBut w w7 g none) := ⟨h6_⟩
  have _ : Aside0 (Below w0.heap.size w0 w7) := ⟨h7_⟩
  clear HI0 HK HB h0_ h1_ h2_ h3_ h4_ h5_ h6_ h7_
  rename_i BK104 GW104 GE104 NB0_104 NB104_0 HI0 HK HB
  have hHeld : w7.cell? ⟨g, 0, none⟩ = some (.string s0_0) ∧ w7.cell? ⟨g, 1, none⟩ = some (.int .i64 s0_1) ∧ w7.cell? ⟨g, 2, none⟩ = some (.bool true) := hS_
  refine norm_ (a' := ?_) ?_ ?_
  rotate_left
  ·
   simp only [putAll, Act.put, List.setIfInBounds_toArray, List.set_cons_zero, List.set_cons_succ]
   rfl
  refine one_ (i := 10) (N := none) (upTo 11 11) rfl rfl (one_of HT_.out (by kernel_rfl)) (by decide) (fun K hK => ?_)
  have hs8 : w7.cell? ⟨gb104, 0, none⟩ = some (.int .i64 0) := (kC BK104.out 0).trans rfl
  have hfs8 := fZ BK104.out 0
  have hs9 : w7.cell? ⟨gb104, 1, none⟩ = some (.int .i64 0) := (kC BK104.out 1).trans rfl
  have hfs9 := fZ BK104.out 1
  have hs10 : w7.cell? ⟨gb104, 2, none⟩ = some (.int .i64 0) := (kC BK104.out 2).trans rfl
  have hfs10 := fZ BK104.out 2
  refine skip_ (w1 := ?_) (by rfl) rfl ?_ ?_
  rotate_left
  ·
   go_simp
   rfl
  refine hK.out _ _ ⟨(cT NB0_104.out ((cT NB0_104.out ((cT NB0_104.out (hHeld.1)))))), (cT NB0_104.out ((cT NB0_104.out ((cT NB0_104.out (hHeld.2.1)))))), (cT NB0_104.out ((cT NB0_104.out ((cT NB0_104.out (hHeld.2.2))))))⟩ (fun hHeld => ?_)
  clear hK K
  refine done_ (done_of HT_.out (by kernel_rfl)) ?_
  obtain ⟨HGz11, hgz11⟩ := HI0.out
  have hcz11_0 := cellS62_0 HGz11
  have hcz11_1 := cellS62_1 HGz11
  have hcz11_2 := cellS62_2 HGz11
  have hfz11_0 := fZ HGz11 0
  have hfz11_1 := fZ HGz11 1
  have hfz11_2 := fZ HGz11 2
  clear HGz11 hgz11
  try go_wp2
  go_ret
  exact ⟨by first | rfl | (simp [*, errW_none, errW_some] <;> rfl), iX62_6_spec_l06Reader_num HI0.out, bI62_0_spec_l06Reader_num HB.out, hX HK.out⟩
 replace c3 := Bool.eq_false_iff.mpr c3
 subst c3
 have H1 : (if t103 = 0 then (some (t101, s0_0, t102, false)) else (some (0, s0_0, s0_1, true))) = some (r1, r2, r3, r4) := by rw [if_neg (show ¬ (false = true) by decide)] at H; exact H
 clear H
 have H := H1
 clear H1
 by_cases c12 : t103 = 0
 ·
  rw [if_pos c12] at H
  have c12b0 : (t103 == 0) = true := beq_iff_eq.mpr c12
  have c12b1 : (t103 != 0) = false := bne_eq_false_iff_eq.mpr c12
  clear c12
  simp only [Option.some.injEq, Prod.mk.injEq] at H
  obtain ⟨rfl, rfl, rfl, rfl⟩ := H
  go_enter Tryd.func42, Tryd.ntmps42
  try go_wp2
  have _ := AM (IsS62.drew HI0.out)
  have _ := AM (keep_drew HK.out)
  have _ := AM (bD HB.out)
  clear HI0 HK HB
  rename_i HI0 HK HB
  refine start_ (n := 11) (S := fun w' => w'.cell? ⟨g, 0, none⟩ = some (.string s0_0) ∧ w'.cell? ⟨g, 1, none⟩ = some (.int .i64 s0_1) ∧ w'.cell? ⟨g, 2, none⟩ = some (.bool false)) (ds := []) (upTo 0 11) (by kernel_rfl) rfl rfl ⟨(kC (AM HI0.out.1).out 0).trans rfl, (kC (AM HI0.out.1).out 1).trans rfl, (kC (AM HI0.out.1).out 2).trans rfl⟩ (fun hHeld => ?_); refine with_tabW spec_l06Reader_num.tab1 spec_l06Reader_num.bits1 (fun HT_ HW_ => ?_)
  generalize w.drew = w13 at HI0 HK HB hHeld ⊢
  refine pF 0 1 11 4 ?_
  refine pF 1 2 11 5 ?_
  refine pF 2 3 11 6 ?_
  refine pF2 4 8 spec_l06Reader_num.b0 ?_
  refine pF2 5 9 spec_l06Reader_num.b1 ?_
  refine pF2 6 10 spec_l06Reader_num.b2 ?_
  refine pT2 3 7 (upTo 7 11) ?_ hHeld
  refine pT2 7 11 (upTo 8 11) ?_ hHeld
  refine join_ (σ := Nat) 1 (upTo 10 11) (fun s_ => [(12, .agg #[.int .i64 t101, .int .i64 t102, .int .i64 t103]), (3, .pointer (some ⟨s_, 0, none⟩))]) (fun s_ w' => (w'.cell? ⟨g, 0, none⟩ = some (.string s0_0) ∧ w'.cell? ⟨g, 1, none⟩ = some (.int .i64 s0_1) ∧ w'.cell? ⟨g, 2, none⟩ = some (.bool false)) ∧ (w'.heap[s_]? = some (.cells #[.int .i64 0, .int .i64 0, .int .i64 0] 69 (0, 0))) ∧ (w.heap.size ≤ s_) ∧ (w0.heap.size ≤ s_) ∧ (g ≠ s_) ∧ (s_ ≠ g) ∧ (IsS62 w0 w' g s0_0 s0_1 false) ∧ (KeepBut w w' g none) ∧ (Below w0.heap.size w0 w')) ?_ ?_
  rotate_left
  ·
   intro hCont
   refine two_ (i := 8) (j := 9) (Ni := some 12) (Nj := some 3) (upTo 9 11) spec_l06Reader_num.b3 rfl rfl rfl rfl (two_of HT_.out (by kernel_rfl)) (by decide) (by decide) (fun K hK => ?_) (fun K hK => ?_)
   ·
    skip
    refine goes_ Tryd.func47 (by kernel_rfl) rfl #[.string s0_0, .int .i64 s0_1] (by rfl) rfl rfl (by (try simp only [mA, mB, mC]); first | done | rfl | (simp only [mD, mE]; rfl)) ?_
    with_reducible refine (spec_GetNum.calls k s0_0 s0_1 t101 t102 t103 _ A2.out).mono ?_
    rintro e w14 ⟨rfl, hb⟩
    refine ⟨_, rfl, ?_⟩
    have _ := AM (IsS62.below (iX62_6_spec_l06Reader_num HI0.out) hb)
    have _ := AM (KeepBut.trans (hX HK.out) (KeepBut.of_below hb g none) (.inl rfl))
    have _ := AM (below_step (bI62_0_spec_l06Reader_num HB.out) hb)
    clear HI0 HK HB
    rename_i HI0 HK HB
    (try clear hb)
    (try clear hk)
    refine hK.out _ _ ⟨(kC (AM HI0.out.1).out 0).trans rfl, (kC (AM HI0.out.1).out 1).trans rfl, (kC (AM HI0.out.1).out 2).trans rfl⟩ (fun hHeld => ?_)
    clear hK K
    refine norm_ (a' := ?_) ?_ ?_
    rotate_left
    ·
     show Act.put _ (some 12) _ = _
     simp only [Act.put, sA, sB, sC, i64_w, i32_w]
     rfl
    refine one_ (i := 9) (N := some 3) (upTo 10 11) rfl rfl (one_of HT_.out (by kernel_rfl)) (by decide) (fun K hK => ?_)
    refine box_step ?hg (N := 3) ?hd (cs := #[.int .i64 0, .int .i64 0, .int .i64 0]) (t := 69) ?hr ?_; (case hd => rfl); (case hg => rfl); (case hr => first | (go_simp; done) | (go_simp; rfl))
    intro gb104 hg w15 hbox hb
    have _ := AM (IsS62.below (iX62_6_spec_l06Reader_num HI0.out) hb)
    have _ := AM (KeepBut.trans (hX HK.out) (KeepBut.of_below hb g none) (.inl rfl))
    have _ := AM (below_step (bI62_0_spec_l06Reader_num HB.out) hb)
    have _ := AM (hbox)
    have _ := AM ((by rw [hg]; exact (keep_size (w := w) (g := g) (row := none) (hX HK.out)) : w.heap.size ≤ gb104))
    have _ := AM ((Nat.le_trans HW0.out (by rw [hg]; exact (keep_size (w := w) (g := g) (row := none) (hX HK.out)) : w.heap.size ≤ gb104) : w0.heap.size ≤ gb104))
    have _ := AM ((by rw [hg]; exact Nat.ne_of_lt (IsS62.lt (show IsS62 w0 _ g s0_0 s0_1 false from iX62_6_spec_l06Reader_num HI0.out)) : g ≠ gb104))
    have _ := AM ((by rw [hg]; exact Nat.ne_of_gt (IsS62.lt (show IsS62 w0 _ g s0_0 s0_1 false from iX62_6_spec_l06Reader_num HI0.out)) : gb104 ≠ g))
    clear HI0 HK HB
    rename_i HI0 HK HB BK104 GW104 GE104 NB0_104 NB104_0
    clear hb hbox hg
    refine hK.out _ _ ⟨(kC (AM HI0.out.1).out 0).trans rfl, (kC (AM HI0.out.1).out 1).trans rfl, (kC (AM HI0.out.1).out 2).trans rfl⟩ (fun hHeld => ?_)
    clear hK K
    refine norm_ (a' := ?_) ?_ ?_
    rotate_left
    ·
     show Act.put _ (some 3) _ = _
     simp only [Act.put, sA, sB, sC, i64_w, i32_w]
     rfl
    exact norm_ (by simp only [putAll, Act.put, List.setIfInBounds_toArray, List.set_cons_zero, List.set_cons_succ]) (hCont (gb104) _ ⟨hHeld, (kX BK104.out), GW104.out, GE104.out, NB0_104.out, NB104_0.out, (iX62_6_spec_l06Reader_num HI0.out), (hX HK.out), (bI62_0_spec_l06Reader_num HB.out)⟩)
   skip
   refine box_step ?hg (N := 3) ?hd (cs := #[.int .i64 0, .int .i64 0, .int .i64 0]) (t := 69) ?hr ?_; (case hd => rfl); (case hg => rfl); (case hr => first | (go_simp; done) | (go_simp; rfl))
   intro gb104 hg w14 hbox hb
   have _ := AM (IsS62.below (iX62_6_spec_l06Reader_num HI0.out) hb)
   have _ := AM (KeepBut.trans (hX HK.out) (KeepBut.of_below hb g none) (.inl rfl))
   have _ := AM (below_step (bI62_0_spec_l06Reader_num HB.out) hb)
   have _ := AM (hbox)
   have _ := AM ((by rw [hg]; exact (keep_size (w := w) (g := g) (row := none) (hX HK.out)) : w.heap.size ≤ gb104))
   have _ := AM ((Nat.le_trans HW0.out (by rw [hg]; exact (keep_size (w := w) (g := g) (row := none) (hX HK.out)) : w.heap.size ≤ gb104) : w0.heap.size ≤ gb104))
   have _ := AM ((by rw [hg]; exact Nat.ne_of_lt (IsS62.lt (show IsS62 w0 _ g s0_0 s0_1 false from iX62_6_spec_l06Reader_num HI0.out)) : g ≠ gb104))
   have _ := AM ((by rw [hg]; exact Nat.ne_of_gt (IsS62.lt (show IsS62 w0 _ g s0_0 s0_1 false from iX62_6_spec_l06Reader_num HI0.out)) : gb104 ≠ g))
   clear HI0 HK HB
   rename_i HI0 HK HB BK104 GW104 GE104 NB0_104 NB104_0
   clear hb hbox hg
   refine hK.out _ _ ⟨(kC (AM HI0.out.1).out 0).trans rfl, (kC (AM HI0.out.1).out 1).trans rfl, (kC (AM HI0.out.1).out 2).trans rfl⟩ (fun hHeld => ?_)
   clear hK K
   refine norm_ (a' := ?_) ?_ ?_
   rotate_left
   ·
    show Act.put _ (some 3) _ = _
    simp only [Act.put, sA, sB, sC, i64_w, i32_w]
    rfl
   refine one_ (i := 8) (N := some 12) (upTo 10 11) rfl rfl (one_of HT_.out (by kernel_rfl)) (by decide) (fun K hK => ?_)
   refine goes_ Tryd.func47 (by kernel_rfl) rfl #[.string s0_0, .int .i64 s0_1] (by rfl) rfl rfl (by (try simp only [mA, mB, mC]); first | done | rfl | (simp only [mD, mE]; rfl)) ?_
   with_reducible refine (spec_GetNum.calls k s0_0 s0_1 t101 t102 t103 _ A2.out).mono ?_
   rintro e w15 ⟨rfl, hb⟩
   refine ⟨_, rfl, ?_⟩
   have _ := AM (IsS62.below (iX62_6_spec_l06Reader_num HI0.out) hb)
   have _ := AM (nB BK104.out hb)
   have _ := AM (KeepBut.trans (hX HK.out) (KeepBut.of_below hb g none) (.inl rfl))
   have _ := AM (below_step (bI62_0_spec_l06Reader_num HB.out) hb)
   clear HI0 BK104 HK HB
   rename_i HI0 BK104 HK HB
   (try clear hb)
   (try clear hk)
   refine hK.out _ _ ⟨(kC (AM HI0.out.1).out 0).trans rfl, (kC (AM HI0.out.1).out 1).trans rfl, (kC (AM HI0.out.1).out 2).trans rfl⟩ (fun hHeld => ?_)
   clear hK K
   refine norm_ (a' := ?_) ?_ ?_
   rotate_left
   ·
    show Act.put _ (some 12) _ = _
    simp only [Act.put, sA, sB, sC, i64_w, i32_w]
    rfl
   exact norm_ (by simp only [putAll, Act.put, List.setIfInBounds_toArray, List.set_cons_zero, List.set_cons_succ]) (hCont (gb104) _ ⟨hHeld, (kX BK104.out), GW104.out, GE104.out, NB0_104.out, NB104_0.out, (iX62_6_spec_l06Reader_num HI0.out), (hX HK.out), (bI62_0_spec_l06Reader_num HB.out)⟩)
  rintro gb104 w16 ⟨hS_, h0_, h1_, h2_, h3_, h4_, h5_, h6_, h7_⟩
  have _ : Aside0 (w16.heap[gb104]? = some (.cells #[.int .i64 0, .int .i64 0, .int .i64 0] 69 (0, 0))) := ⟨h0_⟩
  have _ : Aside0 (w.heap.size ≤ gb104) := ⟨h1_⟩
  have _ : Aside0 (w0.heap.size ≤ gb104) := ⟨h2_⟩
  have _ : Aside0 (g ≠ gb104) := ⟨h3_⟩
  have _ : Aside0 (gb104 ≠ g) := ⟨h4_⟩
  have _ : Aside0 (IsS62 w0 w16 g s0_0 s0_1 false) := ⟨h5_⟩
  have _ : Aside0 (KeepBut w w16 g none) := ⟨h6_⟩
  have _ : Aside0 (Below w0.heap.size w0 w16) := ⟨h7_⟩
  clear HI0 HK HB h0_ h1_ h2_ h3_ h4_ h5_ h6_ h7_
  rename_i BK104 GW104 GE104 NB0_104 NB104_0 HI0 HK HB
  have hHeld : w16.cell? ⟨g, 0, none⟩ = some (.string s0_0) ∧ w16.cell? ⟨g, 1, none⟩ = some (.int .i64 s0_1) ∧ w16.cell? ⟨g, 2, none⟩ = some (.bool false) := hS_
  refine norm_ (a' := ?_) ?_ ?_
  rotate_left
  ·
   simp only [putAll, Act.put, List.setIfInBounds_toArray, List.set_cons_zero, List.set_cons_succ]
   rfl
  refine one_ (i := 10) (N := none) (upTo 11 11) rfl rfl (one_of HT_.out (by kernel_rfl)) (by decide) (fun K hK => ?_)
  have hs17 : w16.cell? ⟨gb104, 0, none⟩ = some (.int .i64 0) := (kC BK104.out 0).trans rfl
  have hfs17 := fZ BK104.out 0
  have hs18 : w16.cell? ⟨gb104, 1, none⟩ = some (.int .i64 0) := (kC BK104.out 1).trans rfl
  have hfs18 := fZ BK104.out 1
  have hs19 : w16.cell? ⟨gb104, 2, none⟩ = some (.int .i64 0) := (kC BK104.out 2).trans rfl
  have hfs19 := fZ BK104.out 2
  refine skip_ (w1 := ?_) (by rfl) rfl ?_ ?_
  rotate_left
  ·
   go_simp
   rfl
  refine hK.out _ _ ⟨(cT NB0_104.out ((cT NB0_104.out ((cT NB0_104.out (hHeld.1)))))), (cT NB0_104.out ((cT NB0_104.out ((cT NB0_104.out (hHeld.2.1)))))), (cT NB0_104.out ((cT NB0_104.out ((cT NB0_104.out (hHeld.2.2))))))⟩ (fun hHeld => ?_)
  clear hK K
  refine done_ (done_of HT_.out (by kernel_rfl)) ?_
  obtain ⟨HGz20, hgz20⟩ := HI0.out
  have hcz20_0 := cellS62_0 HGz20
  have hcz20_1 := cellS62_1 HGz20
  have hcz20_2 := cellS62_2 HGz20
  have hfz20_0 := fZ HGz20 0
  have hfz20_1 := fZ HGz20 1
  have hfz20_2 := fZ HGz20 2
  clear HGz20 hgz20
  have hnb21 := NB104_0.out
  have hnc21 := NB0_104.out
  have hcz22 := q3 BK104.out
  have hfz22 := fZ BK104.out
  try go_wp2
  go_ret
  exact ⟨by first | rfl | (simp [*, errW_none, errW_some] <;> rfl), iX62_6_spec_l06Reader_num HI0.out, bI62_0_spec_l06Reader_num HB.out, hX HK.out⟩
 rw [if_neg c12] at H
 have c12b0 : (t103 == 0) = false := beq_eq_false_iff_ne.mpr c12
 have c12b1 : (t103 != 0) = true := bne_iff_ne.mpr c12
 simp only [Option.some.injEq, Prod.mk.injEq] at H
 obtain ⟨rfl, rfl, rfl, rfl⟩ := H
 go_enter Tryd.func42, Tryd.ntmps42
 try go_wp2
 have _ := AM (IsS62.drew HI0.out)
 have _ := AM (keep_drew HK.out)
 have _ := AM (bD HB.out)
 clear HI0 HK HB
 rename_i HI0 HK HB
 refine start_ (n := 11) (S := fun w' => w'.cell? ⟨g, 0, none⟩ = some (.string s0_0) ∧ w'.cell? ⟨g, 1, none⟩ = some (.int .i64 s0_1) ∧ w'.cell? ⟨g, 2, none⟩ = some (.bool false)) (ds := []) (upTo 0 11) (by kernel_rfl) rfl rfl ⟨(kC (AM HI0.out.1).out 0).trans rfl, (kC (AM HI0.out.1).out 1).trans rfl, (kC (AM HI0.out.1).out 2).trans rfl⟩ (fun hHeld => ?_); refine with_tabW spec_l06Reader_num.tab1 spec_l06Reader_num.bits1 (fun HT_ HW_ => ?_)
 generalize w.drew = w23 at HI0 HK HB hHeld ⊢
 refine pF 0 1 11 4 ?_
 refine pF 1 2 11 5 ?_
 refine pF 2 3 11 6 ?_
 refine pF2 4 8 spec_l06Reader_num.b0 ?_
 refine pF2 5 9 spec_l06Reader_num.b1 ?_
 refine pF2 6 10 spec_l06Reader_num.b2 ?_
 refine pT2 3 7 (upTo 7 11) ?_ hHeld
 refine pT2 7 11 (upTo 8 11) ?_ hHeld
 refine join_ (σ := Nat) 1 (upTo 10 11) (fun s_ => [(12, .agg #[.int .i64 t101, .int .i64 t102, .int .i64 t103]), (3, .pointer (some ⟨s_, 0, none⟩))]) (fun s_ w' => (w'.cell? ⟨g, 0, none⟩ = some (.string s0_0) ∧ w'.cell? ⟨g, 1, none⟩ = some (.int .i64 s0_1) ∧ w'.cell? ⟨g, 2, none⟩ = some (.bool false)) ∧ (w'.heap[s_]? = some (.cells #[.int .i64 0, .int .i64 0, .int .i64 0] 69 (0, 0))) ∧ (w.heap.size ≤ s_) ∧ (w0.heap.size ≤ s_) ∧ (g ≠ s_) ∧ (s_ ≠ g) ∧ (IsS62 w0 w' g s0_0 s0_1 false) ∧ (KeepBut w w' g none) ∧ (Below w0.heap.size w0 w')) ?_ ?_
 rotate_left
 ·
  intro hCont
  refine two_ (i := 8) (j := 9) (Ni := some 12) (Nj := some 3) (upTo 9 11) spec_l06Reader_num.b3 rfl rfl rfl rfl (two_of HT_.out (by kernel_rfl)) (by decide) (by decide) (fun K hK => ?_) (fun K hK => ?_)
  ·
   skip
   refine goes_ Tryd.func47 (by kernel_rfl) rfl #[.string s0_0, .int .i64 s0_1] (by rfl) rfl rfl (by (try simp only [mA, mB, mC]); first | done | rfl | (simp only [mD, mE]; rfl)) ?_
   with_reducible refine (spec_GetNum.calls k s0_0 s0_1 t101 t102 t103 _ A2.out).mono ?_
   rintro e w24 ⟨rfl, hb⟩
   refine ⟨_, rfl, ?_⟩
   have _ := AM (IsS62.below (iX62_6_spec_l06Reader_num HI0.out) hb)
   have _ := AM (KeepBut.trans (hX HK.out) (KeepBut.of_below hb g none) (.inl rfl))
   have _ := AM (below_step (bI62_0_spec_l06Reader_num HB.out) hb)
   clear HI0 HK HB
   rename_i HI0 HK HB
   (try clear hb)
   (try clear hk)
   refine hK.out _ _ ⟨(kC (AM HI0.out.1).out 0).trans rfl, (kC (AM HI0.out.1).out 1).trans rfl, (kC (AM HI0.out.1).out 2).trans rfl⟩ (fun hHeld => ?_)
   clear hK K
   refine norm_ (a' := ?_) ?_ ?_
   rotate_left
   ·
    show Act.put _ (some 12) _ = _
    simp only [Act.put, sA, sB, sC, i64_w, i32_w]
    rfl
   refine one_ (i := 9) (N := some 3) (upTo 10 11) rfl rfl (one_of HT_.out (by kernel_rfl)) (by decide) (fun K hK => ?_)
   refine box_step ?hg (N := 3) ?hd (cs := #[.int .i64 0, .int .i64 0, .int .i64 0]) (t := 69) ?hr ?_; (case hd => rfl); (case hg => rfl); (case hr => first | (go_simp; done) | (go_simp; rfl))
   intro gb104 hg w25 hbox hb
   have _ := AM (IsS62.below (iX62_6_spec_l06Reader_num HI0.out) hb)
   have _ := AM (KeepBut.trans (hX HK.out) (KeepBut.of_below hb g none) (.inl rfl))
   have _ := AM (below_step (bI62_0_spec_l06Reader_num HB.out) hb)
   have _ := AM (hbox)
   have _ := AM ((by rw [hg]; exact (keep_size (w := w) (g := g) (row := none) (hX HK.out)) : w.heap.size ≤ gb104))
   have _ := AM ((Nat.le_trans HW0.out (by rw [hg]; exact (keep_size (w := w) (g := g) (row := none) (hX HK.out)) : w.heap.size ≤ gb104) : w0.heap.size ≤ gb104))
   have _ := AM ((by rw [hg]; exact Nat.ne_of_lt (IsS62.lt (show IsS62 w0 _ g s0_0 s0_1 false from iX62_6_spec_l06Reader_num HI0.out)) : g ≠ gb104))
   have _ := AM ((by rw [hg]; exact Nat.ne_of_gt (IsS62.lt (show IsS62 w0 _ g s0_0 s0_1 false from iX62_6_spec_l06Reader_num HI0.out)) : gb104 ≠ g))
   clear HI0 HK HB
   rename_i HI0 HK HB BK104 GW104 GE104 NB0_104 NB104_0
   clear hb hbox hg
   refine hK.out _ _ ⟨(kC (AM HI0.out.1).out 0).trans rfl, (kC (AM HI0.out.1).out 1).trans rfl, (kC (AM HI0.out.1).out 2).trans rfl⟩ (fun hHeld => ?_)
   clear hK K
   refine norm_ (a' := ?_) ?_ ?_
   rotate_left
   ·
    show Act.put _ (some 3) _ = _
    simp only [Act.put, sA, sB, sC, i64_w, i32_w]
    rfl
   exact norm_ (by simp only [putAll, Act.put, List.setIfInBounds_toArray, List.set_cons_zero, List.set_cons_succ]) (hCont (gb104) _ ⟨hHeld, (kX BK104.out), GW104.out, GE104.out, NB0_104.out, NB104_0.out, (iX62_6_spec_l06Reader_num HI0.out), (hX HK.out), (bI62_0_spec_l06Reader_num HB.out)⟩)
  skip
  refine box_step ?hg (N := 3) ?hd (cs := #[.int .i64 0, .int .i64 0, .int .i64 0]) (t := 69) ?hr ?_; (case hd => rfl); (case hg => rfl); (case hr => first | (go_simp; done) | (go_simp; rfl))
  intro gb104 hg w24 hbox hb
  have _ := AM (IsS62.below (iX62_6_spec_l06Reader_num HI0.out) hb)
  have _ := AM (KeepBut.trans (hX HK.out) (KeepBut.of_below hb g none) (.inl rfl))
  have _ := AM (below_step (bI62_0_spec_l06Reader_num HB.out) hb)
  have _ := AM (hbox)
  have _ := AM ((by rw [hg]; exact (keep_size (w := w) (g := g) (row := none) (hX HK.out)) : w.heap.size ≤ gb104))
  have _ := AM ((Nat.le_trans HW0.out (by rw [hg]; exact (keep_size (w := w) (g := g) (row := none) (hX HK.out)) : w.heap.size ≤ gb104) : w0.heap.size ≤ gb104))
  have _ := AM ((by rw [hg]; exact Nat.ne_of_lt (IsS62.lt (show IsS62 w0 _ g s0_0 s0_1 false from iX62_6_spec_l06Reader_num HI0.out)) : g ≠ gb104))
  have _ := AM ((by rw [hg]; exact Nat.ne_of_gt (IsS62.lt (show IsS62 w0 _ g s0_0 s0_1 false from iX62_6_spec_l06Reader_num HI0.out)) : gb104 ≠ g))
  clear HI0 HK HB
  rename_i HI0 HK HB BK104 GW104 GE104 NB0_104 NB104_0
  clear hb hbox hg
  refine hK.out _ _ ⟨(kC (AM HI0.out.1).out 0).trans rfl, (kC (AM HI0.out.1).out 1).trans rfl, (kC (AM HI0.out.1).out 2).trans rfl⟩ (fun hHeld => ?_)
  clear hK K
  refine norm_ (a' := ?_) ?_ ?_
  rotate_left
  ·
   show Act.put _ (some 3) _ = _
   simp only [Act.put, sA, sB, sC, i64_w, i32_w]
   rfl
  refine one_ (i := 8) (N := some 12) (upTo 10 11) rfl rfl (one_of HT_.out (by kernel_rfl)) (by decide) (fun K hK => ?_)
  refine goes_ Tryd.func47 (by kernel_rfl) rfl #[.string s0_0, .int .i64 s0_1] (by rfl) rfl rfl (by (try simp only [mA, mB, mC]); first | done | rfl | (simp only [mD, mE]; rfl)) ?_
  with_reducible refine (spec_GetNum.calls k s0_0 s0_1 t101 t102 t103 _ A2.out).mono ?_
  rintro e w25 ⟨rfl, hb⟩
  refine ⟨_, rfl, ?_⟩
  have _ := AM (IsS62.below (iX62_6_spec_l06Reader_num HI0.out) hb)
  have _ := AM (nB BK104.out hb)
  have _ := AM (KeepBut.trans (hX HK.out) (KeepBut.of_below hb g none) (.inl rfl))
  have _ := AM (below_step (bI62_0_spec_l06Reader_num HB.out) hb)
  clear HI0 BK104 HK HB
  rename_i HI0 BK104 HK HB
  (try clear hb)
  (try clear hk)
  refine hK.out _ _ ⟨(kC (AM HI0.out.1).out 0).trans rfl, (kC (AM HI0.out.1).out 1).trans rfl, (kC (AM HI0.out.1).out 2).trans rfl⟩ (fun hHeld => ?_)
  clear hK K
  refine norm_ (a' := ?_) ?_ ?_
  rotate_left
  ·
   show Act.put _ (some 12) _ = _
   simp only [Act.put, sA, sB, sC, i64_w, i32_w]
   rfl
  exact norm_ (by simp only [putAll, Act.put, List.setIfInBounds_toArray, List.set_cons_zero, List.set_cons_succ]) (hCont (gb104) _ ⟨hHeld, (kX BK104.out), GW104.out, GE104.out, NB0_104.out, NB104_0.out, (iX62_6_spec_l06Reader_num HI0.out), (hX HK.out), (bI62_0_spec_l06Reader_num HB.out)⟩)
 rintro gb104 w26 ⟨hS_, h0_, h1_, h2_, h3_, h4_, h5_, h6_, h7_⟩
 have _ : Aside0 (w26.heap[gb104]? = some (.cells #[.int .i64 0, .int .i64 0, .int .i64 0] 69 (0, 0))) := ⟨h0_⟩
 have _ : Aside0 (w.heap.size ≤ gb104) := ⟨h1_⟩
 have _ : Aside0 (w0.heap.size ≤ gb104) := ⟨h2_⟩
 have _ : Aside0 (g ≠ gb104) := ⟨h3_⟩
 have _ : Aside0 (gb104 ≠ g) := ⟨h4_⟩
 have _ : Aside0 (IsS62 w0 w26 g s0_0 s0_1 false) := ⟨h5_⟩
 have _ : Aside0 (KeepBut w w26 g none) := ⟨h6_⟩
 have _ : Aside0 (Below w0.heap.size w0 w26) := ⟨h7_⟩
 clear HI0 HK HB h0_ h1_ h2_ h3_ h4_ h5_ h6_ h7_
 rename_i BK104 GW104 GE104 NB0_104 NB104_0 HI0 HK HB
 have hHeld : w26.cell? ⟨g, 0, none⟩ = some (.string s0_0) ∧ w26.cell? ⟨g, 1, none⟩ = some (.int .i64 s0_1) ∧ w26.cell? ⟨g, 2, none⟩ = some (.bool false) := hS_
 refine norm_ (a' := ?_) ?_ ?_
 rotate_left
 ·
  simp only [putAll, Act.put, List.setIfInBounds_toArray, List.set_cons_zero, List.set_cons_succ]
  rfl
 refine one_ (i := 10) (N := none) (upTo 11 11) rfl rfl (one_of HT_.out (by kernel_rfl)) (by decide) (fun K hK => ?_)
 have hs27 : w26.cell? ⟨gb104, 0, none⟩ = some (.int .i64 0) := (kC BK104.out 0).trans rfl
 have hfs27 := fZ BK104.out 0
 have hs28 : w26.cell? ⟨gb104, 1, none⟩ = some (.int .i64 0) := (kC BK104.out 1).trans rfl
 have hfs28 := fZ BK104.out 1
 have hs29 : w26.cell? ⟨gb104, 2, none⟩ = some (.int .i64 0) := (kC BK104.out 2).trans rfl
 have hfs29 := fZ BK104.out 2
 refine skip_ (w1 := ?_) (by rfl) rfl ?_ ?_
 rotate_left
 ·
  go_simp
  rfl
 refine hK.out _ _ ⟨(cT NB0_104.out ((cT NB0_104.out ((cT NB0_104.out (hHeld.1)))))), (cT NB0_104.out ((cT NB0_104.out ((cT NB0_104.out (hHeld.2.1)))))), (cT NB0_104.out ((cT NB0_104.out ((cT NB0_104.out (hHeld.2.2))))))⟩ (fun hHeld => ?_)
 clear hK K
 refine done_ (done_of HT_.out (by kernel_rfl)) ?_
 obtain ⟨HGz30, hgz30⟩ := HI0.out
 have hcz30_0 := cellS62_0 HGz30
 have hcz30_1 := cellS62_1 HGz30
 have hcz30_2 := cellS62_2 HGz30
 have hfz30_0 := fZ HGz30 0
 have hfz30_1 := fZ HGz30 1
 have hfz30_2 := fZ HGz30 2
 clear HGz30 hgz30
 have hnb31 := NB104_0.out
 have hnc31 := NB0_104.out
 have hcz32 := q3 BK104.out
 have hfz32 := fZ BK104.out
 try go_wp2
 go_ret
 exact ⟨by first | rfl | (simp [*, errW_none, errW_some] <;> rfl), iX62_6_spec_l06Reader_num HI0.out, bI62_0_spec_l06Reader_num HB.out, hX HK.out⟩

/-! ### spec_GetText: function 48 -/
abbrev spec_GetText.b0 : Array Bool := #[true, true, false, true, false, false, false, false, false, false, false, false, false, false, false, false]
abbrev spec_GetText.b1 : Array Bool := #[true, true, false, true, false, true, false, false, false, false, false, false, false, false, false, false]
abbrev spec_GetText.b2 : Array Bool := #[true, true, false, true, false, true, false, false, false, true, false, false, false, false, false, false]
abbrev spec_GetText.b3 : Array Bool := #[true, true, false, true, false, true, false, false, false, true, false, true, false, false, false, false]
abbrev spec_GetText.b4 : Array Bool := #[true, true, true, true, false, true, false, false, false, true, false, true, false, false, false, false]
abbrev spec_GetText.b5 : Array Bool := #[true, true, true, true, true, true, false, false, false, true, false, true, false, false, false, false]
abbrev spec_GetText.b6 : Array Bool := #[true, true, true, true, true, true, true, false, false, true, false, true, false, false, false, false]
abbrev spec_GetText.b7 : Array Bool := #[true, true, true, true, true, true, true, true, false, true, false, true, false, false, false, false]
abbrev spec_GetText.b8 : Array Bool := #[true, true, true, true, true, true, true, true, true, true, false, true, false, false, false, false]
def spec_GetText.j0 : Nat → ByteArray → Bool → Int → Int → Int → Option (ByteArray × Int × Int)
  | 0, _, _, _, _, _ => none
  | k + 1, x0, x22, x106000, x106001, x106002 => if x22 = true then (some ((⟨#[]⟩ : ByteArray), 0, 3)) else (if x106001 > (wrap64 ((x0.size : Int) - x106000)) then (some ((⟨#[]⟩ : ByteArray), 0, 4)) else (if 0 ≤ x106001 then (if x106001 ≤ (wrap64 (x106001 + x106000)) then (if (wrap64 (x106001 + x106000)) ≤ (x0.size : Int) then (some (x0.extract (x106001 : Int).toNat ((wrap64 (x106001 + x106000)) : Int).toNat, wrap64 (x106001 + x106000), 0)) else (none)) else (none)) else (none)))
def spec_GetText.f (k : Nat) (a0 : ByteArray) (a1 : Int) : Option (ByteArray × Int × Int) := (spec_GetNum.f k a0 a1).bind fun bt102 => (if bt102.2.2 = 0 then (if bt102.1 < 0 then (spec_GetText.j0 k a0 true bt102.1 bt102.2.1 bt102.2.2) else (spec_GetText.j0 k a0 (decide (bt102.1 > 20000)) bt102.1 bt102.2.1 bt102.2.2)) else (some ((⟨#[]⟩ : ByteArray), 0, bt102.2.2)))
theorem spec_GetText.mono_l : ∀ k, (∀ y0 y1 y2 y3 y4, LeO (spec_GetText.j0 k y0 y1 y2 y3 y4) (spec_GetText.j0 (k + 1) y0 y1 y2 y3 y4))
  | 0 => fun _ _ _ _ _ r h => by simp [spec_GetText.j0] at h
  | k + 1 => by
    have ih0 := spec_GetText.mono_l k
    · intro y0 y1 y2 y3 y4
      unfold spec_GetText.j0
      repeat' first
      | (with_reducible exact ih0 _ _ _ _ _)
      | (with_reducible exact spec_GetNum.mono _ _ _)
      | (with_reducible exact LeO.refl _)
      | (with_reducible exact LeO.none _)
      | (with_reducible refine LeO.ite ?_ ?_)
      | (with_reducible refine LeO.bind ?_ (fun _ => ?_))
      | exact ih0 _ _ _ _ _
      | exact spec_GetNum.mono _ _ _
      | exact LeO.none _
      | refine LeO.ite ?_ ?_
      | refine LeO.bind ?_ (fun _ => ?_)
theorem spec_GetText.mono : ∀ a0 a1 k, LeO (spec_GetText.f k a0 a1) (spec_GetText.f (k + 1) a0 a1) := by
  intro a0 a1 k
  have ih0 := spec_GetText.mono_l k
  unfold spec_GetText.f
  repeat' first
      | (with_reducible exact ih0 _ _ _ _ _)
      | (with_reducible exact spec_GetNum.mono _ _ _)
      | (with_reducible exact LeO.refl _)
      | (with_reducible exact LeO.none _)
      | (with_reducible refine LeO.ite ?_ ?_)
      | (with_reducible refine LeO.bind ?_ (fun _ => ?_))
      | exact ih0 _ _ _ _ _
      | exact spec_GetNum.mono _ _ _
      | exact LeO.none _
      | refine LeO.ite ?_ ?_
      | refine LeO.bind ?_ (fun _ => ?_)
def spec_GetText.T8 : Bool × List (List Nat × List Nat) := (true, [([], []), ([], []), ([1], [1]), ([], []), ([3], [3]), ([], []), ([5], [5]), ([4, 6], [4, 6]), ([0, 2, 7], [0, 2, 7]), ([], []), ([9], [9]), ([], []), ([11], [11]), ([10, 12], [10, 12]), ([8, 13], [8, 13]), ([14, 0, 1, 2, 3, 4, 5, 6, 7, 8, 9, 10, 11, 12, 13, 14], [14])])
def spec_GetText.B8 : List Nat := [0, 0, 2, 0, 8, 0, 32, 120, 255, 0, 512, 0, 2048, 7680, 16383, 32767]
theorem spec_GetText.tab8 : rtab .any (opsOf Tryd.f48 8) = spec_GetText.T8 := by kernel_rfl
theorem spec_GetText.bits8 : waitsOk spec_GetText.T8.2 spec_GetText.B8 = true := by kernel_rfl
set_option maxHeartbeats 60000000 in
set_option maxRecDepth 100000 in
theorem spec_GetText.calls (k : Nat) (a0 : ByteArray) (a1 : Int) (r1 : ByteArray) (r2 : Int) (r3 : Int) (w : World) (h : spec_GetText.f k a0 a1 = some (r1, r2, r3)) :
    Calls Tryd.prog 48 #[.string a0, .int .i64 a1] w fun e w' => e = .returned (.agg #[.string r1, .int .i64 r2, .int .i64 r3]) ∧ Below w.heap.size w w' := by
 have hu72 := Tryd.underlying72
 have hu69 := Tryd.underlying69
 have HB := AM (Below.refl w.heap.size w)
 have H : ((spec_GetNum.f k a0 a1).bind fun bt102 => (if bt102.2.2 = 0 then (if bt102.1 < 0 then (spec_GetText.j0 k a0 true bt102.1 bt102.2.1 bt102.2.2) else (spec_GetText.j0 k a0 (decide (bt102.1 > 20000)) bt102.1 bt102.2.1 bt102.2.2)) else (some ((⟨#[]⟩ : ByteArray), 0, bt102.2.2)))) = some (r1, r2, r3) := h
 clear h
 replace H := Option.bind_eq_some_iff.mp H
 obtain ⟨⟨t102, t103, t104⟩, A30, H⟩ := H
 try dsimp only at H
 have A3 := AM A30
 clear A30
 by_cases c4 : t104 = 0
 ·
  rw [if_pos c4] at H
  have c4b0 : (t104 == 0) = true := beq_iff_eq.mpr c4
  have c4b1 : (t104 != 0) = false := bne_eq_false_iff_eq.mpr c4
  clear c4
  have HC5 := AM H
  clear H
  go_enter Tryd.func48, Tryd.ntmps48
  go_upto_region 4 with (first | ((with_reducible refine gate_dst (N := 4) rfl ?_); refine box_event (by rfl) (N := 4) (by rfl) (cs := #[.string (⟨#[]⟩ : ByteArray), .int .i64 0, .int .i64 0]) (t := 72) (by first | (go_simp; done) | (go_simp; rfl)) ?_; intro gb101 hg w6 hbox hb; have _ := AM (below_step (bX HB.out) hb); have _ := AM (hbox); have n2_ := AM ((by rw [hg]; exact (bZ (bX HB.out)) : w.heap.size ≤ gb101)); clear HB; rename_i HB BK101; have GW101 := n2_; have GE101 := n2_; clear n2_; clear hb hbox hg) | ((with_reducible refine gate_callee (f := 47) rfl ?_); refine goesL_ (some 8) rfl rfl Tryd.func47 (by kernel_rfl) rfl #[.string a0, .int .i64 a1] rfl (by (try simp only [mA, mB, mC]); first | done | rfl | (simp only [mD, mE]; rfl)) ?_; (with_reducible refine (spec_GetNum.calls k a0 a1 t102 t103 t104 _ A3.out).mono ?_); rintro e w7 ⟨rfl, hb⟩; refine ⟨_, rfl, ?_⟩; have _ := AM (nB BK101.out hb); have _ := AM (below_step (bX HB.out) hb); clear BK101 HB; rename_i BK101 HB; (try clear hb); (try clear hk)) | ((with_reducible refine gate_dst (N := 5) rfl ?_); refine box_event (by rfl) (N := 5) (by rfl) (cs := #[.int .i64 0, .int .i64 0, .int .i64 0]) (t := 69) (by first | (go_simp; done) | (go_simp; rfl)) ?_; intro gb105 hg w8 hbox hb; have _ := AM (nB BK101.out hb); have _ := AM (below_step (bX HB.out) hb); have _ := AM (hbox); have n3_ := AM ((by rw [hg]; exact (bZ (bX HB.out)) : w.heap.size ≤ gb105)); have _ := AM (lX hg BK101.out); have _ := AM (lX hg BK101.out).symm; clear BK101 HB; rename_i BK101 HB BK105 NB101_105 NB105_101; have GW105 := n3_; have GE105 := n3_; clear n3_; clear hb hbox hg; have hnb9 := NB105_101.out; have hnc9 := NB101_105.out; have hcz10 := q3 BK105.out; have hfz10 := fZ BK105.out))
  (try simp only [Act.put, List.setIfInBounds_toArray, List.set_cons_zero, List.set_cons_succ])
  go_cut [22] (fun v22 wc => ∃ (kq : Nat) (x22_4 : Bool), v22 = .bool x22_4 ∧ Aside0 (spec_GetText.j0 kq a0 x22_4 t102 t103 t104 = some (r1, r2, r3)) ∧ Aside0 (kq ≤ k) ∧ Aside0 (wc.heap[gb101]? = some (.cells #[.string (⟨#[]⟩ : ByteArray), .int .i64 0, .int .i64 0] 72 (0, 0))) ∧ Aside0 (wc.heap[gb105]? = some (.cells #[.int .i64 t102, .int .i64 t103, .int .i64 t104] 69 (0, 0))) ∧ Aside0 (Below w.heap.size w wc))
  case first =>
   have H := HC5.out
   clear HC5
   by_cases c11 : t102 < 0
   ·
    rw [if_pos c11] at H
    have c11b0 : decide (t102 < 0) = true := decide_eq_true c11
    clear c11
    (first | rw [c11b0] | (simp only [i64_w, i32_w]; rw [c11b0]) | skip)
    have H' := AM H
    clear H
    have hnb12 := NB105_101.out
    have hnc12 := NB101_105.out
    have hcz13 := q3 BK105.out
    have hfz13 := fZ BK105.out
    go_wp2
    go_meet
    case rel => exact ⟨_, (true), (by first | rfl | (simp; done) | (simp [*]; done)), H', ⟨by first | omega | exact Nat.le_refl _⟩, ⟨by (iterate 3 refine kF NB101_105.out ?_); (with_reducible repeat (first | apply kN | apply kD | apply kA)); exact BK101.out⟩, ⟨by refine kP (cs := #[.int .i64 t102, .int .i64 t103, .int .i64 0]) 2 ?_; refine kP (cs := #[.int .i64 t102, .int .i64 0, .int .i64 0]) 1 ?_; refine kP (cs := #[.int .i64 0, .int .i64 0, .int .i64 0]) 0 ?_; (with_reducible repeat (first | apply kN | apply kD | apply kA)); exact BK105.out⟩, ⟨bX HB.out⟩⟩
   rw [if_neg c11] at H
   have c11b0 : decide (t102 < 0) = false := decide_eq_false c11
   clear c11
   (first | rw [c11b0] | (simp only [i64_w, i32_w]; rw [c11b0]) | skip)
   have H' := AM H
   clear H
   have hnb14 := NB105_101.out
   have hnc14 := NB101_105.out
   have hcz15 := q3 BK105.out
   have hfz15 := fZ BK105.out
   go_wp2
   go_meet
   case rel => exact ⟨_, (decide (t102 > 20000)), (by first | rfl | (simp; done) | (simp [*]; done)), H', ⟨by first | omega | exact Nat.le_refl _⟩, ⟨by (iterate 3 refine kF NB101_105.out ?_); (with_reducible repeat (first | apply kN | apply kD | apply kA)); exact BK101.out⟩, ⟨by refine kP (cs := #[.int .i64 t102, .int .i64 t103, .int .i64 0]) 2 ?_; refine kP (cs := #[.int .i64 t102, .int .i64 0, .int .i64 0]) 1 ?_; refine kP (cs := #[.int .i64 0, .int .i64 0, .int .i64 0]) 0 ?_; (with_reducible repeat (first | apply kN | apply kD | apply kA)); exact BK105.out⟩, ⟨bX HB.out⟩⟩
  case rest =>
   clear HC5
   (try clear c1); (try clear p2); (try clear c4); (try clear c4b0); (try clear c4b1); (try clear c9); (try clear c11); (try clear c11b0); (try clear c12); (try clear c14); (try clear hcz10); (try clear hcz13); (try clear hcz15); (try clear hfz10); (try clear hfz13); (try clear hfz15)
   obtain ⟨kq, x22_4, rfl, HA, HJ4, BK101, BK105, HB⟩ := hcut
   cases kq with
   | zero => exact absurd HA.out (by simp [spec_GetText.j0])
   | succ kj4 =>
    have H := HA.out
    clear HA
    simp only [spec_GetText.j0] at H
    by_cases c16 : x22_4 = true
    ·
     subst c16
     have H1 : (some ((⟨#[]⟩ : ByteArray), 0, 3)) = some (r1, r2, r3) := by rw [if_pos rfl] at H; exact H
     clear H
     have H := H1
     clear H1
     simp only [Option.some.injEq, Prod.mk.injEq] at H
     obtain ⟨rfl, rfl, rfl⟩ := H
     have hnb17 := NB101_105.out
     have hnc17 := NB105_101.out
     have hcz18 := q3 BK101.out
     have hfz18 := fZ BK101.out
     go_wp2
     refine bodyPost_ret (results_cell_row rfl _ _ gb101 72 #[.string (⟨#[]⟩ : ByteArray), .int .i64 0, .int .i64 3] (0, 0) _ rfl (by refine kP (cs := #[.string (⟨#[]⟩ : ByteArray), .int .i64 0, .int .i64 0]) 2 ?_; refine kP (cs := #[.string (⟨#[]⟩ : ByteArray), .int .i64 0, .int .i64 0]) 1 ?_; refine kP (cs := #[.string (⟨#[]⟩ : ByteArray), .int .i64 0, .int .i64 0]) 0 ?_; (with_reducible repeat (first | apply kN | apply kD | apply kA)); exact BK101.out) Tryd.underlying72 rfl (by kernel_rfl)) rfl ?_
     exact ⟨by first | rfl | (simp [*, errW_none, errW_some] <;> rfl), bX HB.out⟩
    replace c16 := Bool.eq_false_iff.mpr c16
    subst c16
    have H1 : (if t103 > (wrap64 ((a0.size : Int) - t102)) then (some ((⟨#[]⟩ : ByteArray), 0, 4)) else (if 0 ≤ t103 then (if t103 ≤ (wrap64 (t103 + t102)) then (if (wrap64 (t103 + t102)) ≤ (a0.size : Int) then (some (a0.extract (t103 : Int).toNat ((wrap64 (t103 + t102)) : Int).toNat, wrap64 (t103 + t102), 0)) else (none)) else (none)) else (none))) = some (r1, r2, r3) := by rw [if_neg (show ¬ (false = true) by decide)] at H; exact H
    clear H
    have H := H1
    clear H1
    by_cases c19 : t103 > (wrap64 ((a0.size : Int) - t102))
    ·
     rw [if_pos c19] at H
     have c19b0 : decide ((wrap64 ((a0.size : Int) - t102)) < t103) = true := decide_eq_true c19
     clear c19
     simp only [Option.some.injEq, Prod.mk.injEq] at H
     obtain ⟨rfl, rfl, rfl⟩ := H
     have hnb20 := NB105_101.out
     have hnc20 := NB101_105.out
     have hcz21 := q3 BK105.out
     have hfz21 := fZ BK105.out
     have hcz22 := q3 BK101.out
     have hfz22 := fZ BK101.out
     go_wp2
     refine bodyPost_ret (results_cell_row rfl _ _ gb101 72 #[.string (⟨#[]⟩ : ByteArray), .int .i64 0, .int .i64 4] (0, 0) _ rfl (by refine kP (cs := #[.string (⟨#[]⟩ : ByteArray), .int .i64 0, .int .i64 0]) 2 ?_; refine kP (cs := #[.string (⟨#[]⟩ : ByteArray), .int .i64 0, .int .i64 0]) 1 ?_; refine kP (cs := #[.string (⟨#[]⟩ : ByteArray), .int .i64 0, .int .i64 0]) 0 ?_; (with_reducible repeat (first | apply kN | apply kD | apply kA)); exact BK101.out) Tryd.underlying72 rfl (by kernel_rfl)) rfl ?_
     exact ⟨by first | rfl | (simp [*, errW_none, errW_some] <;> rfl), bX HB.out⟩
    rw [if_neg c19] at H
    have c19b0 : decide ((wrap64 ((a0.size : Int) - t102)) < t103) = false := decide_eq_false c19
    clear c19
    by_cases c23 : 0 ≤ t103
    ·
     rw [if_pos c23] at H
     have c23b0 := eq_true c23
     have c23b1 : decide (0 ≤ t103) = true := decide_eq_true c23
     clear c23
     by_cases c24 : t103 ≤ (wrap64 (t103 + t102))
     ·
      rw [if_pos c24] at H
      have c24b0 := eq_true c24
      have c24b1 : decide (t103 ≤ (wrap64 (t103 + t102))) = true := decide_eq_true c24
      by_cases c25 : (wrap64 (t103 + t102)) ≤ (a0.size : Int)
      ·
       rw [if_pos c25] at H
       have c25b0 := eq_true c25
       have c25b1 : decide ((wrap64 (t103 + t102)) ≤ (a0.size : Int)) = true := decide_eq_true c25
       simp only [Option.some.injEq, Prod.mk.injEq] at H
       obtain ⟨rfl, rfl, rfl⟩ := H
       have hnb26 := NB105_101.out
       have hnc26 := NB101_105.out
       have hcz27 := q3 BK105.out
       have hfz27 := fZ BK105.out
       try go_wp2
       have _ := AM (kD BK101.out)
       have _ := AM (kD BK105.out)
       have _ := AM (bD HB.out)
       clear BK101 BK105 HB
       rename_i BK101 BK105 HB
       refine start_ (n := 16) (S := fun w' => w'.cell? ⟨gb105, 0, none⟩ = some (.int .i64 t102) ∧ w'.cell? ⟨gb105, 1, none⟩ = some (.int .i64 t103) ∧ w'.cell? ⟨gb105, 2, none⟩ = some (.int .i64 t104)) (ds := []) (upTo 0 16) (by kernel_rfl) rfl rfl ⟨(kC BK105.out 0).trans rfl, (kC BK105.out 1).trans rfl, (kC BK105.out 2).trans rfl⟩ (fun hHeld => ?_); refine with_tabW spec_GetText.tab8 spec_GetText.bits8 (fun HT_ HW_ => ?_)
       generalize wc.drew = w28 at BK101 BK105 HB hHeld ⊢
       refine pF 0 1 16 33 ?_
       refine pF 1 2 16 34 ?_
       refine pF2 3 36 spec_GetText.b0 ?_
       refine pF2 5 38 spec_GetText.b1 ?_
       refine pF2 9 42 spec_GetText.b2 ?_
       refine pF2 11 44 spec_GetText.b3 ?_
       refine pT2 2 35 spec_GetText.b4 ?_ hHeld
       refine pT2 4 37 spec_GetText.b5 ?_ hHeld
       refine pT2 6 39 spec_GetText.b6 ?_ hHeld
       refine pF2 7 40 spec_GetText.b7 ?_
       refine pF2 8 41 spec_GetText.b8 ?_
       refine pT2 10 43 (upTo 12 16) ?_ hHeld
       refine pT2 12 45 (upTo 13 16) ?_ hHeld
       refine pF 13 14 16 46 ?_
       refine pF 14 15 16 47 ?_
       refine one_ (i := 15) (N := none) (upTo 16 16) rfl rfl (one_of HT_.out (by kernel_rfl)) (by decide) (fun K hK => ?_)
       have hs29 : w28.cell? ⟨gb101, 0, none⟩ = some (.string (⟨#[]⟩ : ByteArray)) := (kC BK101.out 0).trans rfl
       have hfs29 := fZ BK101.out 0
       have hns29_1 := NB105_101.out
       have hms29_1 := NB101_105.out
       have hs30 : w28.cell? ⟨gb101, 1, none⟩ = some (.int .i64 0) := (kC BK101.out 1).trans rfl
       have hfs30 := fZ BK101.out 1
       have hns30_1 := NB105_101.out
       have hms30_1 := NB101_105.out
       have hs31 : w28.cell? ⟨gb101, 2, none⟩ = some (.int .i64 0) := (kC BK101.out 2).trans rfl
       have hfs31 := fZ BK101.out 2
       have hns31_1 := NB105_101.out
       have hms31_1 := NB101_105.out
       refine skip_ (w1 := ?_) (by rfl) rfl ?_ ?_
       rotate_left
       ·
        go_simp
        rfl
       refine hK.out _ _ ⟨(cT NB105_101.out ((cT NB105_101.out ((cT NB105_101.out (hHeld.1)))))), (cT NB105_101.out ((cT NB105_101.out ((cT NB105_101.out (hHeld.2.1)))))), (cT NB105_101.out ((cT NB105_101.out ((cT NB105_101.out (hHeld.2.2))))))⟩ (fun hHeld => ?_)
       clear hK K
       refine done_ (done_of HT_.out (by kernel_rfl)) ?_
       try go_wp2
       refine bodyPost_ret (results_cell_row rfl _ _ gb101 72 #[.string (a0.extract (t103 : Int).toNat ((wrap64 (t103 + t102)) : Int).toNat), .int .i64 (wrap64 (t103 + t102)), .int .i64 0] (0, 0) _ rfl (by refine kP (cs := #[.string (a0.extract (t103 : Int).toNat ((wrap64 (t103 + t102)) : Int).toNat), .int .i64 (wrap64 (t103 + t102)), .int .i64 0]) 2 ?_; refine kP (cs := #[.string (a0.extract (t103 : Int).toNat ((wrap64 (t103 + t102)) : Int).toNat), .int .i64 0, .int .i64 0]) 1 ?_; refine kP (cs := #[.string (⟨#[]⟩ : ByteArray), .int .i64 0, .int .i64 0]) 0 ?_; (with_reducible repeat (first | apply kN | apply kD | apply kA)); exact BK101.out) Tryd.underlying72 rfl (by kernel_rfl)) rfl ?_
       exact ⟨by first | rfl | (simp [*, errW_none, errW_some] <;> rfl), bX HB.out⟩
      rw [if_neg c25] at H
      exact absurd H (by simp)
     rw [if_neg c24] at H
     exact absurd H (by simp)
    rw [if_neg c23] at H
    exact absurd H (by simp)
 rw [if_neg c4] at H
 have c4b0 : (t104 == 0) = false := beq_eq_false_iff_ne.mpr c4
 have c4b1 : (t104 != 0) = true := bne_iff_ne.mpr c4
 simp only [Option.some.injEq, Prod.mk.injEq] at H
 obtain ⟨rfl, rfl, rfl⟩ := H
 go_enter Tryd.func48, Tryd.ntmps48
 go_wp2_with (first | ((with_reducible refine gate_dst (N := 4) rfl ?_); refine box_event (by rfl) (N := 4) (by rfl) (cs := #[.string (⟨#[]⟩ : ByteArray), .int .i64 0, .int .i64 0]) (t := 72) (by first | (go_simp; done) | (go_simp; rfl)) ?_; intro gb101 hg w32 hbox hb; have _ := AM (below_step (bX HB.out) hb); have _ := AM (hbox); have n2_ := AM ((by rw [hg]; exact (bZ (bX HB.out)) : w.heap.size ≤ gb101)); clear HB; rename_i HB BK101; have GW101 := n2_; have GE101 := n2_; clear n2_; clear hb hbox hg) | ((with_reducible refine gate_callee (f := 47) rfl ?_); refine goesL_ (some 8) rfl rfl Tryd.func47 (by kernel_rfl) rfl #[.string a0, .int .i64 a1] rfl (by (try simp only [mA, mB, mC]); first | done | rfl | (simp only [mD, mE]; rfl)) ?_; (with_reducible refine (spec_GetNum.calls k a0 a1 t102 t103 t104 _ A3.out).mono ?_); rintro e w33 ⟨rfl, hb⟩; refine ⟨_, rfl, ?_⟩; have _ := AM (nB BK101.out hb); have _ := AM (below_step (bX HB.out) hb); clear BK101 HB; rename_i BK101 HB; (try clear hb); (try clear hk)) | ((with_reducible refine gate_dst (N := 5) rfl ?_); refine box_event (by rfl) (N := 5) (by rfl) (cs := #[.int .i64 0, .int .i64 0, .int .i64 0]) (t := 69) (by first | (go_simp; done) | (go_simp; rfl)) ?_; intro gb105 hg w34 hbox hb; have _ := AM (nB BK101.out hb); have _ := AM (below_step (bX HB.out) hb); have _ := AM (hbox); have n3_ := AM ((by rw [hg]; exact (bZ (bX HB.out)) : w.heap.size ≤ gb105)); have _ := AM (lX hg BK101.out); have _ := AM (lX hg BK101.out).symm; clear BK101 HB; rename_i BK101 HB BK105 NB101_105 NB105_101; have GW105 := n3_; have GE105 := n3_; clear n3_; clear hb hbox hg; have hnb35 := NB105_101.out; have hnc35 := NB101_105.out; have hcz36 := q3 BK105.out; have hfz36 := fZ BK105.out; have hcz37 := q3 BK101.out; have hfz37 := fZ BK101.out))
 refine bodyPost_ret (results_cell_row rfl _ _ gb101 72 #[.string (⟨#[]⟩ : ByteArray), .int .i64 0, .int .i64 t104] (0, 0) _ rfl (by refine kP (cs := #[.string (⟨#[]⟩ : ByteArray), .int .i64 0, .int .i64 0]) 2 ?_; refine kP (cs := #[.string (⟨#[]⟩ : ByteArray), .int .i64 0, .int .i64 0]) 1 ?_; refine kP (cs := #[.string (⟨#[]⟩ : ByteArray), .int .i64 0, .int .i64 0]) 0 ?_; (iterate 3 refine kF NB101_105.out ?_); (with_reducible repeat (first | apply kN | apply kD | apply kA)); exact BK101.out) Tryd.underlying72 rfl (by kernel_rfl)) rfl ?_
 exact ⟨by first | rfl | (simp [*, errW_none, errW_some] <;> rfl), bX HB.out⟩

/-! ### spec_l06Reader_text: function 43 -/
abbrev spec_l06Reader_text.b0 : Array Bool := #[true, true, true, false, true, false, false, false, false, false, false]
abbrev spec_l06Reader_text.b1 : Array Bool := #[true, true, true, false, true, true, false, false, false, false, false]
abbrev spec_l06Reader_text.b2 : Array Bool := #[true, true, true, false, true, true, true, false, false, false, false]
abbrev spec_l06Reader_text.b3 : Array Bool := #[true, true, true, true, true, true, true, true, false, true, false]
def spec_l06Reader_text.f (k : Nat) (s0_0 : ByteArray) (s0_1 : Int) (s0_2 : Bool) : Option (ByteArray × ByteArray × Int × Bool) := (spec_GetText.f k s0_0 s0_1).bind fun bt101 => (if s0_2 = true then (some ((⟨#[]⟩ : ByteArray), s0_0, s0_1, true)) else (if bt101.2.2 = 0 then (some (bt101.1, s0_0, bt101.2.1, s0_2)) else (some ((⟨#[]⟩ : ByteArray), s0_0, s0_1, true))))
theorem spec_l06Reader_text.mono : ∀ a0 a1 a2 k, LeO (spec_l06Reader_text.f k a0 a1 a2) (spec_l06Reader_text.f (k + 1) a0 a1 a2) := by
  intro a0 a1 a2 k
  unfold spec_l06Reader_text.f
  repeat' first
      | (with_reducible exact spec_GetText.mono _ _ _)
      | (with_reducible exact LeO.refl _)
      | (with_reducible exact LeO.none _)
      | (with_reducible refine LeO.ite ?_ ?_)
      | (with_reducible refine LeO.bind ?_ (fun _ => ?_))
      | exact spec_GetText.mono _ _ _
      | exact LeO.none _
      | refine LeO.ite ?_ ?_
      | refine LeO.bind ?_ (fun _ => ?_)
def spec_l06Reader_text.T1 : Bool × List (List Nat × List Nat) := (true, [([], []), ([0], [0]), ([1], [1]), ([2], [2]), ([], []), ([4], [4]), ([5], [5]), ([6], [6]), ([3, 7], [3, 7]), ([], []), ([9, 8, 8, 0, 1, 2, 3, 4, 5, 6, 7, 8, 9], [8, 9])])
def spec_l06Reader_text.B1 : List Nat := [0, 1, 3, 7, 0, 16, 48, 112, 255, 0, 1023]
theorem spec_l06Reader_text.tab1 : rtab .any (opsOf Tryd.f43 1) = spec_l06Reader_text.T1 := by kernel_rfl
theorem spec_l06Reader_text.bits1 : waitsOk spec_l06Reader_text.T1.2 spec_l06Reader_text.B1 = true := by kernel_rfl
theorem bI62_0_spec_l06Reader_text {n : Nat} {w W W' : World} (h : Below n w W) (f : Below n w W → Below n w W' := by intro h_; repeat (first | (with_reducible first | exact h_ | apply bA | apply bN | apply bD | refine bS ?_ (IsS62.ge HI0.out) | refine bS ?_ (Aside0.out (by assumption))) | exact h_)) : Below n w W' := f h
theorem iX62_6_spec_l06Reader_text {p q : Prop} (h : p) (f : p → q := by intro h_; repeat (first | (with_reducible first | exact h_ | apply IsS62.alloc | apply IsS62.drewN | apply IsS62.drew | apply IsS62.set_0 | apply IsS62.set_1 | apply IsS62.set_2 | refine IsS62.far ?_ (Aside0.out (by assumption)) _ | apply IsS62.far | exact Aside0.out (by assumption)) | exact h_)) : q := f h
set_option maxHeartbeats 60000000 in
set_option maxRecDepth 100000 in
theorem spec_l06Reader_text.calls (k : Nat) (g : Nat) (s0_0 : ByteArray) (s0_1 : Int) (s0_2 : Bool) (r1 : ByteArray) (r2 : ByteArray) (r3 : Int) (r4 : Bool) (w0 w : World) (hI : IsS62 w0 w g s0_0 s0_1 s0_2) (hB : Below w0.heap.size w0 w) (h : spec_l06Reader_text.f k s0_0 s0_1 s0_2 = some (r1, r2, r3, r4)) :
    Calls Tryd.prog 43 #[.pointer (some ⟨g, 0, none⟩)] w fun e w' => e = .returned (.string r1) ∧ IsS62 w0 w' g r2 r3 r4 ∧ Below w0.heap.size w0 w' ∧ KeepBut w w' g none := by
 have hu72 := Tryd.underlying72
 have HI0 := AM hI
 have HK := AM (KeepBut.refl w g none)
 have HL := AM hB.size
 clear hI
 have HW0 := AM hB.size
 have HB := AM hB
 clear hB
 have H : ((spec_GetText.f k s0_0 s0_1).bind fun bt101 => (if s0_2 = true then (some ((⟨#[]⟩ : ByteArray), s0_0, s0_1, true)) else (if bt101.2.2 = 0 then (some (bt101.1, s0_0, bt101.2.1, s0_2)) else (some ((⟨#[]⟩ : ByteArray), s0_0, s0_1, true))))) = some (r1, r2, r3, r4) := h
 clear h
 replace H := Option.bind_eq_some_iff.mp H
 obtain ⟨⟨t101, t102, t103⟩, A20, H⟩ := H
 try dsimp only at H
 have A2 := AM A20
 clear A20
 by_cases c3 : s0_2 = true
 ·
  subst c3
  have H1 : (some ((⟨#[]⟩ : ByteArray), s0_0, s0_1, true)) = some (r1, r2, r3, r4) := by rw [if_pos rfl] at H; exact H
  clear H
  have H := H1
  clear H1
  simp only [Option.some.injEq, Prod.mk.injEq] at H
  obtain ⟨rfl, rfl, rfl, rfl⟩ := H
  go_enter Tryd.func43, Tryd.ntmps43
  try go_wp2
  have _ := AM (IsS62.drew HI0.out)
  have _ := AM (keep_drew HK.out)
  have _ := AM (bD HB.out)
  clear HI0 HK HB
  rename_i HI0 HK HB
  refine start_ (n := 11) (S := fun w' => w'.cell? ⟨g, 0, none⟩ = some (.string s0_0) ∧ w'.cell? ⟨g, 1, none⟩ = some (.int .i64 s0_1) ∧ w'.cell? ⟨g, 2, none⟩ = some (.bool true)) (ds := []) (upTo 0 11) (by kernel_rfl) rfl rfl ⟨(kC (AM HI0.out.1).out 0).trans rfl, (kC (AM HI0.out.1).out 1).trans rfl, (kC (AM HI0.out.1).out 2).trans rfl⟩ (fun hHeld => ?_); refine with_tabW spec_l06Reader_text.tab1 spec_l06Reader_text.bits1 (fun HT_ HW_ => ?_)
  generalize w.drew = w4 at HI0 HK HB hHeld ⊢
  refine pF 0 1 11 4 ?_
  refine pF 1 2 11 5 ?_
  refine pF 2 3 11 6 ?_
  refine pF2 4 8 spec_l06Reader_text.b0 ?_
  refine pF2 5 9 spec_l06Reader_text.b1 ?_
  refine pF2 6 10 spec_l06Reader_text.b2 ?_
  refine pT2 3 7 (upTo 7 11) ?_ hHeld
  refine pT2 7 11 (upTo 8 11) ?_ hHeld
  refine join_ (σ := Nat) 1 (upTo 10 11) (fun s_ => [(12, .agg #[.string t101, .int .i64 t102, .int .i64 t103]), (3, .pointer (some ⟨s_, 0, none⟩))]) (fun s_ w' => (w'.cell? ⟨g, 0, none⟩ = some (.string s0_0) ∧ w'.cell? ⟨g, 1, none⟩ = some (.int .i64 s0_1) ∧ w'.cell? ⟨g, 2, none⟩ = some (.bool true)) ∧ (w'.heap[s_]? = some (.cells #[.string (⟨#[]⟩ : ByteArray), .int .i64 0, .int .i64 0] 72 (0, 0))) ∧ (w.heap.size ≤ s_) ∧ (w0.heap.size ≤ s_) ∧ (g ≠ s_) ∧ (s_ ≠ g) ∧ (IsS62 w0 w' g s0_0 s0_1 true) ∧ (KeepBut w w' g none) ∧ (Below w0.heap.size w0 w')) ?_ ?_
  rotate_left
  ·
   intro hCont
   refine two_ (i := 8) (j := 9) (Ni := some 12) (Nj := some 3) (upTo 9 11) spec_l06Reader_text.b3 rfl rfl rfl rfl (two_of HT_.out (by kernel_rfl)) (by decide) (by decide) (fun K hK => ?_) (fun K hK => ?_)
   ·
    skip
    refine goes_ Tryd.func48 (by kernel_rfl) rfl #[.string s0_0, .int .i64 s0_1] (by rfl) rfl rfl (by (try simp only [mA, mB, mC]); first | done | rfl | (simp only [mD, mE]; rfl)) ?_
    with_reducible refine (spec_GetText.calls k s0_0 s0_1 t101 t102 t103 _ A2.out).mono ?_
    rintro e w5 ⟨rfl, hb⟩
    refine ⟨_, rfl, ?_⟩
    have _ := AM (IsS62.below (iX62_6_spec_l06Reader_text HI0.out) hb)
    have _ := AM (KeepBut.trans (hX HK.out) (KeepBut.of_below hb g none) (.inl rfl))
    have _ := AM (below_step (bI62_0_spec_l06Reader_text HB.out) hb)
    clear HI0 HK HB
    rename_i HI0 HK HB
    (try clear hb)
    (try clear hk)
    refine hK.out _ _ ⟨(kC (AM HI0.out.1).out 0).trans rfl, (kC (AM HI0.out.1).out 1).trans rfl, (kC (AM HI0.out.1).out 2).trans rfl⟩ (fun hHeld => ?_)
    clear hK K
    refine norm_ (a' := ?_) ?_ ?_
    rotate_left
    ·
     show Act.put _ (some 12) _ = _
     simp only [Act.put, sA, sB, sC, i64_w, i32_w]
     rfl
    refine one_ (i := 9) (N := some 3) (upTo 10 11) rfl rfl (one_of HT_.out (by kernel_rfl)) (by decide) (fun K hK => ?_)
    refine box_step ?hg (N := 3) ?hd (cs := #[.string (⟨#[]⟩ : ByteArray), .int .i64 0, .int .i64 0]) (t := 72) ?hr ?_; (case hd => rfl); (case hg => rfl); (case hr => first | (go_simp; done) | (go_simp; rfl))
    intro gb104 hg w6 hbox hb
    have _ := AM (IsS62.below (iX62_6_spec_l06Reader_text HI0.out) hb)
    have _ := AM (KeepBut.trans (hX HK.out) (KeepBut.of_below hb g none) (.inl rfl))
    have _ := AM (below_step (bI62_0_spec_l06Reader_text HB.out) hb)
    have _ := AM (hbox)
    have _ := AM ((by rw [hg]; exact (keep_size (w := w) (g := g) (row := none) (hX HK.out)) : w.heap.size ≤ gb104))
    have _ := AM ((Nat.le_trans HW0.out (by rw [hg]; exact (keep_size (w := w) (g := g) (row := none) (hX HK.out)) : w.heap.size ≤ gb104) : w0.heap.size ≤ gb104))
    have _ := AM ((by rw [hg]; exact Nat.ne_of_lt (IsS62.lt (show IsS62 w0 _ g s0_0 s0_1 true from iX62_6_spec_l06Reader_text HI0.out)) : g ≠ gb104))
    have _ := AM ((by rw [hg]; exact Nat.ne_of_gt (IsS62.lt (show IsS62 w0 _ g s0_0 s0_1 true from iX62_6_spec_l06Reader_text HI0.out)) : gb104 ≠ g))
    clear HI0 HK HB
    rename_i HI0 HK HB BK104 GW104 GE104 NB0_104 NB104_0
    clear hb hbox hg
    refine hK.out _ _ ⟨(kC (AM HI0.out.1).out 0).trans rfl, (kC (AM HI0.out.1).out 1).trans rfl, (kC (AM HI0.out.1).out 2).trans rfl⟩ (fun hHeld => ?_)
    clear hK K
    refine norm_ (a' := ?_) ?_ ?_
    rotate_left
    ·
     show Act.put _ (some 3) _ = _
     simp only [Act.put, sA, sB, sC, i64_w, i32_w]
     rfl
    exact norm_ (by simp only [putAll, Act.put, List.setIfInBounds_toArray, List.set_cons_zero, List.set_cons_succ]) (hCont (gb104) _ ⟨hHeld, (kX BK104.out), GW104.out, GE104.out, NB0_104.out, NB104_0.out, (iX62_6_spec_l06Reader_text HI0.out), (hX HK.out), (bI62_0_spec_l06Reader_text HB.out)⟩)
   skip
   refine box_step ?hg (N := 3) ?hd (cs := #[.string (⟨#[]⟩ : ByteArray), .int .i64 0, .int .i64 0]) (t := 72) ?hr ?_; (case hd => rfl); (case hg => rfl); (case hr => first | (go_simp; done) | (go_simp; rfl))
   intro gb104 hg w5 hbox hb
   have _ := AM (IsS62.below (iX62_6_spec_l06Reader_text HI0.out) hb)
   have _ := AM (KeepBut.trans (hX HK.out) (KeepBut.of_below hb g none) (.inl rfl))
   have _ := AM (below_step (bI62_0_spec_l06Reader_text HB.out) hb)
   have _ := AM (hbox)
   have _ := AM ((by rw [hg]; exact (keep_size (w := w) (g := g) (row := none) (hX HK.out)) : w.heap.size ≤ gb104))
   have _ := AM ((Nat.le_trans HW0.out (by rw [hg]; exact (keep_size (w := w) (g := g) (row := none) (hX HK.out)) : w.heap.size ≤ gb104) : w0.heap.size ≤ gb104))
   have _ := AM ((by rw [hg]; exact Nat.ne_of_lt (IsS62.lt (show IsS62 w0 _ g s0_0 s0_1 true from iX62_6_spec_l06Reader_text HI0.out)) : g ≠ gb104))
   have _ := AM ((by rw [hg]; exact Nat.ne_of_gt (IsS62.lt (show IsS62 w0 _ g s0_0 s0_1 true from iX62_6_spec_l06Reader_text HI0.out)) : gb104 ≠ g))
   clear HI0 HK HB
   rename_i HI0 HK HB BK104 GW104 GE104 NB0_104 NB104_0
   clear hb hbox hg
   refine hK.out _ _ ⟨(kC (AM HI0.out.1).out 0).trans rfl, (kC (AM HI0.out.1).out 1).trans rfl, (kC (AM HI0.out.1).out 2).trans rfl⟩ (fun hHeld => ?_)
   clear hK K
   refine norm_ (a' := ?_) ?_ ?_
   rotate_left
   ·
    show Act.put _ (some 3) _ = _
    simp only [Act.put, sA, sB, sC, i64_w, i32_w]
    rfl
   refine one_ (i := 8) (N := some 12) (upTo 10 11) rfl rfl (one_of HT_.out (by kernel_rfl)) (by decide) (fun K hK => ?_)
   refine goes_ Tryd.func48 (by kernel_rfl) rfl #[.string s0_0, .int .i64 s0_1] (by rfl) rfl rfl (by (try simp only [mA, mB, mC]); first | done | rfl | (simp only [mD, mE]; rfl)) ?_
   with_reducible refine (spec_GetText.calls k s0_0 s0_1 t101 t102 t103 _ A2.out).mono ?_
   rintro e w6 ⟨rfl, hb⟩
   refine ⟨_, rfl, ?_⟩
   have _ := AM (IsS62.below (iX62_6_spec_l06Reader_text HI0.out) hb)
   have _ := AM (nB BK104.out hb)
   have _ := AM (KeepBut.trans (hX HK.out) (KeepBut.of_below hb g none) (.inl rfl))
   have _ := AM (below_step (bI62_0_spec_l06Reader_text HB.out) hb)
   clear HI0 BK104 HK HB
   rename_i HI0 BK104 HK HB
   (try clear hb)
   (try clear hk)
   refine hK.out _ _ ⟨(kC (AM HI0.out.1).out 0).trans rfl, (kC (AM HI0.out.1).out 1).trans rfl, (kC (AM HI0.out.1).out 2).trans rfl⟩ (fun hHeld => ?_)
   clear hK K
   refine norm_ (a' := ?_) ?_ ?_
   rotate_left
   ·
    show Act.put _ (some 12) _ = _
    simp only [Act.put, sA, sB, sC, i64_w, i32_w]
    rfl
   exact norm_ (by simp only [putAll, Act.put, List.setIfInBounds_toArray, List.set_cons_zero, List.set_cons_succ]) (hCont (gb104) _ ⟨hHeld, (kX BK104.out), GW104.out, GE104.out, NB0_104.out, NB104_0.out, (iX62_6_spec_l06Reader_text HI0.out), (hX HK.out), (bI62_0_spec_l06Reader_text HB.out)⟩)
  rintro gb104 w7 ⟨hS_, h0_, h1_, h2_, h3_, h4_, h5_, h6_, h7_⟩
  have _ : Aside0 (w7.heap[gb104]? = some (.cells #[.string (⟨#[]⟩ : ByteArray), .int .i64 0, .int .i64 0] 72 (0, 0))) := ⟨h0_⟩
  have _ : Aside0 (w.heap.size ≤ gb104) := ⟨h1_⟩
  have _ : Aside0 (w0.heap.size ≤ gb104) := ⟨h2_⟩
  have _ : Aside0 (g ≠ gb104) := ⟨h3_⟩
  have _ : Aside0 (gb104 ≠ g) := ⟨h4_⟩
  have _ : Aside0 (IsS62 w0 w7 g s0_0 s0_1 true) := ⟨h5_⟩
  have _ : Aside0 (KeepBut w w7 g none) := ⟨h6_⟩
  have _ : Aside0 (Below w0.heap.size w0 w7) := ⟨h7_⟩
  clear HI0 HK HB h0_ h1_ h2_ h3_ h4_ h5_ h6_ h7_
  rename_i BK104 GW104 GE104 NB0_104 NB104_0 HI0 HK HB
  have hHeld : w7.cell? ⟨g, 0, none⟩ = some (.string s0_0) ∧ w7.cell? ⟨g, 1, none⟩ = some (.int .i64 s0_1) ∧ w7.cell? ⟨g, 2, none⟩ = some (.bool true) := hS_
  refine norm_ (a' := ?_) ?_ ?_
  rotate_left
  ·
   simp only [putAll, Act.put, List.setIfInBounds_toArray, List.set_cons_zero, List.set_cons_succ]
   rfl
  refine one_ (i := 10) (N := none) (upTo 11 11) rfl rfl (one_of HT_.out (by kernel_rfl)) (by decide) (fun K hK => ?_)
  have hs8 : w7.cell? ⟨gb104, 0, none⟩ = some (.string (⟨#[]⟩ : ByteArray)) := (kC BK104.out 0).trans rfl
  have hfs8 := fZ BK104.out 0
  have hs9 : w7.cell? ⟨gb104, 1, none⟩ = some (.int .i64 0) := (kC BK104.out 1).trans rfl
  have hfs9 := fZ BK104.out 1
  have hs10 : w7.cell? ⟨gb104, 2, none⟩ = some (.int .i64 0) := (kC BK104.out 2).trans rfl
  have hfs10 := fZ BK104.out 2
  refine skip_ (w1 := ?_) (by rfl) rfl ?_ ?_
  rotate_left
  ·
   go_simp
   rfl
  refine hK.out _ _ ⟨(cT NB0_104.out ((cT NB0_104.out ((cT NB0_104.out (hHeld.1)))))), (cT NB0_104.out ((cT NB0_104.out ((cT NB0_104.out (hHeld.2.1)))))), (cT NB0_104.out ((cT NB0_104.out ((cT NB0_104.out (hHeld.2.2))))))⟩ (fun hHeld => ?_)
  clear hK K
  refine done_ (done_of HT_.out (by kernel_rfl)) ?_
  obtain ⟨HGz11, hgz11⟩ := HI0.out
  have hcz11_0 := cellS62_0 HGz11
  have hcz11_1 := cellS62_1 HGz11
  have hcz11_2 := cellS62_2 HGz11
  have hfz11_0 := fZ HGz11 0
  have hfz11_1 := fZ HGz11 1
  have hfz11_2 := fZ HGz11 2
  clear HGz11 hgz11
  try go_wp2
  go_ret
  exact ⟨by first | rfl | (simp [*, errW_none, errW_some] <;> rfl), iX62_6_spec_l06Reader_text HI0.out, bI62_0_spec_l06Reader_text HB.out, hX HK.out⟩
 replace c3 := Bool.eq_false_iff.mpr c3
 subst c3
 have H1 : (if t103 = 0 then (some (t101, s0_0, t102, false)) else (some ((⟨#[]⟩ : ByteArray), s0_0, s0_1, true))) = some (r1, r2, r3, r4) := by rw [if_neg (show ¬ (false = true) by decide)] at H; exact H
 clear H
 have H := H1
 clear H1
 by_cases c12 : t103 = 0
 ·
  rw [if_pos c12] at H
  have c12b0 : (t103 == 0) = true := beq_iff_eq.mpr c12
  have c12b1 : (t103 != 0) = false := bne_eq_false_iff_eq.mpr c12
  clear c12
  simp only [Option.some.injEq, Prod.mk.injEq] at H
  obtain ⟨rfl, rfl, rfl, rfl⟩ := H
  go_enter Tryd.func43, Tryd.ntmps43
  try go_wp2
  have _ := AM (IsS62.drew HI0.out)
  have _ := AM (keep_drew HK.out)
  have _ := AM (bD HB.out)
  clear HI0 HK HB
  rename_i HI0 HK HB
  refine start_ (n := 11) (S := fun w' => w'.cell? ⟨g, 0, none⟩ = some (.string s0_0) ∧ w'.cell? ⟨g, 1, none⟩ = some (.int .i64 s0_1) ∧ w'.cell? ⟨g, 2, none⟩ = some (.bool false)) (ds := []) (upTo 0 11) (by kernel_rfl) rfl rfl ⟨(kC (AM HI0.out.1).out 0).trans rfl, (kC (AM HI0.out.1).out 1).trans rfl, (kC (AM HI0.out.1).out 2).trans rfl⟩ (fun hHeld => ?_); refine with_tabW spec_l06Reader_text.tab1 spec_l06Reader_text.bits1 (fun HT_ HW_ => ?_)
  generalize w.drew = w13 at HI0 HK HB hHeld ⊢
  refine pF 0 1 11 4 ?_
  refine pF 1 2 11 5 ?_
  refine pF 2 3 11 6 ?_
  refine pF2 4 8 spec_l06Reader_text.b0 ?_
  refine pF2 5 9 spec_l06Reader_text.b1 ?_
  refine pF2 6 10 spec_l06Reader_text.b2 ?_
  refine pT2 3 7 (upTo 7 11) ?_ hHeld
  refine pT2 7 11 (upTo 8 11) ?_ hHeld
  refine join_ (σ := Nat) 1 (upTo 10 11) (fun s_ => [(12, .agg #[.string t101, .int .i64 t102, .int .i64 t103]), (3, .pointer (some ⟨s_, 0, none⟩))]) (fun s_ w' => (w'.cell? ⟨g, 0, none⟩ = some (.string s0_0) ∧ w'.cell? ⟨g, 1, none⟩ = some (.int .i64 s0_1) ∧ w'.cell? ⟨g, 2, none⟩ = some (.bool false)) ∧ (w'.heap[s_]? = some (.cells #[.string (⟨#[]⟩ : ByteArray), .int .i64 0, .int .i64 0] 72 (0, 0))) ∧ (w.heap.size ≤ s_) ∧ (w0.heap.size ≤ s_) ∧ (g ≠ s_) ∧ (s_ ≠ g) ∧ (IsS62 w0 w' g s0_0 s0_1 false) ∧ (KeepBut w w' g none) ∧ (Below w0.heap.size w0 w')) ?_ ?_
  rotate_left
  ·
   intro hCont
   refine two_ (i := 8) (j := 9) (Ni := some 12) (Nj := some 3) (upTo 9 11) spec_l06Reader_text.b3 rfl rfl rfl rfl (two_of HT_.out (by kernel_rfl)) (by decide) (by decide) (fun K hK => ?_) (fun K hK => ?_)
   ·
    skip
    refine goes_ Tryd.func48 (by kernel_rfl) rfl #[.string s0_0, .int .i64 s0_1] (by rfl) rfl rfl (by (try simp only [mA, mB, mC]); first | done | rfl | (simp only [mD, mE]; rfl)) ?_
    with_reducible refine (spec_GetText.calls k s0_0 s0_1 t101 t102 t103 _ A2.out).mono ?_
    rintro e w14 ⟨rfl, hb⟩
    refine ⟨_, rfl, ?_⟩
    have _ := AM (IsS62.below (iX62_6_spec_l06Reader_text HI0.out) hb)
    have _ := AM (KeepBut.trans (hX HK.out) (KeepBut.of_below hb g none) (.inl rfl))
    have _ := AM (below_step (bI62_0_spec_l06Reader_text HB.out) hb)
    clear HI0 HK HB
    rename_i HI0 HK HB
    (try clear hb)
    (try clear hk)
    refine hK.out _ _ ⟨(kC (AM HI0.out.1).out 0).trans rfl, (kC (AM HI0.out.1).out 1).trans rfl, (kC (AM HI0.out.1).out 2).trans rfl⟩ (fun hHeld => ?_)
    clear hK K
    refine norm_ (a' := ?_) ?_ ?_
    rotate_left
    ·
     show Act.put _ (some 12) _ = _
     simp only [Act.put, sA, sB, sC, i64_w, i32_w]
     rfl
    refine one_ (i := 9) (N := some 3) (upTo 10 11) rfl rfl (one_of HT_.out (by kernel_rfl)) (by decide) (fun K hK => ?_)
    refine box_step ?hg (N := 3) ?hd (cs := #[.string (⟨#[]⟩ : ByteArray), .int .i64 0, .int .i64 0]) (t := 72) ?hr ?_; (case hd => rfl); (case hg => rfl); (case hr => first | (go_simp; done) | (go_simp; rfl))
    intro gb104 hg w15 hbox hb
    have _ := AM (IsS62.below (iX62_6_spec_l06Reader_text HI0.out) hb)
    have _ := AM (KeepBut.trans (hX HK.out) (KeepBut.of_below hb g none) (.inl rfl))
    have _ := AM (below_step (bI62_0_spec_l06Reader_text HB.out) hb)
    have _ := AM (hbox)
    have _ := AM ((by rw [hg]; exact (keep_size (w := w) (g := g) (row := none) (hX HK.out)) : w.heap.size ≤ gb104))
    have _ := AM ((Nat.le_trans HW0.out (by rw [hg]; exact (keep_size (w := w) (g := g) (row := none) (hX HK.out)) : w.heap.size ≤ gb104) : w0.heap.size ≤ gb104))
    have _ := AM ((by rw [hg]; exact Nat.ne_of_lt (IsS62.lt (show IsS62 w0 _ g s0_0 s0_1 false from iX62_6_spec_l06Reader_text HI0.out)) : g ≠ gb104))
    have _ := AM ((by rw [hg]; exact Nat.ne_of_gt (IsS62.lt (show IsS62 w0 _ g s0_0 s0_1 false from iX62_6_spec_l06Reader_text HI0.out)) : gb104 ≠ g))
    clear HI0 HK HB
    rename_i HI0 HK HB BK104 GW104 GE104 NB0_104 NB104_0
    clear hb hbox hg
    refine hK.out _ _ ⟨(kC (AM HI0.out.1).out 0).trans rfl, (kC (AM HI0.out.1).out 1).trans rfl, (kC (AM HI0.out.1).out 2).trans rfl⟩ (fun hHeld => ?_)
    clear hK K
    refine norm_ (a' := ?_) ?_ ?_
    rotate_left
    ·
     show Act.put _ (some 3) _ = _
     simp only [Act.put, sA, sB, sC, i64_w, i32_w]
     rfl
    exact norm_ (by simp only [putAll, Act.put, List.setIfInBounds_toArray, List.set_cons_zero, List.set_cons_succ]) (hCont (gb104) _ ⟨hHeld, (kX BK104.out), GW104.out, GE104.out, NB0_104.out, NB104_0.out, (iX62_6_spec_l06Reader_text HI0.out), (hX HK.out), (bI62_0_spec_l06Reader_text HB.out)⟩)
   skip
   refine box_step ?hg (N := 3) ?hd (cs := #[.string (⟨#[]⟩ : ByteArray), .int .i64 0, .int .i64 0]) (t := 72) ?hr ?_; (case hd => rfl); (case hg => rfl); (case hr => first | (go_simp; done) | (go_simp; rfl))
   intro gb104 hg w14 hbox hb
   have _ := AM (IsS62.below (iX62_6_spec_l06Reader_text HI0.out) hb)
   have _ := AM (KeepBut.trans (hX HK.out) (KeepBut.of_below hb g none) (.inl rfl))
   have _ := AM (below_step (bI62_0_spec_l06Reader_text HB.out) hb)
   have _ := AM (hbox)
   have _ := AM ((by rw [hg]; exact (keep_size (w := w) (g := g) (row := none) (hX HK.out)) : w.heap.size ≤ gb104))
   have _ := AM ((Nat.le_trans HW0.out (by rw [hg]; exact (keep_size (w := w) (g := g) (row := none) (hX HK.out)) : w.heap.size ≤ gb104) : w0.heap.size ≤ gb104))
   have _ := AM ((by rw [hg]; exact Nat.ne_of_lt (IsS62.lt (show IsS62 w0 _ g s0_0 s0_1 false from iX62_6_spec_l06Reader_text HI0.out)) : g ≠ gb104))
   have _ := AM ((by rw [hg]; exact Nat.ne_of_gt (IsS62.lt (show IsS62 w0 _ g s0_0 s0_1 false from iX62_6_spec_l06Reader_text HI0.out)) : gb104 ≠ g))
   clear HI0 HK HB
   rename_i HI0 HK HB BK104 GW104 GE104 NB0_104 NB104_0
   clear hb hbox hg
   refine hK.out _ _ ⟨(kC (AM HI0.out.1).out 0).trans rfl, (kC (AM HI0.out.1).out 1).trans rfl, (kC (AM HI0.out.1).out 2).trans rfl⟩ (fun hHeld => ?_)
   clear hK K
   refine norm_ (a' := ?_) ?_ ?_
   rotate_left
   ·
    show Act.put _ (some 3) _ = _
    simp only [Act.put, sA, sB, sC, i64_w, i32_w]
    rfl
   refine one_ (i := 8) (N := some 12) (upTo 10 11) rfl rfl (one_of HT_.out (by kernel_rfl)) (by decide) (fun K hK => ?_)
   refine goes_ Tryd.func48 (by kernel_rfl) rfl #[.string s0_0, .int .i64 s0_1] (by rfl) rfl rfl (by (try simp only [mA, mB, mC]); first | done | rfl | (simp only [mD, mE]; rfl)) ?_
   with_reducible refine (spec_GetText.calls k s0_0 s0_1 t101 t102 t103 _ A2.out).mono ?_
   rintro e w15 ⟨rfl, hb⟩
   refine ⟨_, rfl, ?_⟩
   have _ := AM (IsS62.below (iX62_6_spec_l06Reader_text HI0.out) hb)
   have _ := AM (nB BK104.out hb)
   have _ := AM (KeepBut.trans (hX HK.out) (KeepBut.of_below hb g none) (.inl rfl))
   have _ := AM (below_step (bI62_0_spec_l06Reader_text HB.out) hb)
   clear HI0 BK104 HK HB
   rename_i HI0 BK104 HK HB
   (try clear hb)
   (try clear hk)
   refine hK.out _ _ ⟨(kC (AM HI0.out.1).out 0).trans rfl, (kC (AM HI0.out.1).out 1).trans rfl, (kC (AM HI0.out.1).out 2).trans rfl⟩ (fun hHeld => ?_)
   clear hK K
   refine norm_ (a' := ?_) ?_ ?_
   rotate_left
   ·
    show Act.put _ (some 12) _ = _
    simp only [Act.put, sA, sB, sC, i64_w, i32_w]
    rfl
   exact norm_ (by simp only [putAll, Act.put, List.setIfInBounds_toArray, List.set_cons_zero, List.set_cons_succ]) (hCont (gb104) _ ⟨hHeld, (kX BK104.out), GW104.out, GE104.out, NB0_104.out, NB104_0.out, (iX62_6_spec_l06Reader_text HI0.out), (hX HK.out), (bI62_0_spec_l06Reader_text HB.out)⟩)
  rintro gb104 w16 ⟨hS_, h0_, h1_, h2_, h3_, h4_, h5_, h6_, h7_⟩
  have _ : Aside0 (w16.heap[gb104]? = some (.cells #[.string (⟨#[]⟩ : ByteArray), .int .i64 0, .int .i64 0] 72 (0, 0))) := ⟨h0_⟩
  have _ : Aside0 (w.heap.size ≤ gb104) := ⟨h1_⟩
  have _ : Aside0 (w0.heap.size ≤ gb104) := ⟨h2_⟩
  have _ : Aside0 (g ≠ gb104) := ⟨h3_⟩
  have _ : Aside0 (gb104 ≠ g) := ⟨h4_⟩
  have _ : Aside0 (IsS62 w0 w16 g s0_0 s0_1 false) := ⟨h5_⟩
  have _ : Aside0 (KeepBut w w16 g none) := ⟨h6_⟩
  have _ : Aside0 (Below w0.heap.size w0 w16) := ⟨h7_⟩
  clear HI0 HK HB h0_ h1_ h2_ h3_ h4_ h5_ h6_ h7_
  rename_i BK104 GW104 GE104 NB0_104 NB104_0 HI0 HK HB
  have hHeld : w16.cell? ⟨g, 0, none⟩ = some (.string s0_0) ∧ w16.cell? ⟨g, 1, none⟩ = some (.int .i64 s0_1) ∧ w16.cell? ⟨g, 2, none⟩ = some (.bool false) := hS_
  refine norm_ (a' := ?_) ?_ ?_
  rotate_left
  ·
   simp only [putAll, Act.put, List.setIfInBounds_toArray, List.set_cons_zero, List.set_cons_succ]
   rfl
  refine one_ (i := 10) (N := none) (upTo 11 11) rfl rfl (one_of HT_.out (by kernel_rfl)) (by decide) (fun K hK => ?_)
  have hs17 : w16.cell? ⟨gb104, 0, none⟩ = some (.string (⟨#[]⟩ : ByteArray)) := (kC BK104.out 0).trans rfl
  have hfs17 := fZ BK104.out 0
  have hs18 : w16.cell? ⟨gb104, 1, none⟩ = some (.int .i64 0) := (kC BK104.out 1).trans rfl
  have hfs18 := fZ BK104.out 1
  have hs19 : w16.cell? ⟨gb104, 2, none⟩ = some (.int .i64 0) := (kC BK104.out 2).trans rfl
  have hfs19 := fZ BK104.out 2
  refine skip_ (w1 := ?_) (by rfl) rfl ?_ ?_
  rotate_left
  ·
   go_simp
   rfl
  refine hK.out _ _ ⟨(cT NB0_104.out ((cT NB0_104.out ((cT NB0_104.out (hHeld.1)))))), (cT NB0_104.out ((cT NB0_104.out ((cT NB0_104.out (hHeld.2.1)))))), (cT NB0_104.out ((cT NB0_104.out ((cT NB0_104.out (hHeld.2.2))))))⟩ (fun hHeld => ?_)
  clear hK K
  refine done_ (done_of HT_.out (by kernel_rfl)) ?_
  obtain ⟨HGz20, hgz20⟩ := HI0.out
  have hcz20_0 := cellS62_0 HGz20
  have hcz20_1 := cellS62_1 HGz20
  have hcz20_2 := cellS62_2 HGz20
  have hfz20_0 := fZ HGz20 0
  have hfz20_1 := fZ HGz20 1
  have hfz20_2 := fZ HGz20 2
  clear HGz20 hgz20
  have hnb21 := NB104_0.out
  have hnc21 := NB0_104.out
  have hcz22 := q3 BK104.out
  have hfz22 := fZ BK104.out
  try go_wp2
  go_ret
  exact ⟨by first | rfl | (simp [*, errW_none, errW_some] <;> rfl), iX62_6_spec_l06Reader_text HI0.out, bI62_0_spec_l06Reader_text HB.out, hX HK.out⟩
 rw [if_neg c12] at H
 have c12b0 : (t103 == 0) = false := beq_eq_false_iff_ne.mpr c12
 have c12b1 : (t103 != 0) = true := bne_iff_ne.mpr c12
 simp only [Option.some.injEq, Prod.mk.injEq] at H
 obtain ⟨rfl, rfl, rfl, rfl⟩ := H
 go_enter Tryd.func43, Tryd.ntmps43
 try go_wp2
 have _ := AM (IsS62.drew HI0.out)
 have _ := AM (keep_drew HK.out)
 have _ := AM (bD HB.out)
 clear HI0 HK HB
 rename_i HI0 HK HB
 refine start_ (n := 11) (S := fun w' => w'.cell? ⟨g, 0, none⟩ = some (.string s0_0) ∧ w'.cell? ⟨g, 1, none⟩ = some (.int .i64 s0_1) ∧ w'.cell? ⟨g, 2, none⟩ = some (.bool false)) (ds := []) (upTo 0 11) (by kernel_rfl) rfl rfl ⟨(kC (AM HI0.out.1).out 0).trans rfl, (kC (AM HI0.out.1).out 1).trans rfl, (kC (AM HI0.out.1).out 2).trans rfl⟩ (fun hHeld => ?_); refine with_tabW spec_l06Reader_text.tab1 spec_l06Reader_text.bits1 (fun HT_ HW_ => ?_)
 generalize w.drew = w23 at HI0 HK HB hHeld ⊢
 refine pF 0 1 11 4 ?_
 refine pF 1 2 11 5 ?_
 refine pF 2 3 11 6 ?_
 refine pF2 4 8 spec_l06Reader_text.b0 ?_
 refine pF2 5 9 spec_l06Reader_text.b1 ?_
 refine pF2 6 10 spec_l06Reader_text.b2 ?_
 refine pT2 3 7 (upTo 7 11) ?_ hHeld
 refine pT2 7 11 (upTo 8 11) ?_ hHeld
 refine join_ (σ := Nat) 1 (upTo 10 11) (fun s_ => [(12, .agg #[.string t101, .int .i64 t102, .int .i64 t103]), (3, .pointer (some ⟨s_, 0, none⟩))]) (fun s_ w' => (w'.cell? ⟨g, 0, none⟩ = some (.string s0_0) ∧ w'.cell? ⟨g, 1, none⟩ = some (.int .i64 s0_1) ∧ w'.cell? ⟨g, 2, none⟩ = some (.bool false)) ∧ (w'.heap[s_]? = some (.cells #[.string (⟨#[]⟩ : ByteArray), .int .i64 0, .int .i64 0] 72 (0, 0))) ∧ (w.heap.size ≤ s_) ∧ (w0.heap.size ≤ s_) ∧ (g ≠ s_) ∧ (s_ ≠ g) ∧ (IsS62 w0 w' g s0_0 s0_1 false) ∧ (KeepBut w w' g none) ∧ (Below w0.heap.size w0 w')) ?_ ?_
 rotate_left
 ·
  intro hCont
  refine two_ (i := 8) (j := 9) (Ni := some 12) (Nj := some 3) (upTo 9 11) spec_l06Reader_text.b3 rfl rfl rfl rfl (two_of HT_.out (by kernel_rfl)) (by decide) (by decide) (fun K hK => ?_) (fun K hK => ?_)
  ·
   skip
   refine goes_ Tryd.func48 (by kernel_rfl) rfl #[.string s0_0, .int .i64 s0_1] (by rfl) rfl rfl (by (try simp only [mA, mB, mC]); first | done | rfl | (simp only [mD, mE]; rfl)) ?_
   with_reducible refine (spec_GetText.calls k s0_0 s0_1 t101 t102 t103 _ A2.out).mono ?_
   rintro e w24 ⟨rfl, hb⟩
   refine ⟨_, rfl, ?_⟩
   have _ := AM (IsS62.below (iX62_6_spec_l06Reader_text HI0.out) hb)
   have _ := AM (KeepBut.trans (hX HK.out) (KeepBut.of_below hb g none) (.inl rfl))
   have _ := AM (below_step (bI62_0_spec_l06Reader_text HB.out) hb)
   clear HI0 HK HB
   rename_i HI0 HK HB
   (try clear hb)
   (try clear hk)
   refine hK.out _ _ ⟨(kC (AM HI0.out.1).out 0).trans rfl, (kC (AM HI0.out.1).out 1).trans rfl, (kC (AM HI0.out.1).out 2).trans rfl⟩ (fun hHeld => ?_)
   clear hK K
   refine norm_ (a' := ?_) ?_ ?_
   rotate_left
   ·
    show Act.put _ (some 12) _ = _
    simp only [Act.put, sA, sB, sC, i64_w, i32_w]
    rfl
   refine one_ (i := 9) (N := some 3) (upTo 10 11) rfl rfl (one_of HT_.out (by kernel_rfl)) (by decide) (fun K hK => ?_)
   refine box_step ?hg (N := 3) ?hd (cs := #[.string (⟨#[]⟩ : ByteArray), .int .i64 0, .int .i64 0]) (t := 72) ?hr ?_; (case hd => rfl); (case hg => rfl); (case hr => first | (go_simp; done) | (go_simp; rfl))
   intro gb104 hg w25 hbox hb
   have _ := AM (IsS62.below (iX62_6_spec_l06Reader_text HI0.out) hb)
   have _ := AM (KeepBut.trans (hX HK.out) (KeepBut.of_below hb g none) (.inl rfl))
   have _ := AM (below_step (bI62_0_spec_l06Reader_text HB.out) hb)
   have _ := AM (hbox)
   have _ := AM ((by rw [hg]; exact (keep_size (w := w) (g := g) (row := none) (hX HK.out)) : w.heap.size ≤ gb104))
   have _ := AM ((Nat.le_trans HW0.out (by rw [hg]; exact (keep_size (w := w) (g := g) (row := none) (hX HK.out)) : w.heap.size ≤ gb104) : w0.heap.size ≤ gb104))
   have _ := AM ((by rw [hg]; exact Nat.ne_of_lt (IsS62.lt (show IsS62 w0 _ g s0_0 s0_1 false from iX62_6_spec_l06Reader_text HI0.out)) : g ≠ gb104))
   have _ := AM ((by rw [hg]; exact Nat.ne_of_gt (IsS62.lt (show IsS62 w0 _ g s0_0 s0_1 false from iX62_6_spec_l06Reader_text HI0.out)) : gb104 ≠ g))
   clear HI0 HK HB
   rename_i HI0 HK HB BK104 GW104 GE104 NB0_104 NB104_0
   clear hb hbox hg
   refine hK.out _ _ ⟨(kC (AM HI0.out.1).out 0).trans rfl, (kC (AM HI0.out.1).out 1).trans rfl, (kC (AM HI0.out.1).out 2).trans rfl⟩ (fun hHeld => ?_)
   clear hK K
   refine norm_ (a' := ?_) ?_ ?_
   rotate_left
   ·
    show Act.put _ (some 3) _ = _
    simp only [Act.put, sA, sB, sC, i64_w, i32_w]
    rfl
   exact norm_ (by simp only [putAll, Act.put, List.setIfInBounds_toArray, List.set_cons_zero, List.set_cons_succ]) (hCont (gb104) _ ⟨hHeld, (kX BK104.out), GW104.out, GE104.out, NB0_104.out, NB104_0.out, (iX62_6_spec_l06Reader_text HI0.out), (hX HK.out), (bI62_0_spec_l06Reader_text HB.out)⟩)
  skip
  refine box_step ?hg (N := 3) ?hd (cs := #[.string (⟨#[]⟩ : ByteArray), .int .i64 0, .int .i64 0]) (t := 72) ?hr ?_; (case hd => rfl); (case hg => rfl); (case hr => first | (go_simp; done) | (go_simp; rfl))
  intro gb104 hg w24 hbox hb
  have _ := AM (IsS62.below (iX62_6_spec_l06Reader_text HI0.out) hb)
  have _ := AM (KeepBut.trans (hX HK.out) (KeepBut.of_below hb g none) (.inl rfl))
  have _ := AM (below_step (bI62_0_spec_l06Reader_text HB.out) hb)
  have _ := AM (hbox)
  have _ := AM ((by rw [hg]; exact (keep_size (w := w) (g := g) (row := none) (hX HK.out)) : w.heap.size ≤ gb104))
  have _ := AM ((Nat.le_trans HW0.out (by rw [hg]; exact (keep_size (w := w) (g := g) (row := none) (hX HK.out)) : w.heap.size ≤ gb104) : w0.heap.size ≤ gb104))
  have _ := AM ((by rw [hg]; exact Nat.ne_of_lt (IsS62.lt (show IsS62 w0 _ g s0_0 s0_1 false from iX62_6_spec_l06Reader_text HI0.out)) : g ≠ gb104))
  have _ := AM ((by rw [hg]; exact Nat.ne_of_gt (IsS62.lt (show IsS62 w0 _ g s0_0 s0_1 false from iX62_6_spec_l06Reader_text HI0.out)) : gb104 ≠ g))
  clear HI0 HK HB
  rename_i HI0 HK HB BK104 GW104 GE104 NB0_104 NB104_0
  clear hb hbox hg
  refine hK.out _ _ ⟨(kC (AM HI0.out.1).out 0).trans rfl, (kC (AM HI0.out.1).out 1).trans rfl, (kC (AM HI0.out.1).out 2).trans rfl⟩ (fun hHeld => ?_)
  clear hK K
  refine norm_ (a' := ?_) ?_ ?_
  rotate_left
  ·
   show Act.put _ (some 3) _ = _
   simp only [Act.put, sA, sB, sC, i64_w, i32_w]
   rfl
  refine one_ (i := 8) (N := some 12) (upTo 10 11) rfl rfl (one_of HT_.out (by kernel_rfl)) (by decide) (fun K hK => ?_)
  refine goes_ Tryd.func48 (by kernel_rfl) rfl #[.string s0_0, .int .i64 s0_1] (by rfl) rfl rfl (by (try simp only [mA, mB, mC]); first | done | rfl | (simp only [mD, mE]; rfl)) ?_
  with_reducible refine (spec_GetText.calls k s0_0 s0_1 t101 t102 t103 _ A2.out).mono ?_
  rintro e w25 ⟨rfl, hb⟩
  refine ⟨_, rfl, ?_⟩
  have _ := AM (IsS62.below (iX62_6_spec_l06Reader_text HI0.out) hb)
  have _ := AM (nB BK104.out hb)
  have _ := AM (KeepBut.trans (hX HK.out) (KeepBut.of_below hb g none) (.inl rfl))
  have _ := AM (below_step (bI62_0_spec_l06Reader_text HB.out) hb)
  clear HI0 BK104 HK HB
  rename_i HI0 BK104 HK HB
  (try clear hb)
  (try clear hk)
  refine hK.out _ _ ⟨(kC (AM HI0.out.1).out 0).trans rfl, (kC (AM HI0.out.1).out 1).trans rfl, (kC (AM HI0.out.1).out 2).trans rfl⟩ (fun hHeld => ?_)
  clear hK K
  refine norm_ (a' := ?_) ?_ ?_
  rotate_left
  ·
   show Act.put _ (some 12) _ = _
   simp only [Act.put, sA, sB, sC, i64_w, i32_w]
   rfl
  exact norm_ (by simp only [putAll, Act.put, List.setIfInBounds_toArray, List.set_cons_zero, List.set_cons_succ]) (hCont (gb104) _ ⟨hHeld, (kX BK104.out), GW104.out, GE104.out, NB0_104.out, NB104_0.out, (iX62_6_spec_l06Reader_text HI0.out), (hX HK.out), (bI62_0_spec_l06Reader_text HB.out)⟩)
 rintro gb104 w26 ⟨hS_, h0_, h1_, h2_, h3_, h4_, h5_, h6_, h7_⟩
 have _ : Aside0 (w26.heap[gb104]? = some (.cells #[.string (⟨#[]⟩ : ByteArray), .int .i64 0, .int .i64 0] 72 (0, 0))) := ⟨h0_⟩
 have _ : Aside0 (w.heap.size ≤ gb104) := ⟨h1_⟩
 have _ : Aside0 (w0.heap.size ≤ gb104) := ⟨h2_⟩
 have _ : Aside0 (g ≠ gb104) := ⟨h3_⟩
 have _ : Aside0 (gb104 ≠ g) := ⟨h4_⟩
 have _ : Aside0 (IsS62 w0 w26 g s0_0 s0_1 false) := ⟨h5_⟩
 have _ : Aside0 (KeepBut w w26 g none) := ⟨h6_⟩
 have _ : Aside0 (Below w0.heap.size w0 w26) := ⟨h7_⟩
 clear HI0 HK HB h0_ h1_ h2_ h3_ h4_ h5_ h6_ h7_
 rename_i BK104 GW104 GE104 NB0_104 NB104_0 HI0 HK HB
 have hHeld : w26.cell? ⟨g, 0, none⟩ = some (.string s0_0) ∧ w26.cell? ⟨g, 1, none⟩ = some (.int .i64 s0_1) ∧ w26.cell? ⟨g, 2, none⟩ = some (.bool false) := hS_
 refine norm_ (a' := ?_) ?_ ?_
 rotate_left
 ·
  simp only [putAll, Act.put, List.setIfInBounds_toArray, List.set_cons_zero, List.set_cons_succ]
  rfl
 refine one_ (i := 10) (N := none) (upTo 11 11) rfl rfl (one_of HT_.out (by kernel_rfl)) (by decide) (fun K hK => ?_)
 have hs27 : w26.cell? ⟨gb104, 0, none⟩ = some (.string (⟨#[]⟩ : ByteArray)) := (kC BK104.out 0).trans rfl
 have hfs27 := fZ BK104.out 0
 have hs28 : w26.cell? ⟨gb104, 1, none⟩ = some (.int .i64 0) := (kC BK104.out 1).trans rfl
 have hfs28 := fZ BK104.out 1
 have hs29 : w26.cell? ⟨gb104, 2, none⟩ = some (.int .i64 0) := (kC BK104.out 2).trans rfl
 have hfs29 := fZ BK104.out 2
 refine skip_ (w1 := ?_) (by rfl) rfl ?_ ?_
 rotate_left
 ·
  go_simp
  rfl
 refine hK.out _ _ ⟨(cT NB0_104.out ((cT NB0_104.out ((cT NB0_104.out (hHeld.1)))))), (cT NB0_104.out ((cT NB0_104.out ((cT NB0_104.out (hHeld.2.1)))))), (cT NB0_104.out ((cT NB0_104.out ((cT NB0_104.out (hHeld.2.2))))))⟩ (fun hHeld => ?_)
 clear hK K
 refine done_ (done_of HT_.out (by kernel_rfl)) ?_
 obtain ⟨HGz30, hgz30⟩ := HI0.out
 have hcz30_0 := cellS62_0 HGz30
 have hcz30_1 := cellS62_1 HGz30
 have hcz30_2 := cellS62_2 HGz30
 have hfz30_0 := fZ HGz30 0
 have hfz30_1 := fZ HGz30 1
 have hfz30_2 := fZ HGz30 2
 clear HGz30 hgz30
 have hnb31 := NB104_0.out
 have hnc31 := NB0_104.out
 have hcz32 := q3 BK104.out
 have hfz32 := fZ BK104.out
 try go_wp2
 go_ret
 exact ⟨by first | rfl | (simp [*, errW_none, errW_some] <;> rfl), iX62_6_spec_l06Reader_text HI0.out, bI62_0_spec_l06Reader_text HB.out, hX HK.out⟩

end Go.Proofs.YtbediildfabhnaaDoor.Q
