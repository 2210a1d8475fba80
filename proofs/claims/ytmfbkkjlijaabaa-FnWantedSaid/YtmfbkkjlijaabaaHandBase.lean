/- Small words that hand-written contracts use: wrapped counters, the first index at which a test holds. No condition. -/
import Derived.Test.YtmfbkkjlijaabaaV
import Derived.WalkSpells
import Derived.Laws.Cover1
import Derived.StillTailTactics
namespace Go.Proofs.Ytmfbkkjlijaabaa.HB
open Go.RowKit Go.Proofs.YtmfbkkjlijaabaaW.PrintWords Go.Proofs.YtmfbkkjlijaabaaW.PrintLast Go.Proofs.YtmfbkkjlijaabaaW.PrintMore
theorem w_succ_ {i : Int} {n : Nat} (h0 : 0 ≤ i) (h : i < (n : Int)) (hn : n ≤ 9223372036854775807) : wrap64 (i + 1) = i + 1 := by unfold wrap64; omega
/-- The first index, counted from i on, at which p holds; or -1. -/
def ixFrom {α : Type} (p : α → Bool) : List α → Nat → Int
  | [], _ => -1
  | x :: xs, i => if p x then i else ixFrom p xs (i+1)
theorem sA {α : Type} (l : List α) (i : Nat) (a : α) : l.toArray.setIfInBounds i a = (l.set i a).toArray := List.setIfInBounds_toArray ..
theorem sB {α : Type} {x : α} {xs : List α} {a : α} : (x :: xs).set 0 a = a :: xs := List.set_cons_zero
theorem sC {α : Type} {x : α} {xs : List α} {i : Nat} {a : α} : (x :: xs).set (i + 1) a = x :: xs.set i a := List.set_cons_succ
/-- Of n marks the first i are set. -/
abbrev upTo (i n : Nat) : Array Bool := ((List.range n).map fun j => decide (j < i)).toArray
/-- 'pure_' where the operations go in the text's order: the place is read off the marks. -/
theorem pN {P : Program} {ops : Array Oper} {Q : Exit → Act → World → Prop} {md : Region.Mode} {S : World → Prop} {ds : List Nat} {i n : Nat} {N : Option Tmp} {oi : Oper} {v : Value} {fuel : Nat} {a : Act} {w : World}
    (hi : ops[i]? = some oi) (hN : oi.dst = N) (hc : anyB md ops (upTo i n) (upTo (i + 1) n) i = true) (hy : Yields P ops oi v a) {a' : Act} (ha : a.put N v = a')
    (h : wpAnyLast P md ops Q S ds fuel (upTo (i + 1) n) a' w) (hQ : ∀ c a w, Q (.panic c) (a.put oi.dst v) w → Q (.panic c) a w := by exact fun _ _ _ h => h) : wpAnyLast P md ops Q S ds (fuel + 1) (upTo i n) a w :=
  pure_ (upTo (i + 1) n) hi hN hc hQ hy ha h
/-- 'pure_' with place and slot named. -/
theorem pE {P : Program} {ops : Array Oper} {Q : Exit → Act → World → Prop} {md : Region.Mode} {S : World → Prop} {ds : List Nat} (i m n N : Nat) {oi : Oper} {v : Value} {fuel : Nat} {a : Act} {w : World}
    (hi : ops[i]? = some oi) (hN : oi.dst = some N) (hc : anyB md ops (upTo i n) (upTo m n) i = true) (hy : Yields P ops oi v a) {a' : Act} (ha : a.put (some N) v = a')
    (h : wpAnyLast P md ops Q S ds fuel (upTo m n) a' w) (hQ : ∀ c a w, Q (.panic c) (a.put oi.dst v) w → Q (.panic c) a w := by exact fun _ _ _ h => h) : wpAnyLast P md ops Q S ds (fuel + 1) (upTo i n) a w :=
  pure_ (upTo m n) hi hN hc hQ hy ha h
/-- 'pE', where all that is asked is shown the one way that the print shows it. -/
theorem pF {P : Program} {ops : Array Oper} {Q : Exit → Act → World → Prop} {md : Region.Mode} {S : World → Prop} {ds : List Nat} (i m n N : Nat) {oi : Oper} {v : Value} {fuel : Nat} {a a' : Act} {w : World}
    (h : wpAnyLast P md ops Q S ds fuel (upTo m n) a' w) (hi : ops[i]? = some oi := by exact rfl) (hN : oi.dst = some N := by exact rfl) (hc : anyB md ops (upTo i n) (upTo m n) i = true := by exact any_of HT_.out (by kernel_rfl))
    (hy : Yields P ops oi v a := by exact Or.inl ⟨by rfl, fun w' => by go_simp; with_reducible rfl⟩) (ha : a.put (some N) v = a' := by simp only [Act.put, sA, sB, sC, i64_w, i32_w]; rfl)
    (hQ : ∀ c a w, Q (.panic c) (a.put oi.dst v) w → Q (.panic c) a w := by exact fun _ _ _ h => h) : wpAnyLast P md ops Q S ds (fuel + 1) (upTo i n) a w :=
  pure_ (upTo m n) hi hN hc hQ hy ha h
/-- The same of an operation that is passed by. -/
theorem pU {P : Program} {ops : Array Oper} {Q : Exit → Act → World → Prop} {md : Region.Mode} {S : World → Prop} {ds : List Nat} (i m n N : Nat) {oi : Oper} {fuel : Nat} {a a' : Act} {w : World}
    (h : wpAnyLast P md ops Q S ds fuel (upTo m n) a' w) (hi : ops[i]? = some oi := by exact rfl) (hN : oi.dst = some N := by exact rfl) (hc : anyB md ops (upTo i n) (upTo m n) i = true := by exact any_of HT_.out (by kernel_rfl))
    (hy : Yields P ops oi undef a := by exact Or.inr ⟨by rfl, rfl⟩) (ha : a.put (some N) undef = a' := by simp only [Act.put, sA, sB, sC, i64_w, i32_w]; rfl)
    (hQ : ∀ c a w, Q (.panic c) (a.put oi.dst undef) w → Q (.panic c) a w := by exact fun _ _ _ h => h) : wpAnyLast P md ops Q S ds (fuel + 1) (upTo i n) a w :=
  pure_ (upTo m n) hi hN hc hQ hy ha h
/-- 'take_', the one way that the print shows it. -/
theorem pT {P : Program} {ops : Array Oper} {Q : Exit → Act → World → Prop} {md : Region.Mode} {S : World → Prop} {ds : List Nat} (i m n N : Nat) {oi : Oper} {v : Value} {fuel : Nat} {a a' : Act} {w : World}
    (h : wpAnyLast P md ops Q S ds fuel (upTo m n) a' w) (hS : S w) (hi : ops[i]? = some oi := by exact rfl) (hN : oi.dst = some N := by exact rfl) (hc : takeB md ops ds (upTo i n) (upTo m n) i = true := by exact take_ofW HT_.out HW_.out (by kernel_rfl))
    (hy : YieldsIf P ops S oi v a := by exact Or.inl ⟨by rfl, by intro w' hs; (repeat (obtain ⟨_, hs⟩ : _ ∧ _ := hs)); go_simp; with_reducible rfl⟩) (ha : a.put (some N) v = a' := by simp only [Act.put, sA, sB, sC, i64_w, i32_w]; rfl)
    (hQ : ∀ c a w, Q (.panic c) (a.put oi.dst v) w → Q (.panic c) a w := by exact fun _ _ _ h => h) : wpAnyLast P md ops Q S ds (fuel + 1) (upTo i n) a w :=
  take_ (upTo m n) hi hN hc hQ hy hS ha h
/-- The same, whatever marks stand before. -/
theorem pF2 {P : Program} {ops : Array Oper} {Q : Exit → Act → World → Prop} {md : Region.Mode} {S : World → Prop} {ds : List Nat} {l : Array Bool} (i N : Nat) (l' : Array Bool) {oi : Oper} {v : Value} {fuel : Nat} {a a' : Act} {w : World}
    (h : wpAnyLast P md ops Q S ds fuel l' a' w) (hi : ops[i]? = some oi := by exact rfl) (hN : oi.dst = some N := by exact rfl) (hc : anyB md ops l l' i = true := by exact any_of HT_.out (by kernel_rfl))
    (hy : Yields P ops oi v a := by exact Or.inl ⟨by rfl, fun w' => by go_simp; with_reducible rfl⟩) (ha : a.put (some N) v = a' := by simp only [Act.put, sA, sB, sC, i64_w, i32_w]; rfl)
    (hQ : ∀ c a w, Q (.panic c) (a.put oi.dst v) w → Q (.panic c) a w := by exact fun _ _ _ h => h) : wpAnyLast P md ops Q S ds (fuel + 1) l a w :=
  pure_ l' hi hN hc hQ hy ha h
theorem pT2 {P : Program} {ops : Array Oper} {Q : Exit → Act → World → Prop} {md : Region.Mode} {S : World → Prop} {ds : List Nat} {l : Array Bool} (i N : Nat) (l' : Array Bool) {oi : Oper} {v : Value} {fuel : Nat} {a a' : Act} {w : World}
    (h : wpAnyLast P md ops Q S ds fuel l' a' w) (hS : S w) (hi : ops[i]? = some oi := by exact rfl) (hN : oi.dst = some N := by exact rfl) (hc : takeB md ops ds l l' i = true := by exact take_ofW HT_.out HW_.out (by kernel_rfl))
    (hy : YieldsIf P ops S oi v a := by exact Or.inl ⟨by rfl, by intro w' hs; (repeat (obtain ⟨_, hs⟩ : _ ∧ _ := hs)); go_simp; with_reducible rfl⟩) (ha : a.put (some N) v = a' := by simp only [Act.put, sA, sB, sC, i64_w, i32_w]; rfl)
    (hQ : ∀ c a w, Q (.panic c) (a.put oi.dst v) w → Q (.panic c) a w := by exact fun _ _ _ h => h) : wpAnyLast P md ops Q S ds (fuel + 1) l a w :=
  take_ l' hi hN hc hQ hy hS ha h
/-! Short names. -/
theorem mA {α β : Type} {f : α → β} {l : List α} : l.toArray.map f = (l.map f).toArray := List.map_toArray
theorem mB {α β : Type} {f : α → β} {a : α} {l : List α} : (a :: l).map f = f a :: l.map f := List.map_cons
theorem mC {α β : Type} {f : α → β} : ([] : List α).map f = [] := List.map_nil
theorem mD {α : Type} {i : Nat} {l : List α} : (l.drop i).length = l.length - i := List.length_drop
theorem mE {α : Type} {i : Nat} {l : List α} : (l.take i).length = min i l.length := List.length_take
abbrev bA := @below_alloc
abbrev bN := @pw_below_drewN
abbrev bD := @below_drew1
abbrev bS := @below_set
abbrev bZ := @below_size
abbrev kN := @blk_drewN
abbrev kD := @blk_drew
abbrev kA := @blk_alloc
abbrev kC := @blk_cell
abbrev fZ := @blk_frozen
abbrev rA := @Kd.R_alloc
abbrev rN := @Kd.R_drewN
abbrev rD := @Kd.R_drew
abbrev cB := @Kd.C_below
abbrev cA := @Kd.C_alloc
abbrev cN := @Kd.C_drewN
abbrev cD := @Kd.C_drew
abbrev AM := @Aside0.mk
theorem C_none {α : Type} {d : Kd α} {w : World} {n : Nat} {xs : List α} (h : d.C w none n xs) : xs = [] := by
  have h0 := h.1
  by_cases hn : 0 < n
  · obtain ⟨ad, e, _⟩ := h.2.2 hn
    exact absurd e (by simp)
  · exact List.eq_nil_of_length_eq_zero (by omega)
/-! What holds still holds: the steps that the print takes, unsaid. -/
theorem kX {p q : Prop} (h : p) (f : p → q := by intro h_; (with_reducible repeat (first | apply kN | apply kD | apply kA)); exact h_) : q := f h
theorem rX {p q : Prop} (h : p) (f : p → q := by intro h_; (with_reducible repeat (first | apply rA | apply rN | apply rD)); exact h_) : q := f h
theorem qX {p q : Prop} (h : p) (f : p → q := by intro h_; (with_reducible repeat (first | apply Kd.Q_alloc | apply Kd.Q_drewN | apply Kd.Q_drew)); exact h_) : q := f h
theorem bX {n : Nat} {w W W' : World} (h : Below n w W) (f : Below n w W → Below n w W' := by intro h_; repeat (first | (with_reducible first | exact h_ | apply bA | apply bN | apply bD | refine bS ?_ (Aside0.out (by assumption))) | exact h_)) : Below n w W' := f h
theorem hX {w W W' : World} {g : Nat} {row : Option Nat} (h : KeepBut w W g row) (f : KeepBut w W g row → KeepBut w W' g row := by intro h_; repeat (first | (with_reducible first | exact h_ | apply KeepBut.set_ | apply keep_drewN | apply keep_drew | apply keep_alloc | refine keep_far ?_ (Aside0.out (by assumption)) _) | exact h_)) : KeepBut w W' g row := f h
theorem tX {w W W' : World} {S : Nat → Prop} (h : Kept w W S) (f : Kept w W S → Kept w W' S := by intro h_; repeat (first | (with_reducible first | exact h_ | apply Kept.alloc | apply Kept.drewN | apply Kept.drew | refine Kept.setCell ?_ (.inr (Aside0.out (by assumption))) _) | exact h_)) : Kept w W' S := f h
theorem cT {W : World} {a : Addr} {g j : Nat} {u : Value} {x : Option Value} (h : a.block ≠ g) (hx : W.cell? a = x) : (W.setCell ⟨g, j, none⟩ u).cell? a = x := (cell_far (p := ⟨g, j, none⟩) h u).trans hx
theorem q4 {w : World} {g t : Nat} {a b c d : Value} (h : w.heap[g]? = some (.cells #[a, b, c, d] t (0, 0))) : w.cell? ⟨g, 0, none⟩ = some a ∧ w.cell? ⟨g, 1, none⟩ = some b ∧ w.cell? ⟨g, 2, none⟩ = some c ∧ w.cell? ⟨g, 3, none⟩ = some d :=
  ⟨(kC h 0).trans rfl, (kC h 1).trans rfl, (kC h 2).trans rfl, (kC h 3).trans rfl⟩
theorem kF {w : World} {g t : Nat} {cs : Array Value} {p : Addr} {u : Value} {q : Prop} (hp : g ≠ p.block) (h : w.heap[g]? = some (.cells cs t (0, 0))) (f : (w.setCell p u).heap[g]? = some (.cells cs t (0, 0)) → q := by intro h_; (with_reducible repeat (first | apply kN | apply kD | apply kA)); exact h_) : q := f (blk_far h hp u)
theorem kP {w : World} {g t : Nat} {cs cs' : Array Value} (i : Nat) {u : Value} {q : Prop} (h : w.heap[g]? = some (.cells cs t (0, 0))) (f : (w.setCell ⟨g, i, none⟩ u).heap[g]? = some (.cells cs' t (0, 0)) → q := by intro h_; (with_reducible repeat (first | apply kN | apply kD | apply kA)); exact h_) (e : cs.setIfInBounds i u = cs' := by first | exact rfl | (subst_vars; exact rfl)) : q := f (blk_put h i u e)
theorem q1 {w : World} {g t : Nat} {a : Value} (h : w.heap[g]? = some (.cells #[a] t (0, 0))) : w.cell? ⟨g, 0, none⟩ = some a :=
  (kC h 0).trans rfl
theorem q2 {w : World} {g t : Nat} {a b : Value} (h : w.heap[g]? = some (.cells #[a, b] t (0, 0))) : w.cell? ⟨g, 0, none⟩ = some a ∧ w.cell? ⟨g, 1, none⟩ = some b :=
  ⟨(kC h 0).trans rfl, (kC h 1).trans rfl⟩
theorem q3 {w : World} {g t : Nat} {a b c : Value} (h : w.heap[g]? = some (.cells #[a, b, c] t (0, 0))) : w.cell? ⟨g, 0, none⟩ = some a ∧ w.cell? ⟨g, 1, none⟩ = some b ∧ w.cell? ⟨g, 2, none⟩ = some c :=
  ⟨(kC h 0).trans rfl, (kC h 1).trans rfl, (kC h 2).trans rfl⟩
theorem q5 {w : World} {g t : Nat} {a b c d e : Value} (h : w.heap[g]? = some (.cells #[a, b, c, d, e] t (0, 0))) : w.cell? ⟨g, 0, none⟩ = some a ∧ w.cell? ⟨g, 1, none⟩ = some b ∧ w.cell? ⟨g, 2, none⟩ = some c ∧ w.cell? ⟨g, 3, none⟩ = some d ∧ w.cell? ⟨g, 4, none⟩ = some e :=
  ⟨(kC h 0).trans rfl, (kC h 1).trans rfl, (kC h 2).trans rfl, (kC h 3).trans rfl, (kC h 4).trans rfl⟩
theorem q6 {w : World} {g t : Nat} {a b c d e f : Value} (h : w.heap[g]? = some (.cells #[a, b, c, d, e, f] t (0, 0))) : w.cell? ⟨g, 0, none⟩ = some a ∧ w.cell? ⟨g, 1, none⟩ = some b ∧ w.cell? ⟨g, 2, none⟩ = some c ∧ w.cell? ⟨g, 3, none⟩ = some d ∧ w.cell? ⟨g, 4, none⟩ = some e ∧ w.cell? ⟨g, 5, none⟩ = some f :=
  ⟨(kC h 0).trans rfl, (kC h 1).trans rfl, (kC h 2).trans rfl, (kC h 3).trans rfl, (kC h 4).trans rfl, (kC h 5).trans rfl⟩
theorem q7 {w : World} {g t : Nat} {a b c d e f y : Value} (h : w.heap[g]? = some (.cells #[a, b, c, d, e, f, y] t (0, 0))) : w.cell? ⟨g, 0, none⟩ = some a ∧ w.cell? ⟨g, 1, none⟩ = some b ∧ w.cell? ⟨g, 2, none⟩ = some c ∧ w.cell? ⟨g, 3, none⟩ = some d ∧ w.cell? ⟨g, 4, none⟩ = some e ∧ w.cell? ⟨g, 5, none⟩ = some f ∧ w.cell? ⟨g, 6, none⟩ = some y :=
  ⟨(kC h 0).trans rfl, (kC h 1).trans rfl, (kC h 2).trans rfl, (kC h 3).trans rfl, (kC h 4).trans rfl, (kC h 5).trans rfl, (kC h 6).trans rfl⟩
theorem q8 {w : World} {g t : Nat} {a b c d e f y z : Value} (h : w.heap[g]? = some (.cells #[a, b, c, d, e, f, y, z] t (0, 0))) : w.cell? ⟨g, 0, none⟩ = some a ∧ w.cell? ⟨g, 1, none⟩ = some b ∧ w.cell? ⟨g, 2, none⟩ = some c ∧ w.cell? ⟨g, 3, none⟩ = some d ∧ w.cell? ⟨g, 4, none⟩ = some e ∧ w.cell? ⟨g, 5, none⟩ = some f ∧ w.cell? ⟨g, 6, none⟩ = some y ∧ w.cell? ⟨g, 7, none⟩ = some z :=
  ⟨(kC h 0).trans rfl, (kC h 1).trans rfl, (kC h 2).trans rfl, (kC h 3).trans rfl, (kC h 4).trans rfl, (kC h 5).trans rfl, (kC h 6).trans rfl, (kC h 7).trans rfl⟩
theorem nB {w w' w1 : World} {g : Nat} {o : Obj} (h : w.heap[g]? = some o) (hb : Below w'.heap.size w' w1) (f : w.heap[g]? = some o → w'.heap[g]? = some o := by intro h_; (with_reducible repeat (first | apply kN | apply kD | apply kA)); exact h_) : w1.heap[g]? = some o := blk_below (f h) hb
theorem lX {w w' : World} {g g' : Nat} {o : Obj} (hg : g' = w'.heap.size) (h : w.heap[g]? = some o) (f : w.heap[g]? = some o → w'.heap[g]? = some o := by intro h_; (with_reducible repeat (first | apply kN | apply kD | apply kA)); exact h_) : g ≠ g' := by rw [hg]; exact Nat.ne_of_lt (blk_lt (f h))
theorem kB {w w' w1 : World} {g g' : Nat} {row : Option Nat} {o : Obj} (hk : KeepBut w' w1 g row) (h : w.heap[g']? = some o) (hg : g' ≠ g) (hr : some g' ≠ row) (f : w.heap[g']? = some o → w'.heap[g']? = some o := by intro h_; (with_reducible repeat (first | apply kN | apply kD | apply kA)); exact h_) : w1.heap[g']? = some o := KeepBut.blk hk (f h) hg hr
theorem dD {w : World} {a b : Nat} : (w.drewN a).drewN b = w.drewN (a + b) := World.drewN_drewN _ _ _
theorem dA {w : World} {a b c : Nat} : (w.drewN (a + b)).drewN c = w.drewN (a + (b + c)) := Eq.trans (World.drewN_drewN _ _ _) (congrArg (World.drewN _) (Nat.add_assoc _ _ _))
theorem Rf4 {α : Type} {kd : Kd α} {e base g t : Nat} {ok ok' : Nat → Prop} {w : World} {x : Value} {xs : List α} {cs : Array Value} {a b c d : Value} (h : kd.R e w base ok x xs) (hb : w.heap[g]? = some (.cells cs t (0, 0))) (ht : ∀ q, q ∈ e :: kd.E → q ≠ t) (hok : ∀ k, ok k ∧ k ≠ g → ok' k) : kd.R e ((((w.setCell ⟨g, 0, none⟩ a).setCell ⟨g, 1, none⟩ b).setCell ⟨g, 2, none⟩ c).setCell ⟨g, 3, none⟩ d) base ok' x xs := Kd.R_mono (Kd.R_far (p := ⟨g, 3, none⟩) (Kd.R_far (p := ⟨g, 2, none⟩) (Kd.R_far (p := ⟨g, 1, none⟩) (Kd.R_far (p := ⟨g, 0, none⟩) (Kd.R_types h hb ht) (fun _ hk => hk.2) a) (fun _ hk => hk.2) b) (fun _ hk => hk.2) c) (fun _ hk => hk.2) d) hok
theorem pB {w w1 : World} (h : Below w.heap.size w w1) {a : Addr} {v : Value} (hc : w.cell? a = some v) : w1.cell? a = some v := pw_cell_below h hc
theorem oD {p : Prop} [inst : Decidable p] (h : decide p = true) : p := of_decide_eq_true h
theorem dY {p : Prop} [inst : Decidable p] (h : p) : decide p = true := decide_eq_true h
theorem dN {p : Prop} [inst : Decidable p] (h : ¬ p) : decide p = false := decide_eq_false h
theorem oM {α β : Type} {o : Option α} {f : α → Option β} {b : β} (h : o.bind f = some b) : ∃ a, o = some a ∧ f a = some b := Option.bind_eq_some_iff.mp h
theorem oE {b : Bool} (h : ¬ b = true) : b = false := Bool.eq_false_iff.mpr h
theorem nft : ¬ (false = true) := by decide
theorem oR {α : Type} (a : Option α) : LeO a a := LeO.refl a
theorem oN {α : Type} (b : Option α) : LeO Option.none b := LeO.none b
theorem oI {α : Type} {c : Prop} [Decidable c] {a a' b b' : Option α} (h : LeO a a') (k : LeO b b') : LeO (if c then a else b) (if c then a' else b') := LeO.ite h k
theorem oB {α β : Type} {a a' : Option α} {f f' : α → Option β} (h : LeO a a') (k : ∀ x, LeO (f x) (f' x)) : LeO (a.bind f) (a'.bind f') := LeO.bind h k
/-- 'goes_', 'goesL_', 'one_', 'box_event', the one way that the print shows them. -/
theorem gs {P : Program} {ops : Array Oper} {Q : Exit → Act → World → Prop} {oi : Oper} {N : Option Tmp} {a : Act} {w : World} {K : Act → World → Prop} {f : FuncId} {fn : Func} {as : Array Operand} {ts : Array TypeId} (hf : P.funcs[f]? = some fn) (args : Array Value)
    (h : Calls P f args w fun e w' => ∃ v, e = .returned v ∧ K (a.put N v) w') (hname : (fn.name == "runtime.NumGoroutine") = false := by kernel_rfl) (hb : fn.body.isSome = true := by exact rfl) (hw : Region.wanted oi (yielded ops a.tmps) = true := by rfl) (hN : oi.dst = N := by exact rfl)
    (hop : oi.op = .call { callee := .value (.func f), args := as, argTypes := ts } := by exact rfl) (hargs : as.map a.eval = args := by (try simp only [mA, mB, mC]); first | done | rfl | (simp only [mD, mE]; rfl)) : if Region.wanted oi (yielded ops a.tmps) = true then Oper.wp P oi a w K Q else K (a.put N undef) w :=
  goes_ hf hname hb args hw hN hop hargs h
theorem gL {P : Program} {ops : Array Oper} {Q : Exit → Act → World → Prop} {rest : List Oper} {oi : Oper} {a : Act} {w : World} (N : Option Tmp) {f : FuncId} {fn : Func} {as : Array Operand} {ts : Array TypeId} (hf : P.funcs[f]? = some fn) (args : Array Value)
    (h : Calls P f args w fun e w' => ∃ v, e = .returned v ∧ wpList P ops Q rest (a.put N v) w') (hd : oi.dst = N := by exact rfl) (hg : oi.guard = none := by exact rfl) (hname : (fn.name == "runtime.NumGoroutine") = false := by kernel_rfl) (hb : fn.body.isSome = true := by exact rfl)
    (hop : oi.op = .call { callee := .value (.func f), args := as, argTypes := ts } := by exact rfl) (hargs : as.map a.eval = args := by (try simp only [mA, mB, mC]); first | done | rfl | (simp only [mD, mE]; rfl)) : wpList P ops Q (oi :: rest) a w :=
  goesL_ N hd hg hf hname hb args hop hargs h
theorem oU {P : Program} {ops : Array Oper} {Q : Exit → Act → World → Prop} {md : Region.Mode} {S : World → Prop} {ds : List Nat} {T : Bool × List (List Nat × List Nat)} {oi : Oper} {fuel : Nat} {l : Array Bool} {a : Act} {w : World} (i N : Nat) (l' : Array Bool) (hT : rtab md ops = T)
    (h : ∀ K : Act → World → Prop, Shut (∀ a' w', S w' → (S w' → wpAnyLast P md ops Q S ds fuel l' a' w') → K a' w') → if Region.wanted oi (yielded ops a.tmps) = true then Oper.wp P oi a w K Q else K (a.put (some N) undef) w)
    (hi : ops[i]? = some oi := by exact rfl) (hN : oi.dst = some N := by exact rfl) (hc : (readyT T.2 l.toList == [i] && l.toList.set i true == l'.toList) = true := by kernel_rfl) (hd : i ∉ ds := by decide) : wpAnyLast P md ops Q S ds (fuel + 1) l a w :=
  one_ l' hi hN (one_of hT hc) hd h
theorem bE {P : Program} {ops : Array Oper} {rest : List Oper} {o : Oper} {a : Act} {Q : Exit → Act → World → Prop} {W : World} {N : Tmp} {cs : Array Value} {t : TypeId}
    (h : ∀ g, g = W.heap.size → ∀ w1, w1.heap[g]? = some (.cells cs t (0, 0)) → Below W.heap.size W w1 → wpList P ops Q rest (a.put o.dst (.pointer (some ⟨g, 0, none⟩))) w1) (hgd : o.guard = none := by rfl) (hd : o.dst = some N := by rfl)
    (hrun : (execOp a.eval o).run P W = .ok (.value (.pointer (some ⟨W.heap.size, 0, none⟩))) (W.alloc (.cells cs t (0, 0))) := by first | (go_simp; done) | (go_simp; rfl)) : wpList P ops Q (o :: rest) a W := box_event hgd hd hrun h
theorem hC {w : World} {g t : Nat} {cs : Array Value} {v : Value} (h : w.heap[g]? = some (.cells cs t (0, 0))) (j : Nat) (e : cs[j]? = some v := by exact rfl) : w.cell? ⟨g, j, none⟩ = some v := (kC h j).trans e
theorem cX {p q : Prop} (h : p) (f : p → q := by intro h_; repeat (first | exact h_ | (with_reducible first | apply cA | apply cN | apply cD))) : q := f h
theorem sX {p q : Prop} (h : p) (f : p → q := by intro h_; (with_reducible repeat (first | apply Kd.S_alloc | apply Kd.S_drewN | apply Kd.S_drew)); exact h_) : q := f h
theorem gZ {a g b : Nat} (hg : g = b) (h : a ≤ b) : a ≤ g := hg ▸ h
theorem pk3 {w : World} {g t : Nat} {u0 u1 u2 : Value} {q : Prop} (cs : Array Value) (h : w.heap[g]? = some (.cells cs t (0, 0))) (f : (((w.setCell ⟨g, 0, none⟩ u0).setCell ⟨g, 1, none⟩ u1).setCell ⟨g, 2, none⟩ u2).heap[g]? = some (.cells (((cs.setIfInBounds 0 u0).setIfInBounds 1 u1).setIfInBounds 2 u2) t (0, 0)) → q := by intro h_; (with_reducible repeat (first | apply kN | apply kD | apply kA)); exact h_) : q := f (blk_put (blk_put (blk_put h 0 u0 rfl) 1 u1 rfl) 2 u2 rfl)
theorem pk4 {w : World} {g t : Nat} {u0 u1 u2 u3 : Value} {q : Prop} (cs : Array Value) (h : w.heap[g]? = some (.cells cs t (0, 0))) (f : ((((w.setCell ⟨g, 0, none⟩ u0).setCell ⟨g, 1, none⟩ u1).setCell ⟨g, 2, none⟩ u2).setCell ⟨g, 3, none⟩ u3).heap[g]? = some (.cells ((((cs.setIfInBounds 0 u0).setIfInBounds 1 u1).setIfInBounds 2 u2).setIfInBounds 3 u3) t (0, 0)) → q := by intro h_; (with_reducible repeat (first | apply kN | apply kD | apply kA)); exact h_) : q := f (blk_put (blk_put (blk_put (blk_put h 0 u0 rfl) 1 u1 rfl) 2 u2 rfl) 3 u3 rfl)
theorem pk5 {w : World} {g t : Nat} {u0 u1 u2 u3 u4 : Value} {q : Prop} (cs : Array Value) (h : w.heap[g]? = some (.cells cs t (0, 0))) (f : (((((w.setCell ⟨g, 0, none⟩ u0).setCell ⟨g, 1, none⟩ u1).setCell ⟨g, 2, none⟩ u2).setCell ⟨g, 3, none⟩ u3).setCell ⟨g, 4, none⟩ u4).heap[g]? = some (.cells (((((cs.setIfInBounds 0 u0).setIfInBounds 1 u1).setIfInBounds 2 u2).setIfInBounds 3 u3).setIfInBounds 4 u4) t (0, 0)) → q := by intro h_; (with_reducible repeat (first | apply kN | apply kD | apply kA)); exact h_) : q := f (blk_put (blk_put (blk_put (blk_put (blk_put h 0 u0 rfl) 1 u1 rfl) 2 u2 rfl) 3 u3 rfl) 4 u4 rfl)
theorem rt3 {α : Type} {kd : Kd α} {e base g t : Nat} {ok ok' : Nat → Prop} {w : World} {x : Value} {xs : List α} {cs : Array Value} {u0 u1 u2 : Value} (h : kd.R e w base ok x xs) (hb : w.heap[g]? = some (.cells cs t (0, 0))) (ht : ∀ q, q ∈ e :: kd.E → q ≠ t) (hok : ∀ k, ok k ∧ k ≠ g → ok' k) : kd.R e (((w.setCell ⟨g, 0, none⟩ u0).setCell ⟨g, 1, none⟩ u1).setCell ⟨g, 2, none⟩ u2) base ok' x xs := Kd.R_mono (Kd.R_far (p := ⟨g, 2, none⟩) (Kd.R_far (p := ⟨g, 1, none⟩) (Kd.R_far (p := ⟨g, 0, none⟩) (Kd.R_types h hb ht) (fun _ hk => hk.2) u0) (fun _ hk => hk.2) u1) (fun _ hk => hk.2) u2) hok
theorem rm3 {α : Type} {kd : Kd α} {e base g : Nat} {ok ok' : Nat → Prop} {w : World} {x : Value} {xs : List α} {u0 u1 u2 : Value} (h : kd.R e w base ok x xs) (h1 : ∀ k, ok k → k ≠ g) (hok : ∀ k, ok k ∧ k ≠ g → ok' k) : kd.R e (((w.setCell ⟨g, 0, none⟩ u0).setCell ⟨g, 1, none⟩ u1).setCell ⟨g, 2, none⟩ u2) base ok' x xs := Kd.R_mono (Kd.R_far (p := ⟨g, 2, none⟩) (Kd.R_far (p := ⟨g, 1, none⟩) (Kd.R_far (p := ⟨g, 0, none⟩) (Kd.R_mono h (fun k hk => (⟨hk, h1 k hk⟩ : _ ∧ k ≠ g))) (fun _ hk => hk.2) u0) (fun _ hk => hk.2) u1) (fun _ hk => hk.2) u2) hok
theorem rt4 {α : Type} {kd : Kd α} {e base g t : Nat} {ok ok' : Nat → Prop} {w : World} {x : Value} {xs : List α} {cs : Array Value} {u0 u1 u2 u3 : Value} (h : kd.R e w base ok x xs) (hb : w.heap[g]? = some (.cells cs t (0, 0))) (ht : ∀ q, q ∈ e :: kd.E → q ≠ t) (hok : ∀ k, ok k ∧ k ≠ g → ok' k) : kd.R e ((((w.setCell ⟨g, 0, none⟩ u0).setCell ⟨g, 1, none⟩ u1).setCell ⟨g, 2, none⟩ u2).setCell ⟨g, 3, none⟩ u3) base ok' x xs := Kd.R_mono (Kd.R_far (p := ⟨g, 3, none⟩) (Kd.R_far (p := ⟨g, 2, none⟩) (Kd.R_far (p := ⟨g, 1, none⟩) (Kd.R_far (p := ⟨g, 0, none⟩) (Kd.R_types h hb ht) (fun _ hk => hk.2) u0) (fun _ hk => hk.2) u1) (fun _ hk => hk.2) u2) (fun _ hk => hk.2) u3) hok
theorem rm4 {α : Type} {kd : Kd α} {e base g : Nat} {ok ok' : Nat → Prop} {w : World} {x : Value} {xs : List α} {u0 u1 u2 u3 : Value} (h : kd.R e w base ok x xs) (h1 : ∀ k, ok k → k ≠ g) (hok : ∀ k, ok k ∧ k ≠ g → ok' k) : kd.R e ((((w.setCell ⟨g, 0, none⟩ u0).setCell ⟨g, 1, none⟩ u1).setCell ⟨g, 2, none⟩ u2).setCell ⟨g, 3, none⟩ u3) base ok' x xs := Kd.R_mono (Kd.R_far (p := ⟨g, 3, none⟩) (Kd.R_far (p := ⟨g, 2, none⟩) (Kd.R_far (p := ⟨g, 1, none⟩) (Kd.R_far (p := ⟨g, 0, none⟩) (Kd.R_mono h (fun k hk => (⟨hk, h1 k hk⟩ : _ ∧ k ≠ g))) (fun _ hk => hk.2) u0) (fun _ hk => hk.2) u1) (fun _ hk => hk.2) u2) (fun _ hk => hk.2) u3) hok
theorem rt5 {α : Type} {kd : Kd α} {e base g t : Nat} {ok ok' : Nat → Prop} {w : World} {x : Value} {xs : List α} {cs : Array Value} {u0 u1 u2 u3 u4 : Value} (h : kd.R e w base ok x xs) (hb : w.heap[g]? = some (.cells cs t (0, 0))) (ht : ∀ q, q ∈ e :: kd.E → q ≠ t) (hok : ∀ k, ok k ∧ k ≠ g → ok' k) : kd.R e (((((w.setCell ⟨g, 0, none⟩ u0).setCell ⟨g, 1, none⟩ u1).setCell ⟨g, 2, none⟩ u2).setCell ⟨g, 3, none⟩ u3).setCell ⟨g, 4, none⟩ u4) base ok' x xs := Kd.R_mono (Kd.R_far (p := ⟨g, 4, none⟩) (Kd.R_far (p := ⟨g, 3, none⟩) (Kd.R_far (p := ⟨g, 2, none⟩) (Kd.R_far (p := ⟨g, 1, none⟩) (Kd.R_far (p := ⟨g, 0, none⟩) (Kd.R_types h hb ht) (fun _ hk => hk.2) u0) (fun _ hk => hk.2) u1) (fun _ hk => hk.2) u2) (fun _ hk => hk.2) u3) (fun _ hk => hk.2) u4) hok
theorem pQ {x n : Int} {R : Prop} {i1 : Decidable (0 ≤ x)} {i2 : Decidable (x < n)} (f : 0 ≤ x → x < n → R) (hp : @decide (0 ≤ x) i1 = true := by assumption) (hq : @decide (x < n) i2 = true := by assumption) : (0 ≤ x) = True ∧ (x < n) = True ∧ R := ⟨eq_true (oD hp), eq_true (oD hq), f (oD hp) (oD hq)⟩
theorem rR {α : Type} {a b : α} (h : a = b := by first | rfl | (simp; done) | (simp [*]; done)) : a = b := h
theorem gR {w W W1 : World} {g : Nat} {o : Obj} {row : Option Nat} (h : w.heap[g]? = some o) (hw : W.grownBy W1 row) (hne : some g ≠ row) (f : w.heap[g]? = some o → W.heap[g]? = some o := by intro h_; (with_reducible repeat (first | apply kN | apply kD | apply kA)); exact h_) : W1.heap[g]? = some o := blk_grown (f h) hw hne
theorem cC {α : Type} {d : Kd α} {w W W1 : World} {A : Option Addr} {n : Nat} {xs : List α} (h : d.C w A n xs) (hb : Below W.heap.size W W1) (f : d.C w A n xs → d.C W A n xs := by intro h_; repeat (first | (with_reducible exact h_) | (with_reducible first | apply cA | apply cN | apply cD) | exact h_)) : d.C W1 A n xs := cB (f h) hb
theorem bY {w W W' W1 : World} (h : Aside0 (Below w.heap.size w W)) (hb : Below W'.heap.size W' W1) (f : Below w.heap.size w W → Below w.heap.size w W' := by intro h_; repeat (first | (with_reducible first | exact h_ | apply bA | apply bN | apply bD | refine bS ?_ (Aside0.out (by assumption))) | exact h_)) : Aside0 (Below w.heap.size w W1) := ⟨below_step (f h.out) hb⟩
theorem nY {w w' w1 : World} {g : Nat} {o : Obj} (h : Aside0 (w.heap[g]? = some o)) (hb : Below w'.heap.size w' w1) (f : w.heap[g]? = some o → w'.heap[g]? = some o := by intro h_; (with_reducible repeat (first | apply kN | apply kD | apply kA)); exact h_) : Aside0 (w1.heap[g]? = some o) := ⟨blk_below (f h.out) hb⟩
theorem rY {α : Type} {d : Kd α} {e n : Nat} {w w' w1 : World} {ok : Nat → Prop} {v : Value} {xs : List α} (h : Aside0 (d.R e w n ok v xs)) (hb : Below w'.heap.size w' w1) (f : d.R e w n ok v xs → d.R e w' n ok v xs := by intro h_; (with_reducible repeat (first | apply rA | apply rN | apply rD)); exact h_) : Aside0 (d.R e w1 n ok v xs) := ⟨Kd.R_below (f h.out) hb⟩
theorem gY {g : Nat} {w W W' : World} (hg : g = W'.heap.size) (h : Aside0 (Below w.heap.size w W)) (f : Below w.heap.size w W → Below w.heap.size w W' := by intro h_; repeat (first | (with_reducible first | exact h_ | apply bA | apply bN | apply bD | refine bS ?_ (Aside0.out (by assumption))) | exact h_)) : Aside0 (w.heap.size ≤ g) := ⟨gZ hg (bZ (f h.out))⟩
theorem kY {w w' w1 : World} {g g' : Nat} {o : Obj} (hk : KeepBut w' w1 g none) (h : Aside0 (w.heap[g']? = some o)) (hg : Aside0 (g' ≠ g)) (f : w.heap[g']? = some o → w'.heap[g']? = some o := by intro h_; (with_reducible repeat (first | apply kN | apply kD | apply kA)); exact h_) : Aside0 (w1.heap[g']? = some o) := ⟨KeepBut.blk hk (f h.out) hg.out (by simp)⟩
theorem cY {α : Type} {d : Kd α} {w W W1 : World} {A : Option Addr} {n : Nat} {xs : List α} (h : Aside0 (d.C w A n xs)) (hb : Aside0 (Below w.heap.size w W)) (f : d.C W A n xs → d.C W1 A n xs := by intro h_; repeat (first | exact h_ | (with_reducible first | apply cA | apply cN | apply cD))) : d.C W1 A n xs := f (cB h.out hb.out)
theorem hS {α : Type} {y z : α} {p q : Prop} (hy : y = z) (H : p) (f : y = z → p → q := by intro hy_ H_; first | (rw [hy_]; with_reducible exact H_) | (have H2_ := (Option.bind_some _ _).symm.trans H_; rw [hy_]; with_reducible exact H2_) | (have H2_ := (Option.bind_some _ _).symm.trans H_; with_reducible exact H2_) | with_reducible exact H_ | (rw [hy_]; exact H_) | exact H_) : q := f hy H
theorem drX {w w' : World} (h : Drawn0 w w' := by repeat (first | exact Drawn0.refl _ | apply Drawn0.step)) : Drawn0 w w' := h
theorem kW {w W w' : World} {g : Nat} {o : Obj} (hW : W = w') (h : Aside0 (w.heap[g]? = some o)) (f : w.heap[g]? = some o → W.heap[g]? = some o := by intro h_; (with_reducible repeat (first | apply kN | apply kD | apply kA)); exact h_) : Aside0 (w'.heap[g]? = some o) := ⟨hW ▸ f h.out⟩
theorem bW {w0 w W w' : World} {n : Nat} (hW : W = w') (h : Aside0 (Below n w0 w)) (f : Below n w0 w → Below n w0 W := by intro h_; repeat (first | (with_reducible first | exact h_ | apply bA | apply bN | apply bD | refine bS ?_ (Aside0.out (by assumption))) | exact h_)) : Aside0 (Below n w0 w') := ⟨hW ▸ f h.out⟩
theorem pW3 {w W w' : World} {g t : Nat} {z0 z1 z2 u0 u1 u2 : Value} (hW : W = w') (h : Aside0 (w.heap[g]? = some (.cells #[z0, z1, z2] t (0, 0)))) (f : (((w.setCell ⟨g, 0, none⟩ u0).setCell ⟨g, 1, none⟩ u1).setCell ⟨g, 2, none⟩ u2).heap[g]? = some (.cells #[u0, u1, u2] t (0, 0)) → W.heap[g]? = some (.cells #[u0, u1, u2] t (0, 0)) := by intro h_; (with_reducible repeat (first | apply kN | apply kD | apply kA)); exact h_) : Aside0 (w'.heap[g]? = some (.cells #[u0, u1, u2] t (0, 0))) := ⟨hW ▸ f (blk_put (cs' := #[u0, u1, u2]) (blk_put (cs' := #[u0, u1, z2]) (blk_put (cs' := #[u0, z1, z2]) h.out 0 u0 rfl) 1 u1 rfl) 2 u2 rfl)⟩
theorem pW4 {w W w' : World} {g t : Nat} {z0 z1 z2 z3 u0 u1 u2 u3 : Value} (hW : W = w') (h : Aside0 (w.heap[g]? = some (.cells #[z0, z1, z2, z3] t (0, 0)))) (f : ((((w.setCell ⟨g, 0, none⟩ u0).setCell ⟨g, 1, none⟩ u1).setCell ⟨g, 2, none⟩ u2).setCell ⟨g, 3, none⟩ u3).heap[g]? = some (.cells #[u0, u1, u2, u3] t (0, 0)) → W.heap[g]? = some (.cells #[u0, u1, u2, u3] t (0, 0)) := by intro h_; (with_reducible repeat (first | apply kN | apply kD | apply kA)); exact h_) : Aside0 (w'.heap[g]? = some (.cells #[u0, u1, u2, u3] t (0, 0))) := ⟨hW ▸ f (blk_put (cs' := #[u0, u1, u2, u3]) (blk_put (cs' := #[u0, u1, u2, z3]) (blk_put (cs' := #[u0, u1, z2, z3]) (blk_put (cs' := #[u0, z1, z2, z3]) h.out 0 u0 rfl) 1 u1 rfl) 2 u2 rfl) 3 u3 rfl)⟩
theorem rV3 {α : Type} {kd : Kd α} {e base g t : Nat} {ok : Nat → Prop} {w W w' : World} {x : Value} {xs : List α} {cs : Array Value} {u0 u1 u2 : Value} (hW : W = w') (h : Aside0 (kd.R e w base ok x xs)) (hb : Aside0 (w.heap[g]? = some (.cells cs t (0, 0)))) (ok' : Nat → Prop) (hok : ∀ k, ok k ∧ k ≠ g → ok' k) (ht : ∀ q, q ∈ e :: kd.E → q ≠ t := by decide) (f : kd.R e (((w.setCell ⟨g, 0, none⟩ u0).setCell ⟨g, 1, none⟩ u1).setCell ⟨g, 2, none⟩ u2) base ok' x xs → kd.R e W base ok' x xs := by intro h_; (with_reducible repeat (first | apply rA | apply rN | apply rD)); exact h_) : Aside0 (kd.R e w' base ok' x xs) := ⟨hW ▸ f (rt3 h.out hb.out ht hok)⟩
theorem rV4 {α : Type} {kd : Kd α} {e base g t : Nat} {ok : Nat → Prop} {w W w' : World} {x : Value} {xs : List α} {cs : Array Value} {u0 u1 u2 u3 : Value} (hW : W = w') (h : Aside0 (kd.R e w base ok x xs)) (hb : Aside0 (w.heap[g]? = some (.cells cs t (0, 0)))) (ok' : Nat → Prop) (hok : ∀ k, ok k ∧ k ≠ g → ok' k) (ht : ∀ q, q ∈ e :: kd.E → q ≠ t := by decide) (f : kd.R e ((((w.setCell ⟨g, 0, none⟩ u0).setCell ⟨g, 1, none⟩ u1).setCell ⟨g, 2, none⟩ u2).setCell ⟨g, 3, none⟩ u3) base ok' x xs → kd.R e W base ok' x xs := by intro h_; (with_reducible repeat (first | apply rA | apply rN | apply rD)); exact h_) : Aside0 (kd.R e w' base ok' x xs) := ⟨hW ▸ f (Rf4 h.out hb.out ht hok)⟩
theorem eR {α β : Type} {d : Kd α} {d1 : Kd β} {e e1 base : Nat} {ok ok1 : Nat → Prop} {w W w1 wa : World} {u v : Value} {xs : List α} {ys : List β} (h : Aside0 (d.R e w base ok u xs)) (ho : d1.R e1 wa W.heap.size ok1 v ys) (hb : Below W.heap.size W w1) (f : d.R e w base ok u xs → d.R e W base ok u xs := by intro h_; (with_reducible repeat (first | apply rA | apply rN | apply rD)); exact h_) : Aside0 (d.R e w1 base (fun k => ok k ∧ some k ≠ v.ownBlock) u xs) := ⟨Kd.R_elder' (f h.out) (Kd.R_base ho) hb⟩
theorem nP {a b : Nat} (h : Aside0 (a ≠ b)) : a ≠ b ∧ b ≠ a := ⟨h.out, Ne.symm h.out⟩
theorem cT3 {W : World} {a : Addr} {g j0 j1 j2 : Nat} {u0 u1 u2 : Value} {x : Option Value} (h : Aside0 (a.block ≠ g)) (hx : W.cell? a = x) : (((W.setCell ⟨g, j0, none⟩ u0).setCell ⟨g, j1, none⟩ u1).setCell ⟨g, j2, none⟩ u2).cell? a = x := (cT h.out (cT h.out (cT h.out hx)))
theorem nS {P : Program} {ops : Array Oper} {Q : Exit → Act → World → Prop} {md : Region.Mode} {S : World → Prop} {ds : List Nat} {fuel : Nat} {l : Array Bool} {a a' : Act} {v : Value} {w : World} (N : Nat) (h : wpAnyLast P md ops Q S ds fuel l a' w) (ha : a.put (some N) v = a' := by simp only [Act.put, sA, sB, sC, i64_w, i32_w]; rfl) : wpAnyLast P md ops Q S ds fuel l (a.put (some N) v) w := norm_ ha h
theorem lY {w w' : World} {g g' : Nat} {o : Obj} (hg : g' = w'.heap.size) (h : Aside0 (w.heap[g]? = some o)) (f : w.heap[g]? = some o → w'.heap[g]? = some o := by intro h_; (with_reducible repeat (first | apply kN | apply kD | apply kA)); exact h_) : Aside0 (g ≠ g') := ⟨by rw [hg]; exact Nat.ne_of_lt (blk_lt (f h.out))⟩
theorem sY {a b : Nat} (h : Aside0 (a ≠ b)) : Aside0 (b ≠ a) := ⟨Ne.symm h.out⟩
theorem rDY {α : Type} {d : Kd α} {e n : Nat} {w : World} {ok : Nat → Prop} {v : Value} {xs : List α} (h : Aside0 (d.R e w n ok v xs)) : Aside0 (d.R e w.drew n ok v xs) := ⟨rD h.out⟩
theorem kDY {w : World} {g : Nat} {o : Obj} (h : Aside0 (w.heap[g]? = some o)) : Aside0 (w.drew.heap[g]? = some o) := ⟨kD h.out⟩
theorem bDY {n : Nat} {w0 w : World} (h : Aside0 (Below n w0 w)) : Aside0 (Below n w0 w.drew) := ⟨bD h.out⟩
end Go.Proofs.Ytmfbkkjlijaabaa.HB
