/- Small words that hand-written contracts use: wrapped counters, the first index at which a test holds. No condition. -/
import Derived.Test.YtmeibecplnppaaaV
import Derived.WalkSpells
import Derived.Laws.Cover1
namespace Go.Proofs.Ytmeibecplnppaaa.HB
open Go.RowKit Go.Proofs.YtmeibecplnppaaaW.PrintWords Go.Proofs.YtmeibecplnppaaaW.PrintLast Go.Proofs.YtmeibecplnppaaaW.PrintMore
theorem w_succ_ {i : Int} {n : Nat} (h0 : 0 ≤ i) (h : i < (n : Int)) (hn : n ≤ 9223372036854775807) : wrap64 (i + 1) = i + 1 := by unfold wrap64; omega
/-- The first index, counted from i on, at which p holds; or -1. -/
def ixFrom {α : Type} (p : α → Bool) : List α → Nat → Int
  | [], _ => -1
  | x :: xs, i => if p x then i else ixFrom p xs (i+1)
theorem sA {α : Type} (l : List α) (i : Nat) (a : α) : l.toArray.setIfInBounds i a = (l.set i a).toArray := List.setIfInBounds_toArray ..
theorem sB {α : Type} {x : α} {xs : List α} {a : α} : (x :: xs).set 0 a = a :: xs := List.set_cons_zero
theorem sC {α : Type} {x : α} {xs : List α} {i : Nat} {a : α} : (x :: xs).set (i + 1) a = x :: xs.set i a := List.set_cons_succ
/-- Of n marks the first i are set. -/
abbrev upTo (i n : Nat) : Array Bool := ((List.range n).map fun j => decide (j < i)).toArray
/-- 'pure_' where the operations go in the text's order: the place is read off the marks. -/
theorem pN {P : Program} {ops : Array Oper} {Q : Exit → Act → World → Prop} {md : Region.Mode} {S : World → Prop} {ds : List Nat} {i n : Nat} {N : Option Tmp} {oi : Oper} {v : Value} {fuel : Nat} {a : Act} {w : World}
    (hi : ops[i]? = some oi) (hN : oi.dst = N) (hc : anyB md ops (upTo i n) (upTo (i + 1) n) i = true) (hy : Yields P ops oi v a) {a' : Act} (ha : a.put N v = a')
    (h : wpAnyLast P md ops Q S ds fuel (upTo (i + 1) n) a' w) (hQ : ∀ c a w, Q (.panic c) (a.put oi.dst v) w → Q (.panic c) a w := by exact fun _ _ _ h => h) : wpAnyLast P md ops Q S ds (fuel + 1) (upTo i n) a w :=
  pure_ (upTo (i + 1) n) hi hN hc hQ hy ha h
/-- 'pure_' with place and slot named. -/
theorem pE {P : Program} {ops : Array Oper} {Q : Exit → Act → World → Prop} {md : Region.Mode} {S : World → Prop} {ds : List Nat} (i m n N : Nat) {oi : Oper} {v : Value} {fuel : Nat} {a : Act} {w : World}
    (hi : ops[i]? = some oi) (hN : oi.dst = some N) (hc : anyB md ops (upTo i n) (upTo m n) i = true) (hy : Yields P ops oi v a) {a' : Act} (ha : a.put (some N) v = a')
    (h : wpAnyLast P md ops Q S ds fuel (upTo m n) a' w) (hQ : ∀ c a w, Q (.panic c) (a.put oi.dst v) w → Q (.panic c) a w := by exact fun _ _ _ h => h) : wpAnyLast P md ops Q S ds (fuel + 1) (upTo i n) a w :=
  pure_ (upTo m n) hi hN hc hQ hy ha h
theorem C_none {α : Type} {d : Kd α} {w : World} {n : Nat} {xs : List α} (h : d.C w none n xs) : xs = [] := by
  have h0 := h.1
  by_cases hn : 0 < n
  · obtain ⟨ad, e, _⟩ := h.2.2 hn
    exact absurd e (by simp)
  · exact List.eq_nil_of_length_eq_zero (by omega)
end Go.Proofs.Ytmeibecplnppaaa.HB
