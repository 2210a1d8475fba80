/- What a listed table holds when a call begins, out of the row's condition. No condition. -/
import Derived.Test.YtgpgamapopnfcaaDoorTie
import Derived.Test.YtgpgamapopnfcaaDoorCards
import Derived.Test.YtgpgamapopnfcaaDoorHandBase
import Derived.WalkKit
import Derived.ProofKit
import Derived.LaidMore
import Derived.LaidLaws
import Derived.OpenShut
import Derived.ChangeVars
import Derived.WalkSmall
import Derived.Carry
import Derived.Stop.Joined
import Derived.SevenTiedAt
namespace Go.Proofs.YtgpgamapopnfcaaDoor.CardB
open Go.ChangeShapes Go.WideShapes Go.ChangeAt Go.RowKit

section
variable {H : Type} {enc : TypeId × Value → H} {P : Program} {w : World} {base : Nat} {sp : Nat → Bool} {held : Bool} {fuel : Nat} {t e : TypeId} {cs : List Value}
/-- An array of one-cell elements that reads as a known list: its cells. -/
theorem arr_cells {α : Type} {n : Nat} (ht : P.underlying t = some (.array n e)) (hce : P.cellsOf e = 1) (hct : P.cellsOf t = n) (fv : α → Value) (fd : α → DataW H) (xs : List α)
    (hel : ∀ x cs' m p, DataW.trod enc P w base sp held m e cs' = some (fd x, p) → cs' = [fv x]) {p : List MemPlace}
    (h : DataW.trod enc P w base sp held fuel t cs = some (.agg (xs.map fd), p)) : cs = xs.map fv := by
  obtain ⟨ys, m, _, hx, hlen, hn, hi⟩ := DataW.trod_array ht h
  simp only [Prod.mk.injEq, DataW.agg.injEq] at hx
  obtain ⟨hx, _⟩ := hx
  have hl : xs.length = n := by
    have := congrArg List.length hx
    simp only [List.length_map] at this
    omega
  apply List.ext_getElem
  · rw [hlen, hct, List.length_map, hl]
  · intro i h1 h2
    have hin : i < n := by rw [hlen, hct] at h1; exact h1
    have a := hi i hin
    rw [hce, Nat.mul_one, List.getElem?_eq_getElem (by omega)] at a
    have e1 : (ys[i]'(by omega)).1 = fd (xs[i]'(by omega)) := by
      have := congrArg (fun l => l[i]?) hx
      simp only [List.getElem?_map, List.getElem?_eq_getElem (show i < xs.length by omega), List.getElem?_eq_getElem (show i < ys.length by omega), Option.map_some, Option.some.injEq] at this
      exact this.symm
    have b := hel (xs[i]'(by omega)) _ m (ys[i]'(by omega)).2 (by rw [a, ← e1])
    rw [List.drop_eq_getElem_cons h1, List.take_succ_cons, List.take_zero] at b
    injection b with b _
    rw [List.getElem_map]
    exact b
theorem el_string (ht : P.underlying e = some .string) : ∀ (x : List UInt8) (cs' : List Value) (m : Nat) (p : List MemPlace), DataW.trod enc P w base sp held m e cs' = some (.lit (.string x), p) → cs' = [.string ⟨x.toArray⟩] := by
  intro x cs' m p h
  obtain ⟨s, rfl, hx, _⟩ := DataW.trod_string ht h
  simp only [Prod.mk.injEq, DataW.lit.injEq, Lit.string.injEq] at hx
  obtain ⟨rfl, _⟩ := hx
  rfl
theorem el_int {k : IntKind} (ht : P.underlying e = some (.int k)) : ∀ (x : Int) (cs' : List Value) (m : Nat) (p : List MemPlace), DataW.trod enc P w base sp held m e cs' = some (.lit (.int k x), p) → cs' = [.int k x] := by
  intro x cs' m p h
  obtain ⟨n, rfl, hx, _⟩ := DataW.trod_int ht h
  simp only [Prod.mk.injEq, DataW.lit.injEq, Lit.int.injEq] at hx
  obtain ⟨⟨_, rfl⟩, _⟩ := hx
  rfl
theorem var_block {n : String} {g : Nat} {xs : Array Value} (hg : P.globalNamed n = some g) (hv : w.var? P n = some xs) (hb : ∃ c t, w.heap[g]? = some (.cells c t (0, 0))) : ∃ t, w.heap[g]? = some (.cells xs t (0, 0)) := by
  obtain ⟨c, t, hc⟩ := hb
  simp only [World.var?, hg, Option.bind_some, hc, Option.some.injEq] at hv
  exact ⟨t, by rw [hc, hv]⟩
theorem cell_row {g n : Nat} (h : 0 < n) : MemPlace.cell g 0 ∈ MemPlace.row ⟨g, 0, none⟩ n := by
  unfold MemPlace.row
  exact List.mem_map.2 ⟨0, List.mem_range.2 h, rfl⟩
end
end Go.Proofs.YtgpgamapopnfcaaDoor.CardB
