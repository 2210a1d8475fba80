/- Printed by a program of this session (wip/mp.py over the kit's print.py): functions of the translation as plain Lean functions, and that the machine's calls do what these say. -/
import Derived.Test.YtmeibecplnppaaaZx0
import Derived.Test.YtmeibecplnppaaaZx4
namespace Go.Proofs.Ytmeibecplnppaaa.Z
open Go.RowKit Go.Proofs.Ytmeibecplnppaaa.HB Go.Proofs.YtmeibecplnppaaaW.PrintWords Go.Proofs.YtmeibecplnppaaaW.PrintLast Go.Proofs.YtmeibecplnppaaaW.PrintMore
attribute [local go_sem] max2_int min2_int max_two min_two max_three min_three max_four min_four   -- for this text's walks alone
set_option linter.unusedVariables false
set_option linter.unusedSimpArgs false

/-! ### slices_ContainsFunc_string_string: function 68 (by hand) -/
def slices_ContainsFunc_string_string_p (x : ByteArray) : Bool := impl_isTopic_1.f x == some true
def slices_ContainsFunc_string_string.f (l0 : List ByteArray) : Option Bool := if l0.all (fun x => (impl_isTopic_1.f x).isSome) then some (decide (0 ≤ ixFrom slices_ContainsFunc_string_string_p l0 0)) else none
set_option maxRecDepth 100000 in
theorem slices_ContainsFunc_string_string_x (A0 : Option Addr) (c0 : Nat) (l0 : List ByteArray) (w : World) (hr0 : Kd.C Kd.string w A0 l0.length l0) (hs : ∀ x ∈ l0, (impl_isTopic_1.f x).isSome = true) :
   Calls Try.prog 78 #[.slice A0 l0.length c0, .func (.func 69) #[] #[]] w fun e w' => e = .returned (.int .i64 (ixFrom slices_ContainsFunc_string_string_p l0 0)) ∧ Below w.heap.size w w' := by
  have HR := Aside0.mk hr0
  have HS := Aside0.mk hs
  have hl : l0.length ≤ 9223372036854775807 := hr0.2.1
  clear hr0 hs
  go_enter Try.func78, Try.ntmps78
  go_wp2
  go_loopg [8] (l0.length + 1) (fun kq v8 w' => ∃ i : Int, v8 = .int .i64 i ∧ Aside0 (0 ≤ i) ∧ Aside0 (i ≤ l0.length) ∧ Aside0 ((kq : Int) + i = l0.length + 1) ∧ Aside0 (ixFrom slices_ContainsFunc_string_string_p l0 0 = ixFrom slices_ContainsFunc_string_string_p (l0.drop i.toNat) i.toNat) ∧ Aside0 (Below w.heap.size w w'))
  case atStart => exact ⟨0, rfl, ⟨by omega⟩, ⟨by omega⟩, ⟨by omega⟩, ⟨rfl⟩, ⟨Below.refl _ _⟩⟩
  case round =>
    obtain ⟨i, rfl, G0, G1, HK, HI, HB⟩ := hrel
    by_cases hlt : i < (l0.length : Int)
    · have g0 := G0.out
      have hd : l0.drop i.toNat = rdOf ByteArray.empty l0 i :: l0.drop (i.toNat + 1) := by
        rw [List.drop_eq_getElem_cons (by omega)]; simp [rdOf, List.getD, show i.toNat < l0.length by omega]
      have hm : rdOf ByteArray.empty l0 i ∈ l0 := by
        have : i.toNat < l0.length := by omega
        simp [rdOf, List.getD, this]
      obtain ⟨b, hb⟩ := Option.isSome_iff_exists.1 (HS.out _ hm)
      obtain ⟨ad, e, hx0⟩ := Kd.at_string HR.out i g0 hlt
      cases e
      replace hx0 := pw_cell_below HB.out hx0
      have G2 := Aside0.mk hlt
      have c1 : decide (i < (l0.length : Int)) = true := decide_eq_true hlt
      replace g0 := eq_true g0
      replace hlt := eq_true hlt
      have HP := Aside0.mk hb
      cases b with
      | true =>
        have HI2 : Aside0 (ixFrom slices_ContainsFunc_string_string_p l0 0 = i) := ⟨by rw [HI.out, hd]; simp [ixFrom, slices_ContainsFunc_string_string_p, hb]; have := G0.out; omega⟩
        clear hd hb hm
        go_wp2_with (first | (go_at_call 69; (with_reducible refine (impl_isTopic_1.calls (rdOf ByteArray.empty l0 i) true _ HP.out).mono ?_); rintro e w1 ⟨rfl, hb⟩; replace HB := Aside0.mk (below_step HB.out hb.below); clear hb))
        go_ret
        exact ⟨by rw [HI2.out]; rfl, HB.out⟩
      | false =>
        have HI2 : Aside0 (ixFrom slices_ContainsFunc_string_string_p l0 0 = ixFrom slices_ContainsFunc_string_string_p (l0.drop (i + 1).toNat) (i + 1).toNat) := ⟨by rw [HI.out, hd, show (i + 1).toNat = i.toNat + 1 by have := G0.out; omega]; simp [ixFrom, slices_ContainsFunc_string_string_p, hb]⟩
        clear hd hb hm
        go_wp2_with (first | (go_at_call 69; (with_reducible refine (impl_isTopic_1.calls (rdOf ByteArray.empty l0 i) false _ HP.out).mono ?_); rintro e w1 ⟨rfl, hb⟩; replace HB := Aside0.mk (below_step HB.out hb.below); clear hb))
        cases gk with
        | zero => exact absurd HK.out (by have := G2.out; omega)
        | succ gk =>
        go_roundg gk
        case measure => omega
        case rel => exact ⟨i + 1, by rw [w_succ_ G0.out G2.out hl], ⟨by have := G0.out; omega⟩, ⟨by have := G2.out; omega⟩, ⟨by have := HK.out; omega⟩, HI2, HB⟩
    · have c1 : decide (i < (l0.length : Int)) = false := decide_eq_false hlt
      have HI2 : Aside0 (ixFrom slices_ContainsFunc_string_string_p l0 0 = -1) := ⟨by rw [HI.out, List.drop_of_length_le (by omega)]; rfl⟩
      clear hlt
      go_wp2
      go_ret
      exact ⟨by rw [HI2.out]; rfl, HB.out⟩
set_option maxRecDepth 100000 in
theorem slices_ContainsFunc_string_string.calls (A0 : Option Addr) (c0 : Nat) (l0 : List ByteArray) (r : Bool) (w : World) (hr0 : Kd.C Kd.string w A0 l0.length l0) (hc0 : l0.length ≤ c0) (h : slices_ContainsFunc_string_string.f l0 = some r) :
    Calls Try.prog 68 #[.slice A0 l0.length c0, .func (.func 69) #[] #[]] w fun e w' => e = .returned (.bool r) ∧ Below w.heap.size w w' := by
  unfold slices_ContainsFunc_string_string.f at h
  split at h
  · rename_i hs
    obtain rfl := Option.some.inj h
    have HR := Aside0.mk hr0
    have HS := Aside0.mk (List.all_eq_true.1 hs)
    clear h hr0 hc0 hs
    go_enter Try.func68, Try.ntmps68
    go_wp2_with (first | (go_at_call 78; (with_reducible refine (slices_ContainsFunc_string_string_x _ _ l0 _ HR.out HS.out).mono ?_); rintro e w2 ⟨rfl, hb⟩; have HB := Aside0.mk hb; clear hb))
    go_ret
    exact ⟨rfl, HB.out⟩
  · exact absurd h (by simp)


end Go.Proofs.Ytmeibecplnppaaa.Z
