/- Printed by a program of this session (wip/mp.py over the kit's print.py): functions of the translation as plain Lean functions, and that the machine's calls do what these say. -/
import Derived.Test.YtohonglblcpdpaaQx0
namespace Go.Proofs.Ytohonglblcpdpaa.Q
open Go.RowKit Go.Proofs.Ytohonglblcpdpaa.HB Go.Proofs.YtohonglblcpdpaaW.PrintWords Go.Proofs.YtohonglblcpdpaaW.PrintLast Go.Proofs.YtohonglblcpdpaaW.PrintMore
attribute [local go_sem] max2_int min2_int max_two min_two max_three min_three max_four min_four   -- for this text's walks alone
set_option linter.unusedVariables false
set_option linter.unusedSimpArgs false

/-! ### spec_OpRight: function 11 -/
def spec_OpRight.f (a0 : ByteArray) : Option (Bool) := some (decide ((a0.size : Int) ≤ 120))
set_option maxHeartbeats 8000000 in
set_option maxRecDepth 100000 in
theorem spec_OpRight.calls (a0 : ByteArray) (r : Bool) (w : World) (h : spec_OpRight.f a0 = some r) :
    Calls Try.prog 11 #[.string a0] w fun e w' => e = .returned (.bool r) ∧ Drawn0 w w' := by
  have H : (some (decide ((a0.size : Int) ≤ 120))) = some r := h
  clear h
  obtain rfl := Option.some.inj H
  go_enter Try.func11, Try.ntmps11
  go_wp2
  go_ret
  exact ⟨by first | rfl | (simp; done) | (simp [*]; done), by repeat (first | exact Drawn0.refl _ | apply Drawn0.step)⟩

/-! ### impl_isOp: function 41 -/
def impl_isOp.f (a0 : ByteArray) : Option (Bool) := some (decide ((a0.size : Int) ≤ 120))
set_option maxHeartbeats 8000000 in
set_option maxRecDepth 100000 in
theorem impl_isOp.calls (a0 : ByteArray) (r : Bool) (w : World) (h : impl_isOp.f a0 = some r) :
    Calls Try.prog 41 #[.string a0] w fun e w' => e = .returned (.bool r) ∧ Drawn0 w w' := by
  have H : (some (decide ((a0.size : Int) ≤ 120))) = some r := h
  clear h
  obtain rfl := Option.some.inj H
  go_enter Try.func41, Try.ntmps41
  go_wp2
  go_ret
  exact ⟨by first | rfl | (simp; done) | (simp [*]; done), by repeat (first | exact Drawn0.refl _ | apply Drawn0.step)⟩

end Go.Proofs.Ytohonglblcpdpaa.Q
