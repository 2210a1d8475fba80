/- OpRight of the program returns what the reference's OpRight returns, for every string. No condition. -/
import Derived.Test.YtohonglblcpdpaaPFnExactOpRightx1
namespace Go.Proofs.Ytohonglblcpdpaa.Pure
open Go.RowKit Go.Proofs.Ytohonglblcpdpaa.PFnExactOpRight Go.Proofs.YtohonglblcpdpaaW.PrintWords Go.Proofs.YtohonglblcpdpaaW.PrintLast

theorem FnExactOpRight : laws_FnExactOpRight.Pure := by
  intro a0 _
  unfold laws_FnExactOpRight.f impl_OpRight.f impl_isOp.f spec_OpRight.f
  split
  · rfl
  · simp

end Go.Proofs.Ytohonglblcpdpaa.Pure
