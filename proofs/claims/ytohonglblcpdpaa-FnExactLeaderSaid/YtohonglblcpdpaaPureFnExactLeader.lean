/- Leader of the program returns what the reference's Leader returns, for every view. No condition. -/
import Derived.Test.YtohonglblcpdpaaPFnExactLeaderx1
namespace Go.Proofs.Ytohonglblcpdpaa.Pure
open Go.RowKit Go.Proofs.Ytohonglblcpdpaa.PFnExactLeader Go.Proofs.YtohonglblcpdpaaW.PrintWords Go.Proofs.YtohonglblcpdpaaW.PrintLast

theorem FnExactLeader : laws_FnExactLeader.Pure := by
  intro a0 _
  unfold laws_FnExactLeader.f impl_Leader.f impl_leader.f spec_Leader.f
  by_cases h : a0 < 0
  · simp [h]
  · simp [h]

end Go.Proofs.Ytohonglblcpdpaa.Pure
