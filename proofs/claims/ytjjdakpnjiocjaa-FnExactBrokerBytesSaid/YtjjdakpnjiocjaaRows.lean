/-
  No cell of these rows narrows 'for every input' (looked for: loops, veiled, ifaces, maps, wideKeys, modest, calm, conditions, laid).
  DERIVED. THE GIVEN ROWS OF THIS SEAT. 4 by the template 'for every input the law returns true; each argument reads behind the call as it read before'; 0 by the template 'total and deterministic' (their statements: YtjjdakpnjiocjaaTotals.lean).
  GIVEN WITH THE SEED: the statements are not yours to turn. If you find one false, say at which input.
  Laid BY PROGRAM, IN A SANDBOX (cutbox-rows.mjs): the forced cells as the released guide's own fill.sh prints them over the translation 14a3ec8b587caa4b… (all of the seat's roots in one cut). By AI agents, Wed Nov 11 2026. No macro, syntax, notation, axiom, sorry.
-/
import Derived.Test.YtjjdakpnjiocjaaChecked
import GoSem.Claim
import GoSem.ClaimJoined
import GoSem.ClaimMapViews
import Derived.JoinedTies
import Derived.KernelRfl
namespace Go.Proofs.Ytjjdakpnjiocjaa
/- THE CELL 'sum', in the pinned program and in every row, IS THE sha256 OF THE DUMP (.gsa) THAT YtjjdakpnjiocjaaProg.lean LOADS. Nothing in Lean hashes anything: it is a label: what it is worth is what the hold of that sum in a sandbox is worth. -/
noncomputable def Try.pinned : Pinned := { name := "ytjjdakpnjiocjaa", sum := "14a3ec8b587caa4bc4afb33e626aa8bef0bad36a2de392e75b3b68723a128cf4", checked := Try.checked }
namespace Rows
def none {H : Type} : Left H := { results := [], args := [] }

/-- 'laws.FnExactBrokerRight': WHATEVER THE INPUT: true; the input reads as it did. -/
def fnExactBrokerRightSpec : ChangeSpec := { name := "fnExactBrokerRight", fn := fun _ => fun
  | [d] => { results := [.lit (.bool true)], args := [d] }
  | _ => none }
def fnExactBrokerRightRow : OpenClaim := { program := "ytjjdakpnjiocjaa", sum := "14a3ec8b587caa4bc4afb33e626aa8bef0bad36a2de392e75b3b68723a128cf4", func := "loop.example/g00386/laws.FnExactBrokerRight", spec := "fnExactBrokerRight", unfollowed := true, recurses := true, apart := false }
def FnExactBrokerRightSaid : Prop := fnExactBrokerRightRow.holds Try.pinned (OpenSpec.ofChange fnExactBrokerRightSpec)

/-- ITS FALSE NEIGHBOUR: 'it returns false'. Refute it at one input. -/
def fnExactBrokerRightWrong : ChangeSpec := { name := "fnExactBrokerRight", fn := fun _ => fun
  | [d] => { results := [.lit (.bool false)], args := [d] }
  | _ => none }
def FnExactBrokerRightWrongFalsely : Prop := fnExactBrokerRightRow.holds Try.pinned (OpenSpec.ofChange fnExactBrokerRightWrong)

/-- 'laws.FnExactBrokerReply': WHATEVER THE INPUT: true; the input reads as it did. -/
def fnExactBrokerReplySpec : ChangeSpec := { name := "fnExactBrokerReply", fn := fun _ => fun
  | [d1, d2] => { results := [.lit (.bool true)], args := [d1, d2] }
  | _ => none }
def fnExactBrokerReplyRow : OpenClaim := { program := "ytjjdakpnjiocjaa", sum := "14a3ec8b587caa4bc4afb33e626aa8bef0bad36a2de392e75b3b68723a128cf4", func := "loop.example/g00386/laws.FnExactBrokerReply", spec := "fnExactBrokerReply", unfollowed := true, recurses := true, apart := false }
def FnExactBrokerReplySaid : Prop := fnExactBrokerReplyRow.holds Try.pinned (OpenSpec.ofChange fnExactBrokerReplySpec)

/-- ITS FALSE NEIGHBOUR: 'it returns false'. Refute it at one input. -/
def fnExactBrokerReplyWrong : ChangeSpec := { name := "fnExactBrokerReply", fn := fun _ => fun
  | [d1, d2] => { results := [.lit (.bool false)], args := [d1, d2] }
  | _ => none }
def FnExactBrokerReplyWrongFalsely : Prop := fnExactBrokerReplyRow.holds Try.pinned (OpenSpec.ofChange fnExactBrokerReplyWrong)

/-- 'laws.FnExactBrokerBytes': WHATEVER THE INPUT: true; the input reads as it did. -/
def fnExactBrokerBytesSpec : ChangeSpec := { name := "fnExactBrokerBytes", fn := fun _ => fun
  | [d] => { results := [.lit (.bool true)], args := [d] }
  | _ => none }
def fnExactBrokerBytesRow : OpenClaim := { program := "ytjjdakpnjiocjaa", sum := "14a3ec8b587caa4bc4afb33e626aa8bef0bad36a2de392e75b3b68723a128cf4", func := "loop.example/g00386/laws.FnExactBrokerBytes", spec := "fnExactBrokerBytes", unfollowed := true, recurses := true, apart := false }
def FnExactBrokerBytesSaid : Prop := fnExactBrokerBytesRow.holds Try.pinned (OpenSpec.ofChange fnExactBrokerBytesSpec)

/-- ITS FALSE NEIGHBOUR: 'it returns false'. Refute it at one input. -/
def fnExactBrokerBytesWrong : ChangeSpec := { name := "fnExactBrokerBytes", fn := fun _ => fun
  | [d] => { results := [.lit (.bool false)], args := [d] }
  | _ => none }
def FnExactBrokerBytesWrongFalsely : Prop := fnExactBrokerBytesRow.holds Try.pinned (OpenSpec.ofChange fnExactBrokerBytesWrong)

/-- 'laws.FnExactBrokerTopic': WHATEVER THE INPUT: true; the input reads as it did. -/
def fnExactBrokerTopicSpec : ChangeSpec := { name := "fnExactBrokerTopic", fn := fun _ => fun
  | [d1, d2] => { results := [.lit (.bool true)], args := [d1, d2] }
  | _ => none }
def fnExactBrokerTopicRow : OpenClaim := { program := "ytjjdakpnjiocjaa", sum := "14a3ec8b587caa4bc4afb33e626aa8bef0bad36a2de392e75b3b68723a128cf4", func := "loop.example/g00386/laws.FnExactBrokerTopic", spec := "fnExactBrokerTopic", inPlace := ["internal/bytealg.abigen_runtime_cmpstring"], unfollowed := true, recurses := true, apart := false }
def FnExactBrokerTopicSaid : Prop := fnExactBrokerTopicRow.holds Try.pinned (OpenSpec.ofChange fnExactBrokerTopicSpec)

/-- ITS FALSE NEIGHBOUR: 'it returns false'. Refute it at one input. -/
def fnExactBrokerTopicWrong : ChangeSpec := { name := "fnExactBrokerTopic", fn := fun _ => fun
  | [d1, d2] => { results := [.lit (.bool false)], args := [d1, d2] }
  | _ => none }
def FnExactBrokerTopicWrongFalsely : Prop := fnExactBrokerTopicRow.holds Try.pinned (OpenSpec.ofChange fnExactBrokerTopicWrong)

/- THE SECOND FORM. 'bulk': how many values and letters a reading holds, each counted each time it is reached (what is shared counts as often as it is met; a slice's spare places count too). A statement '..UptoSaid' is the law's where the arguments, and the package variables that the reading takes, are together of bulk at most 1048576: NARROWER than '..Said'. Prove '..Said' where nothing that the law and all that it calls make is longer than what came in: it says more and counts as full. Else prove '..UptoSaid'. A law counts once. -/
mutual
def uptoBulk {H : Type} : DataW H → Nat
  | .lit (.string bytes) => bytes.length + 1
  | .lit _ => 1
  | .nil => 1
  | .ptr d => uptoBulk d + 1
  | .slice elems spare => uptoBulkAll elems + uptoBulkAll spare + 1
  | .agg parts => uptoBulkAll parts + 1
  | .iface _ d => uptoBulk d + 1
  | .map entries => uptoBulkEntries entries + 1
  | .held _ => 1
def uptoBulkAll {H : Type} : List (DataW H) → Nat
  | [] => 0
  | d :: r => uptoBulk d + uptoBulkAll r
def uptoBulkEntries {H : Type} : List (Lit × DataW H) → Nat
  | [] => 0
  | x :: r => uptoBulkEntry x + uptoBulkEntries r
def uptoBulkEntry {H : Type} : Lit × DataW H → Nat
  | (.string bytes, d) => bytes.length + uptoBulk d + 1
  | (_, d) => uptoBulk d + 1
 end
def uptoSmall : (H : Type) → List (DataW H) → Bool := fun _ ds => decide (uptoBulkAll ds ≤ 1048576)
def OpenSpec.upto (s : _root_.Go.ChangeSpec) : _root_.Go.OpenSpec := { _root_.Go.OpenSpec.ofChange s with cond := some uptoSmall }

/-- 'laws.FnExactBrokerRight', WHERE WHAT IT READS IS OF BULK AT MOST 1048576: true; the input reads as it did. -/
def fnExactBrokerRightUptoRow : OpenClaim := { program := "ytjjdakpnjiocjaa", sum := "14a3ec8b587caa4bc4afb33e626aa8bef0bad36a2de392e75b3b68723a128cf4", func := "loop.example/g00386/laws.FnExactBrokerRight", spec := "fnExactBrokerRight", unfollowed := true, recurses := true, apart := false, narrowed := true }
def FnExactBrokerRightUptoSaid : Prop := fnExactBrokerRightUptoRow.holds Try.pinned (OpenSpec.upto fnExactBrokerRightSpec)

/-- 'laws.FnExactBrokerReply', WHERE WHAT IT READS IS OF BULK AT MOST 1048576: true; the input reads as it did. -/
def fnExactBrokerReplyUptoRow : OpenClaim := { program := "ytjjdakpnjiocjaa", sum := "14a3ec8b587caa4bc4afb33e626aa8bef0bad36a2de392e75b3b68723a128cf4", func := "loop.example/g00386/laws.FnExactBrokerReply", spec := "fnExactBrokerReply", unfollowed := true, recurses := true, apart := false, narrowed := true }
def FnExactBrokerReplyUptoSaid : Prop := fnExactBrokerReplyUptoRow.holds Try.pinned (OpenSpec.upto fnExactBrokerReplySpec)

/-- 'laws.FnExactBrokerBytes', WHERE WHAT IT READS IS OF BULK AT MOST 1048576: true; the input reads as it did. -/
def fnExactBrokerBytesUptoRow : OpenClaim := { program := "ytjjdakpnjiocjaa", sum := "14a3ec8b587caa4bc4afb33e626aa8bef0bad36a2de392e75b3b68723a128cf4", func := "loop.example/g00386/laws.FnExactBrokerBytes", spec := "fnExactBrokerBytes", unfollowed := true, recurses := true, apart := false, narrowed := true }
def FnExactBrokerBytesUptoSaid : Prop := fnExactBrokerBytesUptoRow.holds Try.pinned (OpenSpec.upto fnExactBrokerBytesSpec)

/-- 'laws.FnExactBrokerTopic', WHERE WHAT IT READS IS OF BULK AT MOST 1048576: true; the input reads as it did. -/
def fnExactBrokerTopicUptoRow : OpenClaim := { program := "ytjjdakpnjiocjaa", sum := "14a3ec8b587caa4bc4afb33e626aa8bef0bad36a2de392e75b3b68723a128cf4", func := "loop.example/g00386/laws.FnExactBrokerTopic", spec := "fnExactBrokerTopic", inPlace := ["internal/bytealg.abigen_runtime_cmpstring"], unfollowed := true, recurses := true, apart := false, narrowed := true }
def FnExactBrokerTopicUptoSaid : Prop := fnExactBrokerTopicUptoRow.holds Try.pinned (OpenSpec.upto fnExactBrokerTopicSpec)

end Rows
end Go.Proofs.Ytjjdakpnjiocjaa
