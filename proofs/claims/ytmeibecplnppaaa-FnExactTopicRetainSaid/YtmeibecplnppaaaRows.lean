/-
  No cell of these rows narrows 'for every input' (looked for: loops, veiled, ifaces, maps, wideKeys, modest, calm, conditions, laid).
  DERIVED. THE GIVEN ROWS OF THIS SEAT. 8 by the template 'for every input the law returns true; each argument reads behind the call as it read before'; 0 by the template 'total and deterministic' (their statements: YtmeibecplnppaaaTotals.lean).
  GIVEN WITH THE SEED: the statements are not yours to turn. If you find one false, say at which input.
  Laid BY PROGRAM, IN A SANDBOX (cutbox-rows.mjs): the forced cells as the released guide's own fill.sh prints them over the translation 0432bb5a775eaebe… (all of the seat's roots in one cut). By AI agents, Wed Nov 11 2026. No macro, syntax, notation, axiom, sorry.
-/
import Derived.Test.YtmeibecplnppaaaChecked
import GoSem.Claim
import GoSem.ClaimJoined
import GoSem.ClaimMapViews
import Derived.JoinedTies
import Derived.KernelRfl
namespace Go.Proofs.Ytmeibecplnppaaa
/- THE CELL 'sum', in the pinned program and in every row, IS THE sha256 OF THE DUMP (.gsa) THAT YtmeibecplnppaaaProg.lean LOADS. Nothing in Lean hashes anything: it is a label: what it is worth is what the hold of that sum in a sandbox is worth. -/
noncomputable def Try.pinned : Pinned := { name := "ytmeibecplnppaaa", sum := "0432bb5a775eaebeefd738aa7aafab9aeb9e247a21a1091c29aee5c1245ee0ef", checked := Try.checked }
namespace Rows
def none {H : Type} : Left H := { results := [], args := [] }

/-- 'laws.FnExactTopicRight': WHATEVER THE INPUT: true; the input reads as it did. -/
def fnExactTopicRightSpec : ChangeSpec := { name := "fnExactTopicRight", fn := fun _ => fun
  | [d] => { results := [.lit (.bool true)], args := [d] }
  | _ => none }
def fnExactTopicRightRow : OpenClaim := { program := "ytmeibecplnppaaa", sum := "0432bb5a775eaebeefd738aa7aafab9aeb9e247a21a1091c29aee5c1245ee0ef", func := "loop.example/g00386/laws.FnExactTopicRight", spec := "fnExactTopicRight", unfollowed := true, recurses := true, apart := false }
def FnExactTopicRightSaid : Prop := fnExactTopicRightRow.holds Try.pinned (OpenSpec.ofChange fnExactTopicRightSpec)

/-- ITS FALSE NEIGHBOUR: 'it returns false'. Refute it at one input. -/
def fnExactTopicRightWrong : ChangeSpec := { name := "fnExactTopicRight", fn := fun _ => fun
  | [d] => { results := [.lit (.bool false)], args := [d] }
  | _ => none }
def FnExactTopicRightWrongFalsely : Prop := fnExactTopicRightRow.holds Try.pinned (OpenSpec.ofChange fnExactTopicRightWrong)

/-- 'laws.FnExactTopicEnd': WHATEVER THE INPUT: true; the input reads as it did. -/
def fnExactTopicEndSpec : ChangeSpec := { name := "fnExactTopicEnd", fn := fun _ => fun
  | [d] => { results := [.lit (.bool true)], args := [d] }
  | _ => none }
def fnExactTopicEndRow : OpenClaim := { program := "ytmeibecplnppaaa", sum := "0432bb5a775eaebeefd738aa7aafab9aeb9e247a21a1091c29aee5c1245ee0ef", func := "loop.example/g00386/laws.FnExactTopicEnd", spec := "fnExactTopicEnd", unfollowed := true, recurses := true, apart := false }
def FnExactTopicEndSaid : Prop := fnExactTopicEndRow.holds Try.pinned (OpenSpec.ofChange fnExactTopicEndSpec)

/-- ITS FALSE NEIGHBOUR: 'it returns false'. Refute it at one input. -/
def fnExactTopicEndWrong : ChangeSpec := { name := "fnExactTopicEnd", fn := fun _ => fun
  | [d] => { results := [.lit (.bool false)], args := [d] }
  | _ => none }
def FnExactTopicEndWrongFalsely : Prop := fnExactTopicEndRow.holds Try.pinned (OpenSpec.ofChange fnExactTopicEndWrong)

/-- 'laws.FnExactTopicLag': WHATEVER THE INPUT: true; the input reads as it did. -/
def fnExactTopicLagSpec : ChangeSpec := { name := "fnExactTopicLag", fn := fun _ => fun
  | [d1, d2] => { results := [.lit (.bool true)], args := [d1, d2] }
  | _ => none }
def fnExactTopicLagRow : OpenClaim := { program := "ytmeibecplnppaaa", sum := "0432bb5a775eaebeefd738aa7aafab9aeb9e247a21a1091c29aee5c1245ee0ef", func := "loop.example/g00386/laws.FnExactTopicLag", spec := "fnExactTopicLag", unfollowed := true, recurses := true, apart := false }
def FnExactTopicLagSaid : Prop := fnExactTopicLagRow.holds Try.pinned (OpenSpec.ofChange fnExactTopicLagSpec)

/-- ITS FALSE NEIGHBOUR: 'it returns false'. Refute it at one input. -/
def fnExactTopicLagWrong : ChangeSpec := { name := "fnExactTopicLag", fn := fun _ => fun
  | [d1, d2] => { results := [.lit (.bool false)], args := [d1, d2] }
  | _ => none }
def FnExactTopicLagWrongFalsely : Prop := fnExactTopicLagRow.holds Try.pinned (OpenSpec.ofChange fnExactTopicLagWrong)

/-- 'laws.FnExactTopicRetain': WHATEVER THE INPUT: true; the input reads as it did. -/
def fnExactTopicRetainSpec : ChangeSpec := { name := "fnExactTopicRetain", fn := fun _ => fun
  | [d1, d2] => { results := [.lit (.bool true)], args := [d1, d2] }
  | _ => none }
def fnExactTopicRetainRow : OpenClaim := { program := "ytmeibecplnppaaa", sum := "0432bb5a775eaebeefd738aa7aafab9aeb9e247a21a1091c29aee5c1245ee0ef", func := "loop.example/g00386/laws.FnExactTopicRetain", spec := "fnExactTopicRetain", unfollowed := true, recurses := true, apart := false }
def FnExactTopicRetainSaid : Prop := fnExactTopicRetainRow.holds Try.pinned (OpenSpec.ofChange fnExactTopicRetainSpec)

/-- ITS FALSE NEIGHBOUR: 'it returns false'. Refute it at one input. -/
def fnExactTopicRetainWrong : ChangeSpec := { name := "fnExactTopicRetain", fn := fun _ => fun
  | [d1, d2] => { results := [.lit (.bool false)], args := [d1, d2] }
  | _ => none }
def FnExactTopicRetainWrongFalsely : Prop := fnExactTopicRetainRow.holds Try.pinned (OpenSpec.ofChange fnExactTopicRetainWrong)

/-- 'laws.FnExactTopicPublish': WHATEVER THE INPUT: true; the input reads as it did. -/
def fnExactTopicPublishSpec : ChangeSpec := { name := "fnExactTopicPublish", fn := fun _ => fun
  | [d1, d2] => { results := [.lit (.bool true)], args := [d1, d2] }
  | _ => none }
def fnExactTopicPublishRow : OpenClaim := { program := "ytmeibecplnppaaa", sum := "0432bb5a775eaebeefd738aa7aafab9aeb9e247a21a1091c29aee5c1245ee0ef", func := "loop.example/g00386/laws.FnExactTopicPublish", spec := "fnExactTopicPublish", unfollowed := true, recurses := true, apart := false }
def FnExactTopicPublishSaid : Prop := fnExactTopicPublishRow.holds Try.pinned (OpenSpec.ofChange fnExactTopicPublishSpec)

/-- ITS FALSE NEIGHBOUR: 'it returns false'. Refute it at one input. -/
def fnExactTopicPublishWrong : ChangeSpec := { name := "fnExactTopicPublish", fn := fun _ => fun
  | [d1, d2] => { results := [.lit (.bool false)], args := [d1, d2] }
  | _ => none }
def FnExactTopicPublishWrongFalsely : Prop := fnExactTopicPublishRow.holds Try.pinned (OpenSpec.ofChange fnExactTopicPublishWrong)

/-- 'laws.FnExactTopicAck': WHATEVER THE INPUT: true; the input reads as it did. -/
def fnExactTopicAckSpec : ChangeSpec := { name := "fnExactTopicAck", fn := fun _ => fun
  | [d1, d2, d3] => { results := [.lit (.bool true)], args := [d1, d2, d3] }
  | _ => none }
def fnExactTopicAckRow : OpenClaim := { program := "ytmeibecplnppaaa", sum := "0432bb5a775eaebeefd738aa7aafab9aeb9e247a21a1091c29aee5c1245ee0ef", func := "loop.example/g00386/laws.FnExactTopicAck", spec := "fnExactTopicAck", inPlace := ["internal/bytealg.abigen_runtime_cmpstring", "slices.overlaps[loop.example/g00386/impl.Group]"], unfollowed := true, recurses := true, apart := false }
def FnExactTopicAckSaid : Prop := fnExactTopicAckRow.holds Try.pinned (OpenSpec.ofChange fnExactTopicAckSpec)

/-- ITS FALSE NEIGHBOUR: 'it returns false'. Refute it at one input. -/
def fnExactTopicAckWrong : ChangeSpec := { name := "fnExactTopicAck", fn := fun _ => fun
  | [d1, d2, d3] => { results := [.lit (.bool false)], args := [d1, d2, d3] }
  | _ => none }
def FnExactTopicAckWrongFalsely : Prop := fnExactTopicAckRow.holds Try.pinned (OpenSpec.ofChange fnExactTopicAckWrong)

/-- 'laws.FnExactTopicSeek': WHATEVER THE INPUT: true; the input reads as it did. -/
def fnExactTopicSeekSpec : ChangeSpec := { name := "fnExactTopicSeek", fn := fun _ => fun
  | [d1, d2, d3] => { results := [.lit (.bool true)], args := [d1, d2, d3] }
  | _ => none }
def fnExactTopicSeekRow : OpenClaim := { program := "ytmeibecplnppaaa", sum := "0432bb5a775eaebeefd738aa7aafab9aeb9e247a21a1091c29aee5c1245ee0ef", func := "loop.example/g00386/laws.FnExactTopicSeek", spec := "fnExactTopicSeek", inPlace := ["internal/bytealg.abigen_runtime_cmpstring", "slices.overlaps[loop.example/g00386/impl.Group]"], unfollowed := true, recurses := true, apart := false }
def FnExactTopicSeekSaid : Prop := fnExactTopicSeekRow.holds Try.pinned (OpenSpec.ofChange fnExactTopicSeekSpec)

/-- ITS FALSE NEIGHBOUR: 'it returns false'. Refute it at one input. -/
def fnExactTopicSeekWrong : ChangeSpec := { name := "fnExactTopicSeek", fn := fun _ => fun
  | [d1, d2, d3] => { results := [.lit (.bool false)], args := [d1, d2, d3] }
  | _ => none }
def FnExactTopicSeekWrongFalsely : Prop := fnExactTopicSeekRow.holds Try.pinned (OpenSpec.ofChange fnExactTopicSeekWrong)

/-- 'laws.FnExactTopicFetch': WHATEVER THE INPUT: true; the input reads as it did. -/
def fnExactTopicFetchSpec : ChangeSpec := { name := "fnExactTopicFetch", fn := fun _ => fun
  | [d1, d2, d3] => { results := [.lit (.bool true)], args := [d1, d2, d3] }
  | _ => none }
def fnExactTopicFetchRow : OpenClaim := { program := "ytmeibecplnppaaa", sum := "0432bb5a775eaebeefd738aa7aafab9aeb9e247a21a1091c29aee5c1245ee0ef", func := "loop.example/g00386/laws.FnExactTopicFetch", spec := "fnExactTopicFetch", inPlace := ["internal/bytealg.abigen_runtime_cmpstring", "slices.overlaps[loop.example/g00386/impl.Group]"], unfollowed := true, recurses := true, apart := false }
def FnExactTopicFetchSaid : Prop := fnExactTopicFetchRow.holds Try.pinned (OpenSpec.ofChange fnExactTopicFetchSpec)

/-- ITS FALSE NEIGHBOUR: 'it returns false'. Refute it at one input. -/
def fnExactTopicFetchWrong : ChangeSpec := { name := "fnExactTopicFetch", fn := fun _ => fun
  | [d1, d2, d3] => { results := [.lit (.bool false)], args := [d1, d2, d3] }
  | _ => none }
def FnExactTopicFetchWrongFalsely : Prop := fnExactTopicFetchRow.holds Try.pinned (OpenSpec.ofChange fnExactTopicFetchWrong)

/- THE SECOND FORM. 'bulk': how many values and letters a reading holds, each counted each time it is reached (what is shared counts as often as it is met; a slice's spare places count too). A statement '..UptoSaid' is the law's where the arguments, and the package variables that the reading takes, are together of bulk at most 1048576: NARROWER than '..Said'. Prove '..Said' where nothing that the law and all that it calls make is longer than what came in: it says more and counts as full. Else prove '..UptoSaid'. A law counts once. -/
mutual
def uptoBulk {H : Type} : DataW H → Nat
  | .lit (.string bytes) => bytes.length + 1
  | .lit _ => 1
  | .nil => 1
  | .ptr d => uptoBulk d + 1
  | .slice elems spare => uptoBulkAll elems + uptoBulkAll spare + 1
  | .agg parts => uptoBulkAll parts + 1
  | .iface _ d => uptoBulk d + 1
  | .map entries => uptoBulkEntries entries + 1
  | .held _ => 1
def uptoBulkAll {H : Type} : List (DataW H) → Nat
  | [] => 0
  | d :: r => uptoBulk d + uptoBulkAll r
def uptoBulkEntries {H : Type} : List (Lit × DataW H) → Nat
  | [] => 0
  | x :: r => uptoBulkEntry x + uptoBulkEntries r
def uptoBulkEntry {H : Type} : Lit × DataW H → Nat
  | (.string bytes, d) => bytes.length + uptoBulk d + 1
  | (_, d) => uptoBulk d + 1
 end
def uptoSmall : (H : Type) → List (DataW H) → Bool := fun _ ds => decide (uptoBulkAll ds ≤ 1048576)
def OpenSpec.upto (s : _root_.Go.ChangeSpec) : _root_.Go.OpenSpec := { _root_.Go.OpenSpec.ofChange s with cond := some uptoSmall }

/-- 'laws.FnExactTopicRight', WHERE WHAT IT READS IS OF BULK AT MOST 1048576: true; the input reads as it did. -/
def fnExactTopicRightUptoRow : OpenClaim := { program := "ytmeibecplnppaaa", sum := "0432bb5a775eaebeefd738aa7aafab9aeb9e247a21a1091c29aee5c1245ee0ef", func := "loop.example/g00386/laws.FnExactTopicRight", spec := "fnExactTopicRight", unfollowed := true, recurses := true, apart := false, narrowed := true }
def FnExactTopicRightUptoSaid : Prop := fnExactTopicRightUptoRow.holds Try.pinned (OpenSpec.upto fnExactTopicRightSpec)

/-- 'laws.FnExactTopicEnd', WHERE WHAT IT READS IS OF BULK AT MOST 1048576: true; the input reads as it did. -/
def fnExactTopicEndUptoRow : OpenClaim := { program := "ytmeibecplnppaaa", sum := "0432bb5a775eaebeefd738aa7aafab9aeb9e247a21a1091c29aee5c1245ee0ef", func := "loop.example/g00386/laws.FnExactTopicEnd", spec := "fnExactTopicEnd", unfollowed := true, recurses := true, apart := false, narrowed := true }
def FnExactTopicEndUptoSaid : Prop := fnExactTopicEndUptoRow.holds Try.pinned (OpenSpec.upto fnExactTopicEndSpec)

/-- 'laws.FnExactTopicLag', WHERE WHAT IT READS IS OF BULK AT MOST 1048576: true; the input reads as it did. -/
def fnExactTopicLagUptoRow : OpenClaim := { program := "ytmeibecplnppaaa", sum := "0432bb5a775eaebeefd738aa7aafab9aeb9e247a21a1091c29aee5c1245ee0ef", func := "loop.example/g00386/laws.FnExactTopicLag", spec := "fnExactTopicLag", unfollowed := true, recurses := true, apart := false, narrowed := true }
def FnExactTopicLagUptoSaid : Prop := fnExactTopicLagUptoRow.holds Try.pinned (OpenSpec.upto fnExactTopicLagSpec)

/-- 'laws.FnExactTopicRetain', WHERE WHAT IT READS IS OF BULK AT MOST 1048576: true; the input reads as it did. -/
def fnExactTopicRetainUptoRow : OpenClaim := { program := "ytmeibecplnppaaa", sum := "0432bb5a775eaebeefd738aa7aafab9aeb9e247a21a1091c29aee5c1245ee0ef", func := "loop.example/g00386/laws.FnExactTopicRetain", spec := "fnExactTopicRetain", unfollowed := true, recurses := true, apart := false, narrowed := true }
def FnExactTopicRetainUptoSaid : Prop := fnExactTopicRetainUptoRow.holds Try.pinned (OpenSpec.upto fnExactTopicRetainSpec)

/-- 'laws.FnExactTopicPublish', WHERE WHAT IT READS IS OF BULK AT MOST 1048576: true; the input reads as it did. -/
def fnExactTopicPublishUptoRow : OpenClaim := { program := "ytmeibecplnppaaa", sum := "0432bb5a775eaebeefd738aa7aafab9aeb9e247a21a1091c29aee5c1245ee0ef", func := "loop.example/g00386/laws.FnExactTopicPublish", spec := "fnExactTopicPublish", unfollowed := true, recurses := true, apart := false, narrowed := true }
def FnExactTopicPublishUptoSaid : Prop := fnExactTopicPublishUptoRow.holds Try.pinned (OpenSpec.upto fnExactTopicPublishSpec)

/-- 'laws.FnExactTopicAck', WHERE WHAT IT READS IS OF BULK AT MOST 1048576: true; the input reads as it did. -/
def fnExactTopicAckUptoRow : OpenClaim := { program := "ytmeibecplnppaaa", sum := "0432bb5a775eaebeefd738aa7aafab9aeb9e247a21a1091c29aee5c1245ee0ef", func := "loop.example/g00386/laws.FnExactTopicAck", spec := "fnExactTopicAck", inPlace := ["internal/bytealg.abigen_runtime_cmpstring", "slices.overlaps[loop.example/g00386/impl.Group]"], unfollowed := true, recurses := true, apart := false, narrowed := true }
def FnExactTopicAckUptoSaid : Prop := fnExactTopicAckUptoRow.holds Try.pinned (OpenSpec.upto fnExactTopicAckSpec)

/-- 'laws.FnExactTopicSeek', WHERE WHAT IT READS IS OF BULK AT MOST 1048576: true; the input reads as it did. -/
def fnExactTopicSeekUptoRow : OpenClaim := { program := "ytmeibecplnppaaa", sum := "0432bb5a775eaebeefd738aa7aafab9aeb9e247a21a1091c29aee5c1245ee0ef", func := "loop.example/g00386/laws.FnExactTopicSeek", spec := "fnExactTopicSeek", inPlace := ["internal/bytealg.abigen_runtime_cmpstring", "slices.overlaps[loop.example/g00386/impl.Group]"], unfollowed := true, recurses := true, apart := false, narrowed := true }
def FnExactTopicSeekUptoSaid : Prop := fnExactTopicSeekUptoRow.holds Try.pinned (OpenSpec.upto fnExactTopicSeekSpec)

/-- 'laws.FnExactTopicFetch', WHERE WHAT IT READS IS OF BULK AT MOST 1048576: true; the input reads as it did. -/
def fnExactTopicFetchUptoRow : OpenClaim := { program := "ytmeibecplnppaaa", sum := "0432bb5a775eaebeefd738aa7aafab9aeb9e247a21a1091c29aee5c1245ee0ef", func := "loop.example/g00386/laws.FnExactTopicFetch", spec := "fnExactTopicFetch", inPlace := ["internal/bytealg.abigen_runtime_cmpstring", "slices.overlaps[loop.example/g00386/impl.Group]"], unfollowed := true, recurses := true, apart := false, narrowed := true }
def FnExactTopicFetchUptoSaid : Prop := fnExactTopicFetchUptoRow.holds Try.pinned (OpenSpec.upto fnExactTopicFetchSpec)

end Rows
end Go.Proofs.Ytmeibecplnppaaa
