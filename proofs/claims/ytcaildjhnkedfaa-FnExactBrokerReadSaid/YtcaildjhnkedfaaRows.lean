/-
  No cell of these rows narrows 'for every input' (looked for: loops, veiled, ifaces, maps, wideKeys, modest, calm, conditions, laid).
  DERIVED. THE GIVEN ROWS OF THIS SEAT. 2 by the template 'for every input the law returns true; each argument reads behind the call as it read before'; 0 by the template 'total and deterministic' (their statements: YtcaildjhnkedfaaTotals.lean).
  GIVEN WITH THE SEED: the statements are not yours to turn. If you find one false, say at which input.
  Laid BY PROGRAM, IN A SANDBOX (cutbox-rows.mjs): the forced cells as the released guide's own fill.sh prints them over the translation de34ae58fed63da1… (all of the seat's roots in one cut). By AI agents, Wed Nov 11 2026. No macro, syntax, notation, axiom, sorry.
-/
import Derived.Test.YtcaildjhnkedfaaChecked
import GoSem.Claim
import GoSem.ClaimJoined
import GoSem.ClaimMapViews
import Derived.JoinedTies
import Derived.KernelRfl
namespace Go.Proofs.Ytcaildjhnkedfaa
/- THE CELL 'sum', in the pinned program and in every row, IS THE sha256 OF THE DUMP (.gsa) THAT YtcaildjhnkedfaaProg.lean LOADS. Nothing in Lean hashes anything: it is a label: what it is worth is what the hold of that sum in a sandbox is worth. -/
noncomputable def Try.pinned : Pinned := { name := "ytcaildjhnkedfaa", sum := "de34ae58fed63da1e8d1cbad60512248b1b6f1f448995ce96f3a3c65c43aecbb", checked := Try.checked }
namespace Rows
def none {H : Type} : Left H := { results := [], args := [] }

/-- 'laws.FnExactBrokerRead': WHATEVER THE INPUT: true; the input reads as it did. -/
def fnExactBrokerReadSpec : ChangeSpec := { name := "fnExactBrokerRead", fn := fun _ => fun
  | [d] => { results := [.lit (.bool true)], args := [d] }
  | _ => none }
def fnExactBrokerReadRow : OpenClaim := { program := "ytcaildjhnkedfaa", sum := "de34ae58fed63da1e8d1cbad60512248b1b6f1f448995ce96f3a3c65c43aecbb", func := "loop.example/g00386/laws.FnExactBrokerRead", spec := "fnExactBrokerRead", unfollowed := true, recurses := true, apart := false }
def FnExactBrokerReadSaid : Prop := fnExactBrokerReadRow.holds Try.pinned (OpenSpec.ofChange fnExactBrokerReadSpec)

/-- ITS FALSE NEIGHBOUR: 'it returns false'. Refute it at one input. -/
def fnExactBrokerReadWrong : ChangeSpec := { name := "fnExactBrokerRead", fn := fun _ => fun
  | [d] => { results := [.lit (.bool false)], args := [d] }
  | _ => none }
def FnExactBrokerReadWrongFalsely : Prop := fnExactBrokerReadRow.holds Try.pinned (OpenSpec.ofChange fnExactBrokerReadWrong)

/-- 'laws.FnBrokerBytes': WHATEVER THE INPUT: true; the input reads as it did. -/
def fnBrokerBytesSpec : ChangeSpec := { name := "fnBrokerBytes", fn := fun _ => fun
  | [d1, d2] => { results := [.lit (.bool true)], args := [d1, d2] }
  | _ => none }
def fnBrokerBytesRow : OpenClaim := { program := "ytcaildjhnkedfaa", sum := "de34ae58fed63da1e8d1cbad60512248b1b6f1f448995ce96f3a3c65c43aecbb", func := "loop.example/g00386/laws.FnBrokerBytes", spec := "fnBrokerBytes", unfollowed := true, recurses := true, apart := false }
def FnBrokerBytesSaid : Prop := fnBrokerBytesRow.holds Try.pinned (OpenSpec.ofChange fnBrokerBytesSpec)

/-- ITS FALSE NEIGHBOUR: 'it returns false'. Refute it at one input. -/
def fnBrokerBytesWrong : ChangeSpec := { name := "fnBrokerBytes", fn := fun _ => fun
  | [d1, d2] => { results := [.lit (.bool false)], args := [d1, d2] }
  | _ => none }
def FnBrokerBytesWrongFalsely : Prop := fnBrokerBytesRow.holds Try.pinned (OpenSpec.ofChange fnBrokerBytesWrong)

/- THE SECOND FORM. 'bulk': how many values and letters a reading holds, each counted each time it is reached (what is shared counts as often as it is met; a slice's spare places count too). A statement '..UptoSaid' is the law's where the arguments, and the package variables that the reading takes, are together of bulk at most 1048576: NARROWER than '..Said'. Prove '..Said' where nothing that the law and all that it calls make is longer than what came in: it says more and counts as full. Else prove '..UptoSaid'. A law counts once. -/
mutual
def uptoBulk {H : Type} : DataW H → Nat
  | .lit (.string bytes) => bytes.length + 1
  | .lit _ => 1
  | .nil => 1
  | .ptr d => uptoBulk d + 1
  | .slice elems spare => uptoBulkAll elems + uptoBulkAll spare + 1
  | .agg parts => uptoBulkAll parts + 1
  | .iface _ d => uptoBulk d + 1
  | .map entries => uptoBulkEntries entries + 1
  | .held _ => 1
def uptoBulkAll {H : Type} : List (DataW H) → Nat
  | [] => 0
  | d :: r => uptoBulk d + uptoBulkAll r
def uptoBulkEntries {H : Type} : List (Lit × DataW H) → Nat
  | [] => 0
  | x :: r => uptoBulkEntry x + uptoBulkEntries r
def uptoBulkEntry {H : Type} : Lit × DataW H → Nat
  | (.string bytes, d) => bytes.length + uptoBulk d + 1
  | (_, d) => uptoBulk d + 1
 end
def uptoSmall : (H : Type) → List (DataW H) → Bool := fun _ ds => decide (uptoBulkAll ds ≤ 1048576)
def OpenSpec.upto (s : _root_.Go.ChangeSpec) : _root_.Go.OpenSpec := { _root_.Go.OpenSpec.ofChange s with cond := some uptoSmall }

/-- 'laws.FnExactBrokerRead', WHERE WHAT IT READS IS OF BULK AT MOST 1048576: true; the input reads as it did. -/
def fnExactBrokerReadUptoRow : OpenClaim := { program := "ytcaildjhnkedfaa", sum := "de34ae58fed63da1e8d1cbad60512248b1b6f1f448995ce96f3a3c65c43aecbb", func := "loop.example/g00386/laws.FnExactBrokerRead", spec := "fnExactBrokerRead", unfollowed := true, recurses := true, apart := false, narrowed := true }
def FnExactBrokerReadUptoSaid : Prop := fnExactBrokerReadUptoRow.holds Try.pinned (OpenSpec.upto fnExactBrokerReadSpec)

/-- 'laws.FnBrokerBytes', WHERE WHAT IT READS IS OF BULK AT MOST 1048576: true; the input reads as it did. -/
def fnBrokerBytesUptoRow : OpenClaim := { program := "ytcaildjhnkedfaa", sum := "de34ae58fed63da1e8d1cbad60512248b1b6f1f448995ce96f3a3c65c43aecbb", func := "loop.example/g00386/laws.FnBrokerBytes", spec := "fnBrokerBytes", unfollowed := true, recurses := true, apart := false, narrowed := true }
def FnBrokerBytesUptoSaid : Prop := fnBrokerBytesUptoRow.holds Try.pinned (OpenSpec.upto fnBrokerBytesSpec)

end Rows
end Go.Proofs.Ytcaildjhnkedfaa
