/-
  No cell of these rows narrows 'for every input' (looked for: loops, veiled, ifaces, maps, wideKeys, modest, calm, conditions, laid).
  DERIVED. THE GIVEN ROWS OF THIS SEAT. 8 by the template 'for every input the law returns true; each argument reads behind the call as it read before'; 0 by the template 'total and deterministic' (their statements: YtohonglblcpdpaaTotals.lean).
  GIVEN WITH THE SEED: the statements are not yours to turn. If you find one false, say at which input.
  Laid BY PROGRAM, IN A SANDBOX (cutbox-rows.mjs): the forced cells as the released guide's own fill.sh prints them over the translation 864f22d967ff01e9… (all of the seat's roots in one cut). By AI agents, Wed Nov 11 2026. No macro, syntax, notation, axiom, sorry.
-/
import Derived.Test.YtohonglblcpdpaaChecked
import GoSem.Claim
import GoSem.ClaimJoined
import GoSem.ClaimMapViews
import Derived.JoinedTies
import Derived.KernelRfl
namespace Go.Proofs.Ytohonglblcpdpaa
/- THE CELL 'sum', in the pinned program and in every row, IS THE sha256 OF THE DUMP (.gsa) THAT YtohonglblcpdpaaProg.lean LOADS. Nothing in Lean hashes anything: it is a label: what it is worth is what the hold of that sum in a sandbox is worth. -/
noncomputable def Try.pinned : Pinned := { name := "ytohonglblcpdpaa", sum := "864f22d967ff01e997427a129cbf20786df215f35cc9580c6aa39dfa0a7de47b", checked := Try.checked }
namespace Rows
def none {H : Type} : Left H := { results := [], args := [] }

/-- 'laws.FnExactOpRight': WHATEVER THE INPUT: true; the input reads as it did. -/
def fnExactOpRightSpec : ChangeSpec := { name := "fnExactOpRight", fn := fun _ => fun
  | [d] => { results := [.lit (.bool true)], args := [d] }
  | _ => none }
def fnExactOpRightRow : OpenClaim := { program := "ytohonglblcpdpaa", sum := "864f22d967ff01e997427a129cbf20786df215f35cc9580c6aa39dfa0a7de47b", func := "loop.example/g00386/laws.FnExactOpRight", spec := "fnExactOpRight", apart := false }
def FnExactOpRightSaid : Prop := fnExactOpRightRow.holds Try.pinned (OpenSpec.ofChange fnExactOpRightSpec)

/-- ITS FALSE NEIGHBOUR: 'it returns false'. Refute it at one input. -/
def fnExactOpRightWrong : ChangeSpec := { name := "fnExactOpRight", fn := fun _ => fun
  | [d] => { results := [.lit (.bool false)], args := [d] }
  | _ => none }
def FnExactOpRightWrongFalsely : Prop := fnExactOpRightRow.holds Try.pinned (OpenSpec.ofChange fnExactOpRightWrong)

/-- 'laws.FnExactLeader': WHATEVER THE INPUT: true; the input reads as it did. -/
def fnExactLeaderSpec : ChangeSpec := { name := "fnExactLeader", fn := fun _ => fun
  | [d] => { results := [.lit (.bool true)], args := [d] }
  | _ => none }
def fnExactLeaderRow : OpenClaim := { program := "ytohonglblcpdpaa", sum := "864f22d967ff01e997427a129cbf20786df215f35cc9580c6aa39dfa0a7de47b", func := "loop.example/g00386/laws.FnExactLeader", spec := "fnExactLeader", apart := false }
def FnExactLeaderSaid : Prop := fnExactLeaderRow.holds Try.pinned (OpenSpec.ofChange fnExactLeaderSpec)

/-- ITS FALSE NEIGHBOUR: 'it returns false'. Refute it at one input. -/
def fnExactLeaderWrong : ChangeSpec := { name := "fnExactLeader", fn := fun _ => fun
  | [d] => { results := [.lit (.bool false)], args := [d] }
  | _ => none }
def FnExactLeaderWrongFalsely : Prop := fnExactLeaderRow.holds Try.pinned (OpenSpec.ofChange fnExactLeaderWrong)

/-- 'laws.FnExactQuorumRight': WHATEVER THE INPUT: true; the input reads as it did. -/
def fnExactQuorumRightSpec : ChangeSpec := { name := "fnExactQuorumRight", fn := fun _ => fun
  | [d] => { results := [.lit (.bool true)], args := [d] }
  | _ => none }
def fnExactQuorumRightRow : OpenClaim := { program := "ytohonglblcpdpaa", sum := "864f22d967ff01e997427a129cbf20786df215f35cc9580c6aa39dfa0a7de47b", func := "loop.example/g00386/laws.FnExactQuorumRight", spec := "fnExactQuorumRight", apart := false }
def FnExactQuorumRightSaid : Prop := fnExactQuorumRightRow.holds Try.pinned (OpenSpec.ofChange fnExactQuorumRightSpec)

/-- ITS FALSE NEIGHBOUR: 'it returns false'. Refute it at one input. -/
def fnExactQuorumRightWrong : ChangeSpec := { name := "fnExactQuorumRight", fn := fun _ => fun
  | [d] => { results := [.lit (.bool false)], args := [d] }
  | _ => none }
def FnExactQuorumRightWrongFalsely : Prop := fnExactQuorumRightRow.holds Try.pinned (OpenSpec.ofChange fnExactQuorumRightWrong)

/-- 'laws.FnExactProofRight': WHATEVER THE INPUT: true; the input reads as it did. -/
def fnExactProofRightSpec : ChangeSpec := { name := "fnExactProofRight", fn := fun _ => fun
  | [d] => { results := [.lit (.bool true)], args := [d] }
  | _ => none }
def fnExactProofRightRow : OpenClaim := { program := "ytohonglblcpdpaa", sum := "864f22d967ff01e997427a129cbf20786df215f35cc9580c6aa39dfa0a7de47b", func := "loop.example/g00386/laws.FnExactProofRight", spec := "fnExactProofRight", apart := false }
def FnExactProofRightSaid : Prop := fnExactProofRightRow.holds Try.pinned (OpenSpec.ofChange fnExactProofRightSpec)

/-- ITS FALSE NEIGHBOUR: 'it returns false'. Refute it at one input. -/
def fnExactProofRightWrong : ChangeSpec := { name := "fnExactProofRight", fn := fun _ => fun
  | [d] => { results := [.lit (.bool false)], args := [d] }
  | _ => none }
def FnExactProofRightWrongFalsely : Prop := fnExactProofRightRow.holds Try.pinned (OpenSpec.ofChange fnExactProofRightWrong)

/-- 'laws.FnExactVotesRight': WHATEVER THE INPUT: true; the input reads as it did. -/
def fnExactVotesRightSpec : ChangeSpec := { name := "fnExactVotesRight", fn := fun _ => fun
  | [d] => { results := [.lit (.bool true)], args := [d] }
  | _ => none }
def fnExactVotesRightRow : OpenClaim := { program := "ytohonglblcpdpaa", sum := "864f22d967ff01e997427a129cbf20786df215f35cc9580c6aa39dfa0a7de47b", func := "loop.example/g00386/laws.FnExactVotesRight", spec := "fnExactVotesRight", unfollowed := true, recurses := true, apart := false }
def FnExactVotesRightSaid : Prop := fnExactVotesRightRow.holds Try.pinned (OpenSpec.ofChange fnExactVotesRightSpec)

/-- ITS FALSE NEIGHBOUR: 'it returns false'. Refute it at one input. -/
def fnExactVotesRightWrong : ChangeSpec := { name := "fnExactVotesRight", fn := fun _ => fun
  | [d] => { results := [.lit (.bool false)], args := [d] }
  | _ => none }
def FnExactVotesRightWrongFalsely : Prop := fnExactVotesRightRow.holds Try.pinned (OpenSpec.ofChange fnExactVotesRightWrong)

/-- 'laws.FnExactChangeRight': WHATEVER THE INPUT: true; the input reads as it did. -/
def fnExactChangeRightSpec : ChangeSpec := { name := "fnExactChangeRight", fn := fun _ => fun
  | [d] => { results := [.lit (.bool true)], args := [d] }
  | _ => none }
def fnExactChangeRightRow : OpenClaim := { program := "ytohonglblcpdpaa", sum := "864f22d967ff01e997427a129cbf20786df215f35cc9580c6aa39dfa0a7de47b", func := "loop.example/g00386/laws.FnExactChangeRight", spec := "fnExactChangeRight", apart := false }
def FnExactChangeRightSaid : Prop := fnExactChangeRightRow.holds Try.pinned (OpenSpec.ofChange fnExactChangeRightSpec)

/-- ITS FALSE NEIGHBOUR: 'it returns false'. Refute it at one input. -/
def fnExactChangeRightWrong : ChangeSpec := { name := "fnExactChangeRight", fn := fun _ => fun
  | [d] => { results := [.lit (.bool false)], args := [d] }
  | _ => none }
def FnExactChangeRightWrongFalsely : Prop := fnExactChangeRightRow.holds Try.pinned (OpenSpec.ofChange fnExactChangeRightWrong)

/-- 'laws.FnExactSayRight': WHATEVER THE INPUT: true; the input reads as it did. -/
def fnExactSayRightSpec : ChangeSpec := { name := "fnExactSayRight", fn := fun _ => fun
  | [d] => { results := [.lit (.bool true)], args := [d] }
  | _ => none }
def fnExactSayRightRow : OpenClaim := { program := "ytohonglblcpdpaa", sum := "864f22d967ff01e997427a129cbf20786df215f35cc9580c6aa39dfa0a7de47b", func := "loop.example/g00386/laws.FnExactSayRight", spec := "fnExactSayRight", apart := false }
def FnExactSayRightSaid : Prop := fnExactSayRightRow.holds Try.pinned (OpenSpec.ofChange fnExactSayRightSpec)

/-- ITS FALSE NEIGHBOUR: 'it returns false'. Refute it at one input. -/
def fnExactSayRightWrong : ChangeSpec := { name := "fnExactSayRight", fn := fun _ => fun
  | [d] => { results := [.lit (.bool false)], args := [d] }
  | _ => none }
def FnExactSayRightWrongFalsely : Prop := fnExactSayRightRow.holds Try.pinned (OpenSpec.ofChange fnExactSayRightWrong)

/-- 'laws.FnExactNewRight': WHATEVER THE INPUT: true; the input reads as it did. -/
def fnExactNewRightSpec : ChangeSpec := { name := "fnExactNewRight", fn := fun _ => fun
  | [d] => { results := [.lit (.bool true)], args := [d] }
  | _ => none }
def fnExactNewRightRow : OpenClaim := { program := "ytohonglblcpdpaa", sum := "864f22d967ff01e997427a129cbf20786df215f35cc9580c6aa39dfa0a7de47b", func := "loop.example/g00386/laws.FnExactNewRight", spec := "fnExactNewRight", apart := false }
def FnExactNewRightSaid : Prop := fnExactNewRightRow.holds Try.pinned (OpenSpec.ofChange fnExactNewRightSpec)

/-- ITS FALSE NEIGHBOUR: 'it returns false'. Refute it at one input. -/
def fnExactNewRightWrong : ChangeSpec := { name := "fnExactNewRight", fn := fun _ => fun
  | [d] => { results := [.lit (.bool false)], args := [d] }
  | _ => none }
def FnExactNewRightWrongFalsely : Prop := fnExactNewRightRow.holds Try.pinned (OpenSpec.ofChange fnExactNewRightWrong)

/- THE SECOND FORM. 'bulk': how many values and letters a reading holds, each counted each time it is reached (what is shared counts as often as it is met; a slice's spare places count too). A statement '..UptoSaid' is the law's where the arguments, and the package variables that the reading takes, are together of bulk at most 1048576: NARROWER than '..Said'. Prove '..Said' where nothing that the law and all that it calls make is longer than what came in: it says more and counts as full. Else prove '..UptoSaid'. A law counts once. -/
mutual
def uptoBulk {H : Type} : DataW H → Nat
  | .lit (.string bytes) => bytes.length + 1
  | .lit _ => 1
  | .nil => 1
  | .ptr d => uptoBulk d + 1
  | .slice elems spare => uptoBulkAll elems + uptoBulkAll spare + 1
  | .agg parts => uptoBulkAll parts + 1
  | .iface _ d => uptoBulk d + 1
  | .map entries => uptoBulkEntries entries + 1
  | .held _ => 1
def uptoBulkAll {H : Type} : List (DataW H) → Nat
  | [] => 0
  | d :: r => uptoBulk d + uptoBulkAll r
def uptoBulkEntries {H : Type} : List (Lit × DataW H) → Nat
  | [] => 0
  | x :: r => uptoBulkEntry x + uptoBulkEntries r
def uptoBulkEntry {H : Type} : Lit × DataW H → Nat
  | (.string bytes, d) => bytes.length + uptoBulk d + 1
  | (_, d) => uptoBulk d + 1
 end
def uptoSmall : (H : Type) → List (DataW H) → Bool := fun _ ds => decide (uptoBulkAll ds ≤ 1048576)
def OpenSpec.upto (s : _root_.Go.ChangeSpec) : _root_.Go.OpenSpec := { _root_.Go.OpenSpec.ofChange s with cond := some uptoSmall }

/-- 'laws.FnExactOpRight', WHERE WHAT IT READS IS OF BULK AT MOST 1048576: true; the input reads as it did. -/
def fnExactOpRightUptoRow : OpenClaim := { program := "ytohonglblcpdpaa", sum := "864f22d967ff01e997427a129cbf20786df215f35cc9580c6aa39dfa0a7de47b", func := "loop.example/g00386/laws.FnExactOpRight", spec := "fnExactOpRight", apart := false, narrowed := true }
def FnExactOpRightUptoSaid : Prop := fnExactOpRightUptoRow.holds Try.pinned (OpenSpec.upto fnExactOpRightSpec)

/-- 'laws.FnExactLeader', WHERE WHAT IT READS IS OF BULK AT MOST 1048576: true; the input reads as it did. -/
def fnExactLeaderUptoRow : OpenClaim := { program := "ytohonglblcpdpaa", sum := "864f22d967ff01e997427a129cbf20786df215f35cc9580c6aa39dfa0a7de47b", func := "loop.example/g00386/laws.FnExactLeader", spec := "fnExactLeader", apart := false, narrowed := true }
def FnExactLeaderUptoSaid : Prop := fnExactLeaderUptoRow.holds Try.pinned (OpenSpec.upto fnExactLeaderSpec)

/-- 'laws.FnExactQuorumRight', WHERE WHAT IT READS IS OF BULK AT MOST 1048576: true; the input reads as it did. -/
def fnExactQuorumRightUptoRow : OpenClaim := { program := "ytohonglblcpdpaa", sum := "864f22d967ff01e997427a129cbf20786df215f35cc9580c6aa39dfa0a7de47b", func := "loop.example/g00386/laws.FnExactQuorumRight", spec := "fnExactQuorumRight", apart := false, narrowed := true }
def FnExactQuorumRightUptoSaid : Prop := fnExactQuorumRightUptoRow.holds Try.pinned (OpenSpec.upto fnExactQuorumRightSpec)

/-- 'laws.FnExactProofRight', WHERE WHAT IT READS IS OF BULK AT MOST 1048576: true; the input reads as it did. -/
def fnExactProofRightUptoRow : OpenClaim := { program := "ytohonglblcpdpaa", sum := "864f22d967ff01e997427a129cbf20786df215f35cc9580c6aa39dfa0a7de47b", func := "loop.example/g00386/laws.FnExactProofRight", spec := "fnExactProofRight", apart := false, narrowed := true }
def FnExactProofRightUptoSaid : Prop := fnExactProofRightUptoRow.holds Try.pinned (OpenSpec.upto fnExactProofRightSpec)

/-- 'laws.FnExactVotesRight', WHERE WHAT IT READS IS OF BULK AT MOST 1048576: true; the input reads as it did. -/
def fnExactVotesRightUptoRow : OpenClaim := { program := "ytohonglblcpdpaa", sum := "864f22d967ff01e997427a129cbf20786df215f35cc9580c6aa39dfa0a7de47b", func := "loop.example/g00386/laws.FnExactVotesRight", spec := "fnExactVotesRight", unfollowed := true, recurses := true, apart := false, narrowed := true }
def FnExactVotesRightUptoSaid : Prop := fnExactVotesRightUptoRow.holds Try.pinned (OpenSpec.upto fnExactVotesRightSpec)

/-- 'laws.FnExactChangeRight', WHERE WHAT IT READS IS OF BULK AT MOST 1048576: true; the input reads as it did. -/
def fnExactChangeRightUptoRow : OpenClaim := { program := "ytohonglblcpdpaa", sum := "864f22d967ff01e997427a129cbf20786df215f35cc9580c6aa39dfa0a7de47b", func := "loop.example/g00386/laws.FnExactChangeRight", spec := "fnExactChangeRight", apart := false, narrowed := true }
def FnExactChangeRightUptoSaid : Prop := fnExactChangeRightUptoRow.holds Try.pinned (OpenSpec.upto fnExactChangeRightSpec)

/-- 'laws.FnExactSayRight', WHERE WHAT IT READS IS OF BULK AT MOST 1048576: true; the input reads as it did. -/
def fnExactSayRightUptoRow : OpenClaim := { program := "ytohonglblcpdpaa", sum := "864f22d967ff01e997427a129cbf20786df215f35cc9580c6aa39dfa0a7de47b", func := "loop.example/g00386/laws.FnExactSayRight", spec := "fnExactSayRight", apart := false, narrowed := true }
def FnExactSayRightUptoSaid : Prop := fnExactSayRightUptoRow.holds Try.pinned (OpenSpec.upto fnExactSayRightSpec)

/-- 'laws.FnExactNewRight', WHERE WHAT IT READS IS OF BULK AT MOST 1048576: true; the input reads as it did. -/
def fnExactNewRightUptoRow : OpenClaim := { program := "ytohonglblcpdpaa", sum := "864f22d967ff01e997427a129cbf20786df215f35cc9580c6aa39dfa0a7de47b", func := "loop.example/g00386/laws.FnExactNewRight", spec := "fnExactNewRight", apart := false, narrowed := true }
def FnExactNewRightUptoSaid : Prop := fnExactNewRightUptoRow.holds Try.pinned (OpenSpec.upto fnExactNewRightSpec)

end Rows
end Go.Proofs.Ytohonglblcpdpaa
