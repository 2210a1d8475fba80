/-
  No cell of these rows narrows 'for every input' (looked for: loops, veiled, ifaces, maps, wideKeys, modest, calm, conditions, laid).
  DERIVED. THE GIVEN ROWS OF THIS SEAT. 11 by the template 'for every input the law returns true; each argument reads behind the call as it read before'; 0 by the template 'total and deterministic' (their statements: YtjnlopoajcpclaaTotals.lean).
  GIVEN WITH THE SEED: the statements are not yours to turn. If you find one false, say at which input.
  Laid BY PROGRAM, IN A SANDBOX (cutbox-rows.mjs): the forced cells as the released guide's own fill.sh prints them over the translation 5779bbadd2430d18… (all of the seat's roots in one cut). By AI agents, Wed Nov 11 2026. No macro, syntax, notation, axiom, sorry.
-/
import Derived.Test.YtjnlopoajcpclaaChecked
import GoSem.Claim
import GoSem.ClaimJoined
import GoSem.ClaimMapViews
import Derived.JoinedTies
import Derived.KernelRfl
namespace Go.Proofs.Ytjnlopoajcpclaa
/- THE CELL 'sum', in the pinned program and in every row, IS THE sha256 OF THE DUMP (.gsa) THAT YtjnlopoajcpclaaProg.lean LOADS. Nothing in Lean hashes anything: it is a label: what it is worth is what the hold of that sum in a sandbox is worth. -/
noncomputable def Try.pinned : Pinned := { name := "ytjnlopoajcpclaa", sum := "5779bbadd2430d183b85ebd193242c1a52fd2f07fb032c5af34f88a0be6643eb", checked := Try.checked }
namespace Rows
def none {H : Type} : Left H := { results := [], args := [] }

/-- 'laws.FnExactVoteAdd': WHATEVER THE INPUT: true; the input reads as it did. -/
def fnExactVoteAddSpec : ChangeSpec := { name := "fnExactVoteAdd", fn := fun _ => fun
  | [d1, d2] => { results := [.lit (.bool true)], args := [d1, d2] }
  | _ => none }
def fnExactVoteAddRow : OpenClaim := { program := "ytjnlopoajcpclaa", sum := "5779bbadd2430d183b85ebd193242c1a52fd2f07fb032c5af34f88a0be6643eb", func := "loop.example/g00386/laws.FnExactVoteAdd", spec := "fnExactVoteAdd", unfollowed := true, recurses := true, apart := false }
def FnExactVoteAddSaid : Prop := fnExactVoteAddRow.holds Try.pinned (OpenSpec.ofChange fnExactVoteAddSpec)

/-- ITS FALSE NEIGHBOUR: 'it returns false'. Refute it at one input. -/
def fnExactVoteAddWrong : ChangeSpec := { name := "fnExactVoteAdd", fn := fun _ => fun
  | [d1, d2] => { results := [.lit (.bool false)], args := [d1, d2] }
  | _ => none }
def FnExactVoteAddWrongFalsely : Prop := fnExactVoteAddRow.holds Try.pinned (OpenSpec.ofChange fnExactVoteAddWrong)

/-- 'laws.FnExactVoters': WHATEVER THE INPUT: true; the input reads as it did. -/
def fnExactVotersSpec : ChangeSpec := { name := "fnExactVoters", fn := fun _ => fun
  | [d1, d2, d3, d4, d5] => { results := [.lit (.bool true)], args := [d1, d2, d3, d4, d5] }
  | _ => none }
def fnExactVotersRow : OpenClaim := { program := "ytjnlopoajcpclaa", sum := "5779bbadd2430d183b85ebd193242c1a52fd2f07fb032c5af34f88a0be6643eb", func := "loop.example/g00386/laws.FnExactVoters", spec := "fnExactVoters", unfollowed := true, recurses := true, apart := false }
def FnExactVotersSaid : Prop := fnExactVotersRow.holds Try.pinned (OpenSpec.ofChange fnExactVotersSpec)

/-- ITS FALSE NEIGHBOUR: 'it returns false'. Refute it at one input. -/
def fnExactVotersWrong : ChangeSpec := { name := "fnExactVoters", fn := fun _ => fun
  | [d1, d2, d3, d4, d5] => { results := [.lit (.bool false)], args := [d1, d2, d3, d4, d5] }
  | _ => none }
def FnExactVotersWrongFalsely : Prop := fnExactVotersRow.holds Try.pinned (OpenSpec.ofChange fnExactVotersWrong)

/-- 'laws.FnExactProofOf': WHATEVER THE INPUT: true; the input reads as it did. -/
def fnExactProofOfSpec : ChangeSpec := { name := "fnExactProofOf", fn := fun _ => fun
  | [d1, d2, d3, d4] => { results := [.lit (.bool true)], args := [d1, d2, d3, d4] }
  | _ => none }
def fnExactProofOfRow : OpenClaim := { program := "ytjnlopoajcpclaa", sum := "5779bbadd2430d183b85ebd193242c1a52fd2f07fb032c5af34f88a0be6643eb", func := "loop.example/g00386/laws.FnExactProofOf", spec := "fnExactProofOf", unfollowed := true, recurses := true, apart := false }
def FnExactProofOfSaid : Prop := fnExactProofOfRow.holds Try.pinned (OpenSpec.ofChange fnExactProofOfSpec)

/-- ITS FALSE NEIGHBOUR: 'it returns false'. Refute it at one input. -/
def fnExactProofOfWrong : ChangeSpec := { name := "fnExactProofOf", fn := fun _ => fun
  | [d1, d2, d3, d4] => { results := [.lit (.bool false)], args := [d1, d2, d3, d4] }
  | _ => none }
def FnExactProofOfWrongFalsely : Prop := fnExactProofOfRow.holds Try.pinned (OpenSpec.ofChange fnExactProofOfWrong)

/-- 'laws.FnExactPrepared': WHATEVER THE INPUT: true; the input reads as it did. -/
def fnExactPreparedSpec : ChangeSpec := { name := "fnExactPrepared", fn := fun _ => fun
  | [d1, d2] => { results := [.lit (.bool true)], args := [d1, d2] }
  | _ => none }
def fnExactPreparedRow : OpenClaim := { program := "ytjnlopoajcpclaa", sum := "5779bbadd2430d183b85ebd193242c1a52fd2f07fb032c5af34f88a0be6643eb", func := "loop.example/g00386/laws.FnExactPrepared", spec := "fnExactPrepared", unfollowed := true, recurses := true, apart := false }
def FnExactPreparedSaid : Prop := fnExactPreparedRow.holds Try.pinned (OpenSpec.ofChange fnExactPreparedSpec)

/-- ITS FALSE NEIGHBOUR: 'it returns false'. Refute it at one input. -/
def fnExactPreparedWrong : ChangeSpec := { name := "fnExactPrepared", fn := fun _ => fun
  | [d1, d2] => { results := [.lit (.bool false)], args := [d1, d2] }
  | _ => none }
def FnExactPreparedWrongFalsely : Prop := fnExactPreparedRow.holds Try.pinned (OpenSpec.ofChange fnExactPreparedWrong)

/-- 'laws.FnExactDecided': WHATEVER THE INPUT: true; the input reads as it did. -/
def fnExactDecidedSpec : ChangeSpec := { name := "fnExactDecided", fn := fun _ => fun
  | [d1, d2] => { results := [.lit (.bool true)], args := [d1, d2] }
  | _ => none }
def fnExactDecidedRow : OpenClaim := { program := "ytjnlopoajcpclaa", sum := "5779bbadd2430d183b85ebd193242c1a52fd2f07fb032c5af34f88a0be6643eb", func := "loop.example/g00386/laws.FnExactDecided", spec := "fnExactDecided", unfollowed := true, recurses := true, apart := false }
def FnExactDecidedSaid : Prop := fnExactDecidedRow.holds Try.pinned (OpenSpec.ofChange fnExactDecidedSpec)

/-- ITS FALSE NEIGHBOUR: 'it returns false'. Refute it at one input. -/
def fnExactDecidedWrong : ChangeSpec := { name := "fnExactDecided", fn := fun _ => fun
  | [d1, d2] => { results := [.lit (.bool false)], args := [d1, d2] }
  | _ => none }
def FnExactDecidedWrongFalsely : Prop := fnExactDecidedRow.holds Try.pinned (OpenSpec.ofChange fnExactDecidedWrong)

/-- 'laws.FnExactOpOf': WHATEVER THE INPUT: true; the input reads as it did. -/
def fnExactOpOfSpec : ChangeSpec := { name := "fnExactOpOf", fn := fun _ => fun
  | [d1, d2] => { results := [.lit (.bool true)], args := [d1, d2] }
  | _ => none }
def fnExactOpOfRow : OpenClaim := { program := "ytjnlopoajcpclaa", sum := "5779bbadd2430d183b85ebd193242c1a52fd2f07fb032c5af34f88a0be6643eb", func := "loop.example/g00386/laws.FnExactOpOf", spec := "fnExactOpOf", unfollowed := true, recurses := true, apart := false }
def FnExactOpOfSaid : Prop := fnExactOpOfRow.holds Try.pinned (OpenSpec.ofChange fnExactOpOfSpec)

/-- ITS FALSE NEIGHBOUR: 'it returns false'. Refute it at one input. -/
def fnExactOpOfWrong : ChangeSpec := { name := "fnExactOpOf", fn := fun _ => fun
  | [d1, d2] => { results := [.lit (.bool false)], args := [d1, d2] }
  | _ => none }
def FnExactOpOfWrongFalsely : Prop := fnExactOpOfRow.holds Try.pinned (OpenSpec.ofChange fnExactOpOfWrong)

/-- 'laws.FnExactChangeOf': WHATEVER THE INPUT: true; the input reads as it did. -/
def fnExactChangeOfSpec : ChangeSpec := { name := "fnExactChangeOf", fn := fun _ => fun
  | [d1, d2, d3] => { results := [.lit (.bool true)], args := [d1, d2, d3] }
  | _ => none }
def fnExactChangeOfRow : OpenClaim := { program := "ytjnlopoajcpclaa", sum := "5779bbadd2430d183b85ebd193242c1a52fd2f07fb032c5af34f88a0be6643eb", func := "loop.example/g00386/laws.FnExactChangeOf", spec := "fnExactChangeOf", unfollowed := true, recurses := true, apart := false }
def FnExactChangeOfSaid : Prop := fnExactChangeOfRow.holds Try.pinned (OpenSpec.ofChange fnExactChangeOfSpec)

/-- ITS FALSE NEIGHBOUR: 'it returns false'. Refute it at one input. -/
def fnExactChangeOfWrong : ChangeSpec := { name := "fnExactChangeOf", fn := fun _ => fun
  | [d1, d2, d3] => { results := [.lit (.bool false)], args := [d1, d2, d3] }
  | _ => none }
def FnExactChangeOfWrongFalsely : Prop := fnExactChangeOfRow.holds Try.pinned (OpenSpec.ofChange fnExactChangeOfWrong)

/-- 'laws.FnExactWanted': WHATEVER THE INPUT: true; the input reads as it did. -/
def fnExactWantedSpec : ChangeSpec := { name := "fnExactWanted", fn := fun _ => fun
  | [d] => { results := [.lit (.bool true)], args := [d] }
  | _ => none }
def fnExactWantedRow : OpenClaim := { program := "ytjnlopoajcpclaa", sum := "5779bbadd2430d183b85ebd193242c1a52fd2f07fb032c5af34f88a0be6643eb", func := "loop.example/g00386/laws.FnExactWanted", spec := "fnExactWanted", apart := false }
def FnExactWantedSaid : Prop := fnExactWantedRow.holds Try.pinned (OpenSpec.ofChange fnExactWantedSpec)

/-- ITS FALSE NEIGHBOUR: 'it returns false'. Refute it at one input. -/
def fnExactWantedWrong : ChangeSpec := { name := "fnExactWanted", fn := fun _ => fun
  | [d] => { results := [.lit (.bool false)], args := [d] }
  | _ => none }
def FnExactWantedWrongFalsely : Prop := fnExactWantedRow.holds Try.pinned (OpenSpec.ofChange fnExactWantedWrong)

/-- 'laws.FnProof': WHATEVER THE INPUT: true; the input reads as it did. -/
def fnProofSpec : ChangeSpec := { name := "fnProof", fn := fun _ => fun
  | [d1, d2] => { results := [.lit (.bool true)], args := [d1, d2] }
  | _ => none }
def fnProofRow : OpenClaim := { program := "ytjnlopoajcpclaa", sum := "5779bbadd2430d183b85ebd193242c1a52fd2f07fb032c5af34f88a0be6643eb", func := "loop.example/g00386/laws.FnProof", spec := "fnProof", unfollowed := true, recurses := true, apart := false }
def FnProofSaid : Prop := fnProofRow.holds Try.pinned (OpenSpec.ofChange fnProofSpec)

/-- ITS FALSE NEIGHBOUR: 'it returns false'. Refute it at one input. -/
def fnProofWrong : ChangeSpec := { name := "fnProof", fn := fun _ => fun
  | [d1, d2] => { results := [.lit (.bool false)], args := [d1, d2] }
  | _ => none }
def FnProofWrongFalsely : Prop := fnProofRow.holds Try.pinned (OpenSpec.ofChange fnProofWrong)

/-- 'laws.FnWanted': WHATEVER THE INPUT: true; the input reads as it did. -/
def fnWantedSpec : ChangeSpec := { name := "fnWanted", fn := fun _ => fun
  | [d1, d2] => { results := [.lit (.bool true)], args := [d1, d2] }
  | _ => none }
def fnWantedRow : OpenClaim := { program := "ytjnlopoajcpclaa", sum := "5779bbadd2430d183b85ebd193242c1a52fd2f07fb032c5af34f88a0be6643eb", func := "loop.example/g00386/laws.FnWanted", spec := "fnWanted", unfollowed := true, recurses := true, apart := false }
def FnWantedSaid : Prop := fnWantedRow.holds Try.pinned (OpenSpec.ofChange fnWantedSpec)

/-- ITS FALSE NEIGHBOUR: 'it returns false'. Refute it at one input. -/
def fnWantedWrong : ChangeSpec := { name := "fnWanted", fn := fun _ => fun
  | [d1, d2] => { results := [.lit (.bool false)], args := [d1, d2] }
  | _ => none }
def FnWantedWrongFalsely : Prop := fnWantedRow.holds Try.pinned (OpenSpec.ofChange fnWantedWrong)

/-- 'laws.FnVotes': WHATEVER THE INPUT: true; the input reads as it did. -/
def fnVotesSpec : ChangeSpec := { name := "fnVotes", fn := fun _ => fun
  | [d1, d2] => { results := [.lit (.bool true)], args := [d1, d2] }
  | _ => none }
def fnVotesRow : OpenClaim := { program := "ytjnlopoajcpclaa", sum := "5779bbadd2430d183b85ebd193242c1a52fd2f07fb032c5af34f88a0be6643eb", func := "loop.example/g00386/laws.FnVotes", spec := "fnVotes", unfollowed := true, recurses := true, apart := false }
def FnVotesSaid : Prop := fnVotesRow.holds Try.pinned (OpenSpec.ofChange fnVotesSpec)

/-- ITS FALSE NEIGHBOUR: 'it returns false'. Refute it at one input. -/
def fnVotesWrong : ChangeSpec := { name := "fnVotes", fn := fun _ => fun
  | [d1, d2] => { results := [.lit (.bool false)], args := [d1, d2] }
  | _ => none }
def FnVotesWrongFalsely : Prop := fnVotesRow.holds Try.pinned (OpenSpec.ofChange fnVotesWrong)

/- THE SECOND FORM. 'bulk': how many values and letters a reading holds, each counted each time it is reached (what is shared counts as often as it is met; a slice's spare places count too). A statement '..UptoSaid' is the law's where the arguments, and the package variables that the reading takes, are together of bulk at most 1048576: NARROWER than '..Said'. Prove '..Said' where nothing that the law and all that it calls make is longer than what came in: it says more and counts as full. Else prove '..UptoSaid'. A law counts once. -/
mutual
def uptoBulk {H : Type} : DataW H → Nat
  | .lit (.string bytes) => bytes.length + 1
  | .lit _ => 1
  | .nil => 1
  | .ptr d => uptoBulk d + 1
  | .slice elems spare => uptoBulkAll elems + uptoBulkAll spare + 1
  | .agg parts => uptoBulkAll parts + 1
  | .iface _ d => uptoBulk d + 1
  | .map entries => uptoBulkEntries entries + 1
  | .held _ => 1
def uptoBulkAll {H : Type} : List (DataW H) → Nat
  | [] => 0
  | d :: r => uptoBulk d + uptoBulkAll r
def uptoBulkEntries {H : Type} : List (Lit × DataW H) → Nat
  | [] => 0
  | x :: r => uptoBulkEntry x + uptoBulkEntries r
def uptoBulkEntry {H : Type} : Lit × DataW H → Nat
  | (.string bytes, d) => bytes.length + uptoBulk d + 1
  | (_, d) => uptoBulk d + 1
 end
def uptoSmall : (H : Type) → List (DataW H) → Bool := fun _ ds => decide (uptoBulkAll ds ≤ 1048576)
def OpenSpec.upto (s : _root_.Go.ChangeSpec) : _root_.Go.OpenSpec := { _root_.Go.OpenSpec.ofChange s with cond := some uptoSmall }

/-- 'laws.FnExactVoteAdd', WHERE WHAT IT READS IS OF BULK AT MOST 1048576: true; the input reads as it did. -/
def fnExactVoteAddUptoRow : OpenClaim := { program := "ytjnlopoajcpclaa", sum := "5779bbadd2430d183b85ebd193242c1a52fd2f07fb032c5af34f88a0be6643eb", func := "loop.example/g00386/laws.FnExactVoteAdd", spec := "fnExactVoteAdd", unfollowed := true, recurses := true, apart := false, narrowed := true }
def FnExactVoteAddUptoSaid : Prop := fnExactVoteAddUptoRow.holds Try.pinned (OpenSpec.upto fnExactVoteAddSpec)

/-- 'laws.FnExactVoters', WHERE WHAT IT READS IS OF BULK AT MOST 1048576: true; the input reads as it did. -/
def fnExactVotersUptoRow : OpenClaim := { program := "ytjnlopoajcpclaa", sum := "5779bbadd2430d183b85ebd193242c1a52fd2f07fb032c5af34f88a0be6643eb", func := "loop.example/g00386/laws.FnExactVoters", spec := "fnExactVoters", unfollowed := true, recurses := true, apart := false, narrowed := true }
def FnExactVotersUptoSaid : Prop := fnExactVotersUptoRow.holds Try.pinned (OpenSpec.upto fnExactVotersSpec)

/-- 'laws.FnExactProofOf', WHERE WHAT IT READS IS OF BULK AT MOST 1048576: true; the input reads as it did. -/
def fnExactProofOfUptoRow : OpenClaim := { program := "ytjnlopoajcpclaa", sum := "5779bbadd2430d183b85ebd193242c1a52fd2f07fb032c5af34f88a0be6643eb", func := "loop.example/g00386/laws.FnExactProofOf", spec := "fnExactProofOf", unfollowed := true, recurses := true, apart := false, narrowed := true }
def FnExactProofOfUptoSaid : Prop := fnExactProofOfUptoRow.holds Try.pinned (OpenSpec.upto fnExactProofOfSpec)

/-- 'laws.FnExactPrepared', WHERE WHAT IT READS IS OF BULK AT MOST 1048576: true; the input reads as it did. -/
def fnExactPreparedUptoRow : OpenClaim := { program := "ytjnlopoajcpclaa", sum := "5779bbadd2430d183b85ebd193242c1a52fd2f07fb032c5af34f88a0be6643eb", func := "loop.example/g00386/laws.FnExactPrepared", spec := "fnExactPrepared", unfollowed := true, recurses := true, apart := false, narrowed := true }
def FnExactPreparedUptoSaid : Prop := fnExactPreparedUptoRow.holds Try.pinned (OpenSpec.upto fnExactPreparedSpec)

/-- 'laws.FnExactDecided', WHERE WHAT IT READS IS OF BULK AT MOST 1048576: true; the input reads as it did. -/
def fnExactDecidedUptoRow : OpenClaim := { program := "ytjnlopoajcpclaa", sum := "5779bbadd2430d183b85ebd193242c1a52fd2f07fb032c5af34f88a0be6643eb", func := "loop.example/g00386/laws.FnExactDecided", spec := "fnExactDecided", unfollowed := true, recurses := true, apart := false, narrowed := true }
def FnExactDecidedUptoSaid : Prop := fnExactDecidedUptoRow.holds Try.pinned (OpenSpec.upto fnExactDecidedSpec)

/-- 'laws.FnExactOpOf', WHERE WHAT IT READS IS OF BULK AT MOST 1048576: true; the input reads as it did. -/
def fnExactOpOfUptoRow : OpenClaim := { program := "ytjnlopoajcpclaa", sum := "5779bbadd2430d183b85ebd193242c1a52fd2f07fb032c5af34f88a0be6643eb", func := "loop.example/g00386/laws.FnExactOpOf", spec := "fnExactOpOf", unfollowed := true, recurses := true, apart := false, narrowed := true }
def FnExactOpOfUptoSaid : Prop := fnExactOpOfUptoRow.holds Try.pinned (OpenSpec.upto fnExactOpOfSpec)

/-- 'laws.FnExactChangeOf', WHERE WHAT IT READS IS OF BULK AT MOST 1048576: true; the input reads as it did. -/
def fnExactChangeOfUptoRow : OpenClaim := { program := "ytjnlopoajcpclaa", sum := "5779bbadd2430d183b85ebd193242c1a52fd2f07fb032c5af34f88a0be6643eb", func := "loop.example/g00386/laws.FnExactChangeOf", spec := "fnExactChangeOf", unfollowed := true, recurses := true, apart := false, narrowed := true }
def FnExactChangeOfUptoSaid : Prop := fnExactChangeOfUptoRow.holds Try.pinned (OpenSpec.upto fnExactChangeOfSpec)

/-- 'laws.FnExactWanted', WHERE WHAT IT READS IS OF BULK AT MOST 1048576: true; the input reads as it did. -/
def fnExactWantedUptoRow : OpenClaim := { program := "ytjnlopoajcpclaa", sum := "5779bbadd2430d183b85ebd193242c1a52fd2f07fb032c5af34f88a0be6643eb", func := "loop.example/g00386/laws.FnExactWanted", spec := "fnExactWanted", apart := false, narrowed := true }
def FnExactWantedUptoSaid : Prop := fnExactWantedUptoRow.holds Try.pinned (OpenSpec.upto fnExactWantedSpec)

/-- 'laws.FnProof', WHERE WHAT IT READS IS OF BULK AT MOST 1048576: true; the input reads as it did. -/
def fnProofUptoRow : OpenClaim := { program := "ytjnlopoajcpclaa", sum := "5779bbadd2430d183b85ebd193242c1a52fd2f07fb032c5af34f88a0be6643eb", func := "loop.example/g00386/laws.FnProof", spec := "fnProof", unfollowed := true, recurses := true, apart := false, narrowed := true }
def FnProofUptoSaid : Prop := fnProofUptoRow.holds Try.pinned (OpenSpec.upto fnProofSpec)

/-- 'laws.FnWanted', WHERE WHAT IT READS IS OF BULK AT MOST 1048576: true; the input reads as it did. -/
def fnWantedUptoRow : OpenClaim := { program := "ytjnlopoajcpclaa", sum := "5779bbadd2430d183b85ebd193242c1a52fd2f07fb032c5af34f88a0be6643eb", func := "loop.example/g00386/laws.FnWanted", spec := "fnWanted", unfollowed := true, recurses := true, apart := false, narrowed := true }
def FnWantedUptoSaid : Prop := fnWantedUptoRow.holds Try.pinned (OpenSpec.upto fnWantedSpec)

/-- 'laws.FnVotes', WHERE WHAT IT READS IS OF BULK AT MOST 1048576: true; the input reads as it did. -/
def fnVotesUptoRow : OpenClaim := { program := "ytjnlopoajcpclaa", sum := "5779bbadd2430d183b85ebd193242c1a52fd2f07fb032c5af34f88a0be6643eb", func := "loop.example/g00386/laws.FnVotes", spec := "fnVotes", unfollowed := true, recurses := true, apart := false, narrowed := true }
def FnVotesUptoSaid : Prop := fnVotesUptoRow.holds Try.pinned (OpenSpec.upto fnVotesSpec)

end Rows
end Go.Proofs.Ytjnlopoajcpclaa
