/-
  NARROWER THAN 'FOR EVERY INPUT', by the rows' own cells (each row's printed sentence says how): FnExactPairKey: laid · FnExactVector: laid · FnExactVectorGood: laid · FnAuth: laid.
  DERIVED. THE GIVEN ROWS OF THIS SEAT. 4 by the template 'for every input the law returns true; each argument reads behind the call as it read before'; 0 by the template 'total and deterministic' (their statements: YtgpgamapopnfcaaDoorTotals.lean).
  GIVEN WITH THE SEED: the statements are not yours to turn. If you find one false, say at which input.
  Laid BY PROGRAM, IN A SANDBOX (cutbox-rows.mjs): the forced cells as the released guide's own fill.sh prints them over the translation e27a9e5c6e142781… (all of the seat's roots in one cut). By AI agents, Wed Nov 11 2026. No macro, syntax, notation, axiom, sorry.
-/
import Derived.Test.YtgpgamapopnfcaaDoorChecked
import GoSem.Claim
import GoSem.ClaimJoined
import GoSem.ClaimMapViews
import Derived.JoinedTies
import Derived.KernelRfl
namespace Go.Proofs.YtgpgamapopnfcaaDoor
/- THE CELL 'sum', in the pinned program and in every row, IS THE sha256 OF THE DUMP (.gsa) THAT YtgpgamapopnfcaaDoorProg.lean LOADS. Nothing in Lean hashes anything: it is a label: what it is worth is what the hold of that sum in a sandbox is worth. -/
noncomputable def Tryd.pinned : Pinned := { name := "ytgpgamapopnfcaadoor", sum := "e27a9e5c6e1427815673e294738a59eb0315cd3f1272a7e84fc5250fedc3a364", checked := Tryd.checked }
namespace Rows
def none {H : Type} : Left H := { results := [], args := [] }

/- WHAT THE LISTED PACKAGE-LEVEL VARIABLES READ AS WHEN THE CALL BEGINS. Each datum BY PROGRAM (the guide's laid-datum.mjs) off the statement by which the dump's own 'gosem.cut.vars' lays the variable. In a bare row this is a premise. The card (YtgpgamapopnfcaaDoorCards.lean) ties it to the program's text. -/
def laid_loop_example_g00386_impl_digestStart {H : Type} : DataW H := .agg [.lit (.int .u32 1779033703), .lit (.int .u32 3144134277), .lit (.int .u32 1013904242), .lit (.int .u32 2773480762), .lit (.int .u32 1359893119), .lit (.int .u32 2600822924), .lit (.int .u32 528734635), .lit (.int .u32 1541459225)]
def laid_loop_example_g00386_impl_digestRounds {H : Type} : DataW H := .agg [.lit (.int .u32 1116352408), .lit (.int .u32 1899447441), .lit (.int .u32 3049323471), .lit (.int .u32 3921009573), .lit (.int .u32 961987163), .lit (.int .u32 1508970993), .lit (.int .u32 2453635748), .lit (.int .u32 2870763221), .lit (.int .u32 3624381080), .lit (.int .u32 310598401), .lit (.int .u32 607225278), .lit (.int .u32 1426881987), .lit (.int .u32 1925078388), .lit (.int .u32 2162078206), .lit (.int .u32 2614888103), .lit (.int .u32 3248222580), .lit (.int .u32 3835390401), .lit (.int .u32 4022224774), .lit (.int .u32 264347078), .lit (.int .u32 604807628), .lit (.int .u32 770255983), .lit (.int .u32 1249150122), .lit (.int .u32 1555081692), .lit (.int .u32 1996064986), .lit (.int .u32 2554220882), .lit (.int .u32 2821834349), .lit (.int .u32 2952996808), .lit (.int .u32 3210313671), .lit (.int .u32 3336571891), .lit (.int .u32 3584528711), .lit (.int .u32 113926993), .lit (.int .u32 338241895), .lit (.int .u32 666307205), .lit (.int .u32 773529912), .lit (.int .u32 1294757372), .lit (.int .u32 1396182291), .lit (.int .u32 1695183700), .lit (.int .u32 1986661051), .lit (.int .u32 2177026350), .lit (.int .u32 2456956037), .lit (.int .u32 2730485921), .lit (.int .u32 2820302411), .lit (.int .u32 3259730800), .lit (.int .u32 3345764771), .lit (.int .u32 3516065817), .lit (.int .u32 3600352804), .lit (.int .u32 4094571909), .lit (.int .u32 275423344), .lit (.int .u32 430227734), .lit (.int .u32 506948616), .lit (.int .u32 659060556), .lit (.int .u32 883997877), .lit (.int .u32 958139571), .lit (.int .u32 1322822218), .lit (.int .u32 1537002063), .lit (.int .u32 1747873779), .lit (.int .u32 1955562222), .lit (.int .u32 2024104815), .lit (.int .u32 2227730452), .lit (.int .u32 2361852424), .lit (.int .u32 2428436474), .lit (.int .u32 2756734187), .lit (.int .u32 3204031479), .lit (.int .u32 3329325298)]

/-- 'laws.FnExactPairKey': WHATEVER THE INPUT: true; the input reads as it did. -/
def fnExactPairKeySpec : ChangeSpec := { name := "fnExactPairKey", vars := ["loop.example/g00386/impl.digestStart", "loop.example/g00386/impl.digestRounds"], fn := fun _ => fun
  | [d1, d2, d3, g1, g2] => { results := [.lit (.bool true)], args := [d1, d2, d3], vars := [g1, g2] }
  | _ => none }
def fnExactPairKeyRow : OpenClaim := { program := "ytgpgamapopnfcaadoor", sum := "e27a9e5c6e1427815673e294738a59eb0315cd3f1272a7e84fc5250fedc3a364", func := "loop.example/g00386/laws.FnExactPairKey", spec := "fnExactPairKey", inPlace := ["internal/abi.NoEscape", "internal/bytealg.MakeNoZero"], named := ["loop.example/g00386/impl.digestStart", "loop.example/g00386/impl.digestRounds"], apart := false, laid := [("loop.example/g00386/impl.digestStart", laid_loop_example_g00386_impl_digestStart), ("loop.example/g00386/impl.digestRounds", laid_loop_example_g00386_impl_digestRounds)] }
def FnExactPairKeySaid : Prop := fnExactPairKeyRow.holds Tryd.pinned (OpenSpec.ofChange fnExactPairKeySpec)

/-- ITS FALSE NEIGHBOUR: 'it returns false'. Refute it at one input. -/
def fnExactPairKeyWrong : ChangeSpec := { name := "fnExactPairKey", vars := ["loop.example/g00386/impl.digestStart", "loop.example/g00386/impl.digestRounds"], fn := fun _ => fun
  | [d1, d2, d3, g1, g2] => { results := [.lit (.bool false)], args := [d1, d2, d3], vars := [g1, g2] }
  | _ => none }
def FnExactPairKeyWrongFalsely : Prop := fnExactPairKeyRow.holds Tryd.pinned (OpenSpec.ofChange fnExactPairKeyWrong)

/-- 'laws.FnExactVector': WHATEVER THE INPUT: true; the input reads as it did. -/
def fnExactVectorSpec : ChangeSpec := { name := "fnExactVector", vars := ["loop.example/g00386/impl.digestStart", "loop.example/g00386/impl.digestRounds"], fn := fun _ => fun
  | [d1, d2, d3, g1, g2] => { results := [.lit (.bool true)], args := [d1, d2, d3], vars := [g1, g2] }
  | _ => none }
def fnExactVectorRow : OpenClaim := { program := "ytgpgamapopnfcaadoor", sum := "e27a9e5c6e1427815673e294738a59eb0315cd3f1272a7e84fc5250fedc3a364", func := "loop.example/g00386/laws.FnExactVector", spec := "fnExactVector", inPlace := ["internal/abi.NoEscape", "internal/bytealg.MakeNoZero"], named := ["loop.example/g00386/impl.digestStart", "loop.example/g00386/impl.digestRounds"], apart := false, laid := [("loop.example/g00386/impl.digestStart", laid_loop_example_g00386_impl_digestStart), ("loop.example/g00386/impl.digestRounds", laid_loop_example_g00386_impl_digestRounds)] }
def FnExactVectorSaid : Prop := fnExactVectorRow.holds Tryd.pinned (OpenSpec.ofChange fnExactVectorSpec)

/-- ITS FALSE NEIGHBOUR: 'it returns false'. Refute it at one input. -/
def fnExactVectorWrong : ChangeSpec := { name := "fnExactVector", vars := ["loop.example/g00386/impl.digestStart", "loop.example/g00386/impl.digestRounds"], fn := fun _ => fun
  | [d1, d2, d3, g1, g2] => { results := [.lit (.bool false)], args := [d1, d2, d3], vars := [g1, g2] }
  | _ => none }
def FnExactVectorWrongFalsely : Prop := fnExactVectorRow.holds Tryd.pinned (OpenSpec.ofChange fnExactVectorWrong)

/-- 'laws.FnExactVectorGood': WHATEVER THE INPUT: true; the input reads as it did. -/
def fnExactVectorGoodSpec : ChangeSpec := { name := "fnExactVectorGood", vars := ["loop.example/g00386/impl.digestStart", "loop.example/g00386/impl.digestRounds"], fn := fun _ => fun
  | [d1, d2, d3, d4, d5, g1, g2] => { results := [.lit (.bool true)], args := [d1, d2, d3, d4, d5], vars := [g1, g2] }
  | _ => none }
def fnExactVectorGoodRow : OpenClaim := { program := "ytgpgamapopnfcaadoor", sum := "e27a9e5c6e1427815673e294738a59eb0315cd3f1272a7e84fc5250fedc3a364", func := "loop.example/g00386/laws.FnExactVectorGood", spec := "fnExactVectorGood", inPlace := ["internal/abi.NoEscape", "internal/bytealg.MakeNoZero"], named := ["loop.example/g00386/impl.digestStart", "loop.example/g00386/impl.digestRounds"], apart := false, laid := [("loop.example/g00386/impl.digestStart", laid_loop_example_g00386_impl_digestStart), ("loop.example/g00386/impl.digestRounds", laid_loop_example_g00386_impl_digestRounds)] }
def FnExactVectorGoodSaid : Prop := fnExactVectorGoodRow.holds Tryd.pinned (OpenSpec.ofChange fnExactVectorGoodSpec)

/-- ITS FALSE NEIGHBOUR: 'it returns false'. Refute it at one input. -/
def fnExactVectorGoodWrong : ChangeSpec := { name := "fnExactVectorGood", vars := ["loop.example/g00386/impl.digestStart", "loop.example/g00386/impl.digestRounds"], fn := fun _ => fun
  | [d1, d2, d3, d4, d5, g1, g2] => { results := [.lit (.bool false)], args := [d1, d2, d3, d4, d5], vars := [g1, g2] }
  | _ => none }
def FnExactVectorGoodWrongFalsely : Prop := fnExactVectorGoodRow.holds Tryd.pinned (OpenSpec.ofChange fnExactVectorGoodWrong)

/-- 'laws.FnAuth': WHATEVER THE INPUT: true; the input reads as it did. -/
def fnAuthSpec : ChangeSpec := { name := "fnAuth", vars := ["loop.example/g00386/impl.digestStart", "loop.example/g00386/impl.digestRounds"], fn := fun _ => fun
  | [d1, d2, g1, g2] => { results := [.lit (.bool true)], args := [d1, d2], vars := [g1, g2] }
  | _ => none }
def fnAuthRow : OpenClaim := { program := "ytgpgamapopnfcaadoor", sum := "e27a9e5c6e1427815673e294738a59eb0315cd3f1272a7e84fc5250fedc3a364", func := "loop.example/g00386/laws.FnAuth", spec := "fnAuth", inPlace := ["internal/abi.NoEscape", "internal/bytealg.MakeNoZero"], named := ["loop.example/g00386/impl.digestStart", "loop.example/g00386/impl.digestRounds"], apart := false, laid := [("loop.example/g00386/impl.digestStart", laid_loop_example_g00386_impl_digestStart), ("loop.example/g00386/impl.digestRounds", laid_loop_example_g00386_impl_digestRounds)] }
def FnAuthSaid : Prop := fnAuthRow.holds Tryd.pinned (OpenSpec.ofChange fnAuthSpec)

/-- ITS FALSE NEIGHBOUR: 'it returns false'. Refute it at one input. -/
def fnAuthWrong : ChangeSpec := { name := "fnAuth", vars := ["loop.example/g00386/impl.digestStart", "loop.example/g00386/impl.digestRounds"], fn := fun _ => fun
  | [d1, d2, g1, g2] => { results := [.lit (.bool false)], args := [d1, d2], vars := [g1, g2] }
  | _ => none }
def FnAuthWrongFalsely : Prop := fnAuthRow.holds Tryd.pinned (OpenSpec.ofChange fnAuthWrong)

/- THE SECOND FORM. 'bulk': how many values and letters a reading holds, each counted each time it is reached (what is shared counts as often as it is met; a slice's spare places count too). A statement '..UptoSaid' is the law's where the arguments, and the package variables that the reading takes, are together of bulk at most 1048576: NARROWER than '..Said'. Prove '..Said' where nothing that the law and all that it calls make is longer than what came in: it says more and counts as full. Else prove '..UptoSaid'. A law counts once. -/
mutual
def uptoBulk {H : Type} : DataW H → Nat
  | .lit (.string bytes) => bytes.length + 1
  | .lit _ => 1
  | .nil => 1
  | .ptr d => uptoBulk d + 1
  | .slice elems spare => uptoBulkAll elems + uptoBulkAll spare + 1
  | .agg parts => uptoBulkAll parts + 1
  | .iface _ d => uptoBulk d + 1
  | .map entries => uptoBulkEntries entries + 1
  | .held _ => 1
def uptoBulkAll {H : Type} : List (DataW H) → Nat
  | [] => 0
  | d :: r => uptoBulk d + uptoBulkAll r
def uptoBulkEntries {H : Type} : List (Lit × DataW H) → Nat
  | [] => 0
  | x :: r => uptoBulkEntry x + uptoBulkEntries r
def uptoBulkEntry {H : Type} : Lit × DataW H → Nat
  | (.string bytes, d) => bytes.length + uptoBulk d + 1
  | (_, d) => uptoBulk d + 1
 end
def uptoSmall : (H : Type) → List (DataW H) → Bool := fun _ ds => decide (uptoBulkAll ds ≤ 1048576)
def OpenSpec.upto (s : _root_.Go.ChangeSpec) : _root_.Go.OpenSpec := { _root_.Go.OpenSpec.ofChange s with cond := some uptoSmall }

/-- 'laws.FnExactPairKey', WHERE WHAT IT READS IS OF BULK AT MOST 1048576: true; the input reads as it did. -/
def fnExactPairKeyUptoRow : OpenClaim := { program := "ytgpgamapopnfcaadoor", sum := "e27a9e5c6e1427815673e294738a59eb0315cd3f1272a7e84fc5250fedc3a364", func := "loop.example/g00386/laws.FnExactPairKey", spec := "fnExactPairKey", inPlace := ["internal/abi.NoEscape", "internal/bytealg.MakeNoZero"], named := ["loop.example/g00386/impl.digestStart", "loop.example/g00386/impl.digestRounds"], apart := false, laid := [("loop.example/g00386/impl.digestStart", laid_loop_example_g00386_impl_digestStart), ("loop.example/g00386/impl.digestRounds", laid_loop_example_g00386_impl_digestRounds)], narrowed := true }
def FnExactPairKeyUptoSaid : Prop := fnExactPairKeyUptoRow.holds Tryd.pinned (OpenSpec.upto fnExactPairKeySpec)

/-- 'laws.FnExactVector', WHERE WHAT IT READS IS OF BULK AT MOST 1048576: true; the input reads as it did. -/
def fnExactVectorUptoRow : OpenClaim := { program := "ytgpgamapopnfcaadoor", sum := "e27a9e5c6e1427815673e294738a59eb0315cd3f1272a7e84fc5250fedc3a364", func := "loop.example/g00386/laws.FnExactVector", spec := "fnExactVector", inPlace := ["internal/abi.NoEscape", "internal/bytealg.MakeNoZero"], named := ["loop.example/g00386/impl.digestStart", "loop.example/g00386/impl.digestRounds"], apart := false, laid := [("loop.example/g00386/impl.digestStart", laid_loop_example_g00386_impl_digestStart), ("loop.example/g00386/impl.digestRounds", laid_loop_example_g00386_impl_digestRounds)], narrowed := true }
def FnExactVectorUptoSaid : Prop := fnExactVectorUptoRow.holds Tryd.pinned (OpenSpec.upto fnExactVectorSpec)

/-- 'laws.FnExactVectorGood', WHERE WHAT IT READS IS OF BULK AT MOST 1048576: true; the input reads as it did. -/
def fnExactVectorGoodUptoRow : OpenClaim := { program := "ytgpgamapopnfcaadoor", sum := "e27a9e5c6e1427815673e294738a59eb0315cd3f1272a7e84fc5250fedc3a364", func := "loop.example/g00386/laws.FnExactVectorGood", spec := "fnExactVectorGood", inPlace := ["internal/abi.NoEscape", "internal/bytealg.MakeNoZero"], named := ["loop.example/g00386/impl.digestStart", "loop.example/g00386/impl.digestRounds"], apart := false, laid := [("loop.example/g00386/impl.digestStart", laid_loop_example_g00386_impl_digestStart), ("loop.example/g00386/impl.digestRounds", laid_loop_example_g00386_impl_digestRounds)], narrowed := true }
def FnExactVectorGoodUptoSaid : Prop := fnExactVectorGoodUptoRow.holds Tryd.pinned (OpenSpec.upto fnExactVectorGoodSpec)

/-- 'laws.FnAuth', WHERE WHAT IT READS IS OF BULK AT MOST 1048576: true; the input reads as it did. -/
def fnAuthUptoRow : OpenClaim := { program := "ytgpgamapopnfcaadoor", sum := "e27a9e5c6e1427815673e294738a59eb0315cd3f1272a7e84fc5250fedc3a364", func := "loop.example/g00386/laws.FnAuth", spec := "fnAuth", inPlace := ["internal/abi.NoEscape", "internal/bytealg.MakeNoZero"], named := ["loop.example/g00386/impl.digestStart", "loop.example/g00386/impl.digestRounds"], apart := false, laid := [("loop.example/g00386/impl.digestStart", laid_loop_example_g00386_impl_digestStart), ("loop.example/g00386/impl.digestRounds", laid_loop_example_g00386_impl_digestRounds)], narrowed := true }
def FnAuthUptoSaid : Prop := fnAuthUptoRow.holds Tryd.pinned (OpenSpec.upto fnAuthSpec)

end Rows
end Go.Proofs.YtgpgamapopnfcaaDoor
