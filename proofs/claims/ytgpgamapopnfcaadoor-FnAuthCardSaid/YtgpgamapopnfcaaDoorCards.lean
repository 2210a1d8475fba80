/-
  DERIVED. GIVEN WITH THE SEED: THE CARDS: each row of YtgpgamapopnfcaaDoorRows.lean that lists a variable, with what it lists TIED to the program's text (the seventh form; the later family's looks); each row that meets fmt, with fmt's text TOLD by the authors' own Lean function (tested against real Go, not proved from fmt's source: count such statements apart). THE CARD IS WHAT COUNTS. Prove the row's statement (the work); the ties are given (YtgpgamapopnfcaaDoorTie.lean); close each card by the builder's one call (the guide's Derived/Test/ToyasCard.lean, 'card_holds'). Laid BY PROGRAM, IN A SANDBOX (cutbox-door.mjs). By AI agents, Wed Nov 11 2026. No macro, syntax, notation, axiom, sorry.
-/
import Derived.Test.YtgpgamapopnfcaaDoorRows
import GoSem.ClaimSeven
namespace Go.Proofs.YtgpgamapopnfcaaDoor
namespace Rows

/-- THE TIED CARD OF 'laws.FnExactPairKey'. -/
def fnExactPairKeyCard : Claim7 := { stood := { row := fnExactPairKeyRow, standIns := [], harness := (true, "dd7085f5b3d2c20b33d30065794d11da5930c158d22952d753d2c49816e5d771"), looks := false }, kinds := [], alts := [], laidByText := true, laidKinds := [.data, .data], laidTests := true, laidLooks := .later }
def FnExactPairKeyCardSaid : Prop := Claim7.holds Tryd.pinned (.plain (OpenSpec.ofChange fnExactPairKeySpec)) fnExactPairKeyCard

/-- THE TIED CARD OF 'laws.FnExactVector'. -/
def fnExactVectorCard : Claim7 := { stood := { row := fnExactVectorRow, standIns := [], harness := (true, "dd7085f5b3d2c20b33d30065794d11da5930c158d22952d753d2c49816e5d771"), looks := false }, kinds := [], alts := [], laidByText := true, laidKinds := [.data, .data], laidTests := true, laidLooks := .later }
def FnExactVectorCardSaid : Prop := Claim7.holds Tryd.pinned (.plain (OpenSpec.ofChange fnExactVectorSpec)) fnExactVectorCard

/-- THE TIED CARD OF 'laws.FnExactVectorGood'. -/
def fnExactVectorGoodCard : Claim7 := { stood := { row := fnExactVectorGoodRow, standIns := [], harness := (true, "dd7085f5b3d2c20b33d30065794d11da5930c158d22952d753d2c49816e5d771"), looks := false }, kinds := [], alts := [], laidByText := true, laidKinds := [.data, .data], laidTests := true, laidLooks := .later }
def FnExactVectorGoodCardSaid : Prop := Claim7.holds Tryd.pinned (.plain (OpenSpec.ofChange fnExactVectorGoodSpec)) fnExactVectorGoodCard

/-- THE TIED CARD OF 'laws.FnAuth'. -/
def fnAuthCard : Claim7 := { stood := { row := fnAuthRow, standIns := [], harness := (true, "dd7085f5b3d2c20b33d30065794d11da5930c158d22952d753d2c49816e5d771"), looks := false }, kinds := [], alts := [], laidByText := true, laidKinds := [.data, .data], laidTests := true, laidLooks := .later }
def FnAuthCardSaid : Prop := Claim7.holds Tryd.pinned (.plain (OpenSpec.ofChange fnAuthSpec)) fnAuthCard

/-- THE SECOND FORM's CARD OF 'laws.FnExactPairKey'. -/
def fnExactPairKeyUptoCard : Claim7 := { stood := { row := fnExactPairKeyUptoRow, standIns := [], harness := (true, "dd7085f5b3d2c20b33d30065794d11da5930c158d22952d753d2c49816e5d771"), looks := false }, kinds := [], alts := [], laidByText := true, laidKinds := [.data, .data], laidTests := true, laidLooks := .later }
def FnExactPairKeyUptoCardSaid : Prop := Claim7.holds Tryd.pinned (.plain (OpenSpec.upto fnExactPairKeySpec)) fnExactPairKeyUptoCard

/-- THE SECOND FORM's CARD OF 'laws.FnExactVector'. -/
def fnExactVectorUptoCard : Claim7 := { stood := { row := fnExactVectorUptoRow, standIns := [], harness := (true, "dd7085f5b3d2c20b33d30065794d11da5930c158d22952d753d2c49816e5d771"), looks := false }, kinds := [], alts := [], laidByText := true, laidKinds := [.data, .data], laidTests := true, laidLooks := .later }
def FnExactVectorUptoCardSaid : Prop := Claim7.holds Tryd.pinned (.plain (OpenSpec.upto fnExactVectorSpec)) fnExactVectorUptoCard

/-- THE SECOND FORM's CARD OF 'laws.FnExactVectorGood'. -/
def fnExactVectorGoodUptoCard : Claim7 := { stood := { row := fnExactVectorGoodUptoRow, standIns := [], harness := (true, "dd7085f5b3d2c20b33d30065794d11da5930c158d22952d753d2c49816e5d771"), looks := false }, kinds := [], alts := [], laidByText := true, laidKinds := [.data, .data], laidTests := true, laidLooks := .later }
def FnExactVectorGoodUptoCardSaid : Prop := Claim7.holds Tryd.pinned (.plain (OpenSpec.upto fnExactVectorGoodSpec)) fnExactVectorGoodUptoCard

/-- THE SECOND FORM's CARD OF 'laws.FnAuth'. -/
def fnAuthUptoCard : Claim7 := { stood := { row := fnAuthUptoRow, standIns := [], harness := (true, "dd7085f5b3d2c20b33d30065794d11da5930c158d22952d753d2c49816e5d771"), looks := false }, kinds := [], alts := [], laidByText := true, laidKinds := [.data, .data], laidTests := true, laidLooks := .later }
def FnAuthUptoCardSaid : Prop := Claim7.holds Tryd.pinned (.plain (OpenSpec.upto fnAuthSpec)) fnAuthUptoCard
end Rows
end Go.Proofs.YtgpgamapopnfcaaDoor
