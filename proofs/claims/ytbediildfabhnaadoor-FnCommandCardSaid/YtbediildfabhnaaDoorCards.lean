/-
  DERIVED. GIVEN WITH THE SEED: THE CARDS: each row of YtbediildfabhnaaDoorRows.lean that lists a variable, with what it lists TIED to the program's text (the seventh form; the later family's looks); each row that meets fmt, with fmt's text TOLD by the authors' own Lean function (tested against real Go, not proved from fmt's source: count such statements apart). THE CARD IS WHAT COUNTS. Prove the row's statement (the work); the ties are given (YtbediildfabhnaaDoorTie.lean); close each card by the builder's one call (the guide's Derived/Test/ToyasCard.lean, 'card_holds'). Laid BY PROGRAM, IN A SANDBOX (cutbox-door.mjs). By AI agents, Wed Nov 11 2026. No macro, syntax, notation, axiom, sorry.
-/
import Derived.Test.YtbediildfabhnaaDoorRows
import GoSem.ClaimSeven
namespace Go.Proofs.YtbediildfabhnaaDoor
namespace Rows

/-- THE TIED CARD OF 'laws.FnCommand'. -/
def fnCommandCard : Claim7 := { stood := { row := fnCommandRow, standIns := [], harness := (true, "1c294457c99f83da498725757e3d806127d40de2a55ee44bc8c80befed78e514"), looks := false }, kinds := [], alts := [], laidByText := true, laidKinds := [.data], laidTests := true, laidLooks := .later }
def FnCommandCardSaid : Prop := Claim7.holds Tryd.pinned (.plain (OpenSpec.ofChange fnCommandSpec)) fnCommandCard

/-- THE SECOND FORM's CARD OF 'laws.FnCommand'. -/
def fnCommandUptoCard : Claim7 := { stood := { row := fnCommandUptoRow, standIns := [], harness := (true, "1c294457c99f83da498725757e3d806127d40de2a55ee44bc8c80befed78e514"), looks := false }, kinds := [], alts := [], laidByText := true, laidKinds := [.data], laidTests := true, laidLooks := .later }
def FnCommandUptoCardSaid : Prop := Claim7.holds Tryd.pinned (.plain (OpenSpec.upto fnCommandSpec)) fnCommandUptoCard
end Rows
end Go.Proofs.YtbediildfabhnaaDoor
