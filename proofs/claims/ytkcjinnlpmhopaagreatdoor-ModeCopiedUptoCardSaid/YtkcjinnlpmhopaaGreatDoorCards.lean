/-
  DERIVED. GIVEN WITH THE SEED: THE CARDS: each row of YtkcjinnlpmhopaaGreatDoorRows.lean that lists a variable, with what it lists TIED to the program's text (the seventh form; the later family's looks); each row that meets fmt, with fmt's text TOLD by the authors' own Lean function (tested against real Go, not proved from fmt's source: count such statements apart). THE CARD IS WHAT COUNTS. Prove the row's statement (the work); the ties are given (YtkcjinnlpmhopaaGreatDoorTie.lean); close each card by the builder's one call (the guide's Derived/Test/ToyasCard.lean, 'card_holds'). Laid BY PROGRAM, IN A SANDBOX (cutbox-door.mjs). By AI agents, Wed Nov 11 2026. No macro, syntax, notation, axiom, sorry.
-/
import Derived.Test.YtkcjinnlpmhopaaGreatDoorRows
import GoSem.ClaimSeven
namespace Go.Proofs.YtkcjinnlpmhopaaGreatDoor
namespace Rows

/-- THE TIED CARD OF 'riparianlaw10.ModeParts'. -/
def modePartsCard : Claim7 := { stood := { row := modePartsRow, standIns := [], harness := (true, "a9474fd91049d3ff47cf4247394d6461d42a1fc065e15220dc8d0770661238d7"), looks := true }, kinds := [], alts := [], laidByText := true, laidKinds := [.widerDeep], laidTests := true, laidLooks := .later }
def ModePartsCardSaid : Prop := Claim7.holds Tryz.pinned (.plain (OpenSpec.ofChange modePartsSpec)) modePartsCard

/-- THE TIED CARD OF 'riparianlaw10.ModeCopied'. -/
def modeCopiedCard : Claim7 := { stood := { row := modeCopiedRow, standIns := [], harness := (true, "a9474fd91049d3ff47cf4247394d6461d42a1fc065e15220dc8d0770661238d7"), looks := true }, kinds := [], alts := [], laidByText := true, laidKinds := [.widerDeep], laidTests := true, laidLooks := .later }
def ModeCopiedCardSaid : Prop := Claim7.holds Tryz.pinned (.plain (OpenSpec.ofChange modeCopiedSpec)) modeCopiedCard

/-- THE SECOND FORM's CARD OF 'riparianlaw10.ModeParts'. -/
def modePartsUptoCard : Claim7 := { stood := { row := modePartsUptoRow, standIns := [], harness := (true, "a9474fd91049d3ff47cf4247394d6461d42a1fc065e15220dc8d0770661238d7"), looks := true }, kinds := [], alts := [], laidByText := true, laidKinds := [.widerDeep], laidTests := true, laidLooks := .later }
def ModePartsUptoCardSaid : Prop := Claim7.holds Tryz.pinned (.plain (OpenSpec.upto modePartsSpec)) modePartsUptoCard

/-- THE SECOND FORM's CARD OF 'riparianlaw10.ModeCopied'. -/
def modeCopiedUptoCard : Claim7 := { stood := { row := modeCopiedUptoRow, standIns := [], harness := (true, "a9474fd91049d3ff47cf4247394d6461d42a1fc065e15220dc8d0770661238d7"), looks := true }, kinds := [], alts := [], laidByText := true, laidKinds := [.widerDeep], laidTests := true, laidLooks := .later }
def ModeCopiedUptoCardSaid : Prop := Claim7.holds Tryz.pinned (.plain (OpenSpec.upto modeCopiedSpec)) modeCopiedUptoCard
end Rows
end Go.Proofs.YtkcjinnlpmhopaaGreatDoor
