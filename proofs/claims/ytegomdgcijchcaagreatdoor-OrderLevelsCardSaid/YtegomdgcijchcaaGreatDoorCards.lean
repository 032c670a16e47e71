/-
  DERIVED. GIVEN WITH THE SEED: THE CARDS: each row of YtegomdgcijchcaaGreatDoorRows.lean that lists a variable, with what it lists TIED to the program's text (the seventh form; the later family's looks); each row that meets fmt, with fmt's text TOLD by the authors' own Lean function (tested against real Go, not proved from fmt's source: count such statements apart). THE CARD IS WHAT COUNTS. Prove the row's statement (the work); the ties are given (YtegomdgcijchcaaGreatDoorTie.lean); close each card by the builder's one call (the guide's Derived/Test/ToyasCard.lean, 'card_holds'). Laid BY PROGRAM, IN A SANDBOX (cutbox-door.mjs). By AI agents, Wed Nov 11 2026. No macro, syntax, notation, axiom, sorry.
-/
import Derived.Test.YtegomdgcijchcaaGreatDoorRows
import GoSem.ClaimSeven
namespace Go.Proofs.YtegomdgcijchcaaGreatDoor
namespace Rows

/-- THE TIED CARD OF 'riparianlaw15.OrderGraphs'. -/
def orderGraphsCard : Claim7 := { stood := { row := orderGraphsRow, standIns := [], harness := (true, "e8bee4214bb5d5814754e32cf4ba9f625655bbbacea81a099ad02db1d222b277"), looks := true }, kinds := [], alts := [], laidByText := true, laidKinds := [.widerDeep], laidTests := true, laidLooks := .later }
def OrderGraphsCardSaid : Prop := Claim7.holds Tryz.pinned (.plain (OpenSpec.ofChange orderGraphsSpec)) orderGraphsCard

/-- THE TIED CARD OF 'riparianlaw15.OrderLevels'. -/
def orderLevelsCard : Claim7 := { stood := { row := orderLevelsRow, standIns := [], harness := (true, "e8bee4214bb5d5814754e32cf4ba9f625655bbbacea81a099ad02db1d222b277"), looks := true }, kinds := [], alts := [], laidByText := true, laidKinds := [.widerDeep], laidTests := true, laidLooks := .later }
def OrderLevelsCardSaid : Prop := Claim7.holds Tryz.pinned (.plain (OpenSpec.ofChange orderLevelsSpec)) orderLevelsCard

/-- THE TIED CARD OF 'riparianlaw15.OrderSorted'. -/
def orderSortedCard : Claim7 := { stood := { row := orderSortedRow, standIns := [], harness := (true, "e8bee4214bb5d5814754e32cf4ba9f625655bbbacea81a099ad02db1d222b277"), looks := true }, kinds := [], alts := [], laidByText := true, laidKinds := [.widerDeep], laidTests := true, laidLooks := .later }
def OrderSortedCardSaid : Prop := Claim7.holds Tryz.pinned (.plain (OpenSpec.ofChange orderSortedSpec)) orderSortedCard

/-- THE TIED CARD OF 'riparianlaw15.OrderReduced'. -/
def orderReducedCard : Claim7 := { stood := { row := orderReducedRow, standIns := [], harness := (true, "e8bee4214bb5d5814754e32cf4ba9f625655bbbacea81a099ad02db1d222b277"), looks := true }, kinds := [], alts := [], laidByText := true, laidKinds := [.widerDeep], laidTests := true, laidLooks := .later }
def OrderReducedCardSaid : Prop := Claim7.holds Tryz.pinned (.plain (OpenSpec.ofChange orderReducedSpec)) orderReducedCard

/-- THE TIED CARD OF 'riparianlaw15.OrderLeveled'. -/
def orderLeveledCard : Claim7 := { stood := { row := orderLeveledRow, standIns := [], harness := (true, "e8bee4214bb5d5814754e32cf4ba9f625655bbbacea81a099ad02db1d222b277"), looks := true }, kinds := [], alts := [], laidByText := true, laidKinds := [.widerDeep], laidTests := true, laidLooks := .later }
def OrderLeveledCardSaid : Prop := Claim7.holds Tryz.pinned (.plain (OpenSpec.ofChange orderLeveledSpec)) orderLeveledCard

/-- THE TIED CARD OF 'riparianlaw15.OrderClosed'. -/
def orderClosedCard : Claim7 := { stood := { row := orderClosedRow, standIns := [], harness := (true, "e8bee4214bb5d5814754e32cf4ba9f625655bbbacea81a099ad02db1d222b277"), looks := true }, kinds := [], alts := [], laidByText := true, laidKinds := [.widerDeep], laidTests := true, laidLooks := .later }
def OrderClosedCardSaid : Prop := Claim7.holds Tryz.pinned (.plain (OpenSpec.ofChange orderClosedSpec)) orderClosedCard

/-- THE SECOND FORM's CARD OF 'riparianlaw15.OrderGraphs'. -/
def orderGraphsUptoCard : Claim7 := { stood := { row := orderGraphsUptoRow, standIns := [], harness := (true, "e8bee4214bb5d5814754e32cf4ba9f625655bbbacea81a099ad02db1d222b277"), looks := true }, kinds := [], alts := [], laidByText := true, laidKinds := [.widerDeep], laidTests := true, laidLooks := .later }
def OrderGraphsUptoCardSaid : Prop := Claim7.holds Tryz.pinned (.plain (OpenSpec.upto orderGraphsSpec)) orderGraphsUptoCard

/-- THE SECOND FORM's CARD OF 'riparianlaw15.OrderLevels'. -/
def orderLevelsUptoCard : Claim7 := { stood := { row := orderLevelsUptoRow, standIns := [], harness := (true, "e8bee4214bb5d5814754e32cf4ba9f625655bbbacea81a099ad02db1d222b277"), looks := true }, kinds := [], alts := [], laidByText := true, laidKinds := [.widerDeep], laidTests := true, laidLooks := .later }
def OrderLevelsUptoCardSaid : Prop := Claim7.holds Tryz.pinned (.plain (OpenSpec.upto orderLevelsSpec)) orderLevelsUptoCard

/-- THE SECOND FORM's CARD OF 'riparianlaw15.OrderSorted'. -/
def orderSortedUptoCard : Claim7 := { stood := { row := orderSortedUptoRow, standIns := [], harness := (true, "e8bee4214bb5d5814754e32cf4ba9f625655bbbacea81a099ad02db1d222b277"), looks := true }, kinds := [], alts := [], laidByText := true, laidKinds := [.widerDeep], laidTests := true, laidLooks := .later }
def OrderSortedUptoCardSaid : Prop := Claim7.holds Tryz.pinned (.plain (OpenSpec.upto orderSortedSpec)) orderSortedUptoCard

/-- THE SECOND FORM's CARD OF 'riparianlaw15.OrderReduced'. -/
def orderReducedUptoCard : Claim7 := { stood := { row := orderReducedUptoRow, standIns := [], harness := (true, "e8bee4214bb5d5814754e32cf4ba9f625655bbbacea81a099ad02db1d222b277"), looks := true }, kinds := [], alts := [], laidByText := true, laidKinds := [.widerDeep], laidTests := true, laidLooks := .later }
def OrderReducedUptoCardSaid : Prop := Claim7.holds Tryz.pinned (.plain (OpenSpec.upto orderReducedSpec)) orderReducedUptoCard

/-- THE SECOND FORM's CARD OF 'riparianlaw15.OrderLeveled'. -/
def orderLeveledUptoCard : Claim7 := { stood := { row := orderLeveledUptoRow, standIns := [], harness := (true, "e8bee4214bb5d5814754e32cf4ba9f625655bbbacea81a099ad02db1d222b277"), looks := true }, kinds := [], alts := [], laidByText := true, laidKinds := [.widerDeep], laidTests := true, laidLooks := .later }
def OrderLeveledUptoCardSaid : Prop := Claim7.holds Tryz.pinned (.plain (OpenSpec.upto orderLeveledSpec)) orderLeveledUptoCard

/-- THE SECOND FORM's CARD OF 'riparianlaw15.OrderClosed'. -/
def orderClosedUptoCard : Claim7 := { stood := { row := orderClosedUptoRow, standIns := [], harness := (true, "e8bee4214bb5d5814754e32cf4ba9f625655bbbacea81a099ad02db1d222b277"), looks := true }, kinds := [], alts := [], laidByText := true, laidKinds := [.widerDeep], laidTests := true, laidLooks := .later }
def OrderClosedUptoCardSaid : Prop := Claim7.holds Tryz.pinned (.plain (OpenSpec.upto orderClosedSpec)) orderClosedUptoCard
end Rows
end Go.Proofs.YtegomdgcijchcaaGreatDoor
