/-
  NARROWER THAN 'FOR EVERY INPUT', by the rows' own cells (each row's printed sentence says how): OrderGraphs: laid · OrderLevels: laid · OrderSorted: laid · OrderReduced: laid · OrderLeveled: laid · OrderClosed: laid.
  DERIVED. THE GIVEN ROWS OF THIS SEAT. 6 by the template 'for every input the law returns true; each argument reads behind the call as it read before'; 0 by the template 'total and deterministic' (their statements: YtegomdgcijchcaaGreatDoorTotals.lean).
  GIVEN WITH THE SEED: the statements are not yours to turn. If you find one false, say at which input.
  Laid BY PROGRAM, IN A SANDBOX (cutbox-rows.mjs): the forced cells as the released guide's own fill.sh prints them over the translation e13604484e436938… (all of the seat's roots in one cut). By AI agents, Wed Nov 11 2026. No macro, syntax, notation, axiom, sorry.
-/
import Derived.Test.YtegomdgcijchcaaGreatDoorChecked
import GoSem.Claim
import GoSem.ClaimJoined
import GoSem.ClaimMapViews
import Derived.JoinedTies
import Derived.KernelRfl
namespace Go.Proofs.YtegomdgcijchcaaGreatDoor
/- THE CELL 'sum', in the pinned program and in every row, IS THE sha256 OF THE DUMP (.gsa) THAT YtegomdgcijchcaaGreatDoorProg.lean LOADS. Nothing in Lean hashes anything: it is a label: what it is worth is what the hold of that sum in a sandbox is worth. -/
noncomputable def Tryz.pinned : Pinned := { name := "ytegomdgcijchcaagreatdoor", sum := "e13604484e4369384b9d30935eb64917402034558dd56d039cd1045f18871187", checked := Tryz.checked }
namespace Rows
def none {H : Type} : Left H := { results := [], args := [] }

/- WHAT THE LISTED PACKAGE-LEVEL VARIABLES READ AS WHEN THE CALL BEGINS. Each datum BY PROGRAM (the guide's laid-datum.mjs) off the statement by which the dump's own 'gosem.cut.vars' lays the variable. In a bare row this is a premise. The card (YtegomdgcijchcaaGreatDoorCards.lean) ties it to the program's text. -/
def laid_riparian_prog_calculations {H : Type} : DataW H := .agg [.lit (.string [43]), .lit (.string [45]), .lit (.string [42]), .lit (.string [47]), .lit (.string [109, 111, 100]), .lit (.string [45])]

/-- 'riparianlaw15.OrderGraphs': WHATEVER THE INPUT: true; the input reads as it did. -/
def orderGraphsSpec : ChangeSpec := { name := "orderGraphs", fn := fun _ => fun
  | [d1, d2] => { results := [.lit (.bool true)], args := [d1, d2] }
  | _ => none }
def orderGraphsRow : OpenClaim := { program := "ytegomdgcijchcaagreatdoor", sum := "e13604484e4369384b9d30935eb64917402034558dd56d039cd1045f18871187", func := "riparian/riparianlaw15.OrderGraphs", spec := "orderGraphs", unfollowed := true, recurses := true, named := ["riparian/prog.calculations"], plainKeys := false, apart := false, laid := [("riparian/prog.calculations", laid_riparian_prog_calculations)] }
def OrderGraphsSaid : Prop := orderGraphsRow.holds Tryz.pinned (OpenSpec.ofChange orderGraphsSpec)

/-- ITS FALSE NEIGHBOUR: 'it returns false'. Refute it at one input. -/
def orderGraphsWrong : ChangeSpec := { name := "orderGraphs", fn := fun _ => fun
  | [d1, d2] => { results := [.lit (.bool false)], args := [d1, d2] }
  | _ => none }
def OrderGraphsWrongFalsely : Prop := orderGraphsRow.holds Tryz.pinned (OpenSpec.ofChange orderGraphsWrong)

/-- 'riparianlaw15.OrderLevels': WHATEVER THE INPUT: true; the input reads as it did. -/
def orderLevelsSpec : ChangeSpec := { name := "orderLevels", fn := fun _ => fun
  | [d1, d2] => { results := [.lit (.bool true)], args := [d1, d2] }
  | _ => none }
def orderLevelsRow : OpenClaim := { program := "ytegomdgcijchcaagreatdoor", sum := "e13604484e4369384b9d30935eb64917402034558dd56d039cd1045f18871187", func := "riparian/riparianlaw15.OrderLevels", spec := "orderLevels", unfollowed := true, recurses := true, named := ["riparian/prog.calculations"], plainKeys := false, apart := false, laid := [("riparian/prog.calculations", laid_riparian_prog_calculations)] }
def OrderLevelsSaid : Prop := orderLevelsRow.holds Tryz.pinned (OpenSpec.ofChange orderLevelsSpec)

/-- ITS FALSE NEIGHBOUR: 'it returns false'. Refute it at one input. -/
def orderLevelsWrong : ChangeSpec := { name := "orderLevels", fn := fun _ => fun
  | [d1, d2] => { results := [.lit (.bool false)], args := [d1, d2] }
  | _ => none }
def OrderLevelsWrongFalsely : Prop := orderLevelsRow.holds Tryz.pinned (OpenSpec.ofChange orderLevelsWrong)

/-- 'riparianlaw15.OrderSorted': WHATEVER THE INPUT: true; the input reads as it did. -/
def orderSortedSpec : ChangeSpec := { name := "orderSorted", fn := fun _ => fun
  | [d1, d2] => { results := [.lit (.bool true)], args := [d1, d2] }
  | _ => none }
def orderSortedRow : OpenClaim := { program := "ytegomdgcijchcaagreatdoor", sum := "e13604484e4369384b9d30935eb64917402034558dd56d039cd1045f18871187", func := "riparian/riparianlaw15.OrderSorted", spec := "orderSorted", unfollowed := true, recurses := true, named := ["riparian/prog.calculations"], plainKeys := false, apart := false, laid := [("riparian/prog.calculations", laid_riparian_prog_calculations)] }
def OrderSortedSaid : Prop := orderSortedRow.holds Tryz.pinned (OpenSpec.ofChange orderSortedSpec)

/-- ITS FALSE NEIGHBOUR: 'it returns false'. Refute it at one input. -/
def orderSortedWrong : ChangeSpec := { name := "orderSorted", fn := fun _ => fun
  | [d1, d2] => { results := [.lit (.bool false)], args := [d1, d2] }
  | _ => none }
def OrderSortedWrongFalsely : Prop := orderSortedRow.holds Tryz.pinned (OpenSpec.ofChange orderSortedWrong)

/-- 'riparianlaw15.OrderReduced': WHATEVER THE INPUT: true; the input reads as it did. -/
def orderReducedSpec : ChangeSpec := { name := "orderReduced", fn := fun _ => fun
  | [d1, d2] => { results := [.lit (.bool true)], args := [d1, d2] }
  | _ => none }
def orderReducedRow : OpenClaim := { program := "ytegomdgcijchcaagreatdoor", sum := "e13604484e4369384b9d30935eb64917402034558dd56d039cd1045f18871187", func := "riparian/riparianlaw15.OrderReduced", spec := "orderReduced", unfollowed := true, recurses := true, named := ["riparian/prog.calculations"], plainKeys := false, apart := false, laid := [("riparian/prog.calculations", laid_riparian_prog_calculations)] }
def OrderReducedSaid : Prop := orderReducedRow.holds Tryz.pinned (OpenSpec.ofChange orderReducedSpec)

/-- ITS FALSE NEIGHBOUR: 'it returns false'. Refute it at one input. -/
def orderReducedWrong : ChangeSpec := { name := "orderReduced", fn := fun _ => fun
  | [d1, d2] => { results := [.lit (.bool false)], args := [d1, d2] }
  | _ => none }
def OrderReducedWrongFalsely : Prop := orderReducedRow.holds Tryz.pinned (OpenSpec.ofChange orderReducedWrong)

/-- 'riparianlaw15.OrderLeveled': WHATEVER THE INPUT: true; the input reads as it did. -/
def orderLeveledSpec : ChangeSpec := { name := "orderLeveled", fn := fun _ => fun
  | [d1, d2] => { results := [.lit (.bool true)], args := [d1, d2] }
  | _ => none }
def orderLeveledRow : OpenClaim := { program := "ytegomdgcijchcaagreatdoor", sum := "e13604484e4369384b9d30935eb64917402034558dd56d039cd1045f18871187", func := "riparian/riparianlaw15.OrderLeveled", spec := "orderLeveled", unfollowed := true, recurses := true, named := ["riparian/prog.calculations"], plainKeys := false, apart := false, laid := [("riparian/prog.calculations", laid_riparian_prog_calculations)] }
def OrderLeveledSaid : Prop := orderLeveledRow.holds Tryz.pinned (OpenSpec.ofChange orderLeveledSpec)

/-- ITS FALSE NEIGHBOUR: 'it returns false'. Refute it at one input. -/
def orderLeveledWrong : ChangeSpec := { name := "orderLeveled", fn := fun _ => fun
  | [d1, d2] => { results := [.lit (.bool false)], args := [d1, d2] }
  | _ => none }
def OrderLeveledWrongFalsely : Prop := orderLeveledRow.holds Tryz.pinned (OpenSpec.ofChange orderLeveledWrong)

/-- 'riparianlaw15.OrderClosed': WHATEVER THE INPUT: true; the input reads as it did. -/
def orderClosedSpec : ChangeSpec := { name := "orderClosed", fn := fun _ => fun
  | [d1, d2] => { results := [.lit (.bool true)], args := [d1, d2] }
  | _ => none }
def orderClosedRow : OpenClaim := { program := "ytegomdgcijchcaagreatdoor", sum := "e13604484e4369384b9d30935eb64917402034558dd56d039cd1045f18871187", func := "riparian/riparianlaw15.OrderClosed", spec := "orderClosed", unfollowed := true, recurses := true, named := ["riparian/prog.calculations"], plainKeys := false, apart := false, laid := [("riparian/prog.calculations", laid_riparian_prog_calculations)] }
def OrderClosedSaid : Prop := orderClosedRow.holds Tryz.pinned (OpenSpec.ofChange orderClosedSpec)

/-- ITS FALSE NEIGHBOUR: 'it returns false'. Refute it at one input. -/
def orderClosedWrong : ChangeSpec := { name := "orderClosed", fn := fun _ => fun
  | [d1, d2] => { results := [.lit (.bool false)], args := [d1, d2] }
  | _ => none }
def OrderClosedWrongFalsely : Prop := orderClosedRow.holds Tryz.pinned (OpenSpec.ofChange orderClosedWrong)

/- THE SECOND FORM. 'bulk': how many values and letters a reading holds, each counted each time it is reached (what is shared counts as often as it is met; a slice's spare places count too). A statement '..UptoSaid' is the law's where the arguments, and the package variables that the reading takes, are together of bulk at most 1048576: NARROWER than '..Said'. Prove '..Said' where nothing that the law and all that it calls make is longer than what came in: it says more and counts as full. Else prove '..UptoSaid'. A law counts once. -/
mutual
def uptoBulk {H : Type} : DataW H → Nat
  | .lit (.string bytes) => bytes.length + 1
  | .lit _ => 1
  | .nil => 1
  | .ptr d => uptoBulk d + 1
  | .slice elems spare => uptoBulkAll elems + uptoBulkAll spare + 1
  | .agg parts => uptoBulkAll parts + 1
  | .iface _ d => uptoBulk d + 1
  | .map entries => uptoBulkEntries entries + 1
  | .held _ => 1
def uptoBulkAll {H : Type} : List (DataW H) → Nat
  | [] => 0
  | d :: r => uptoBulk d + uptoBulkAll r
def uptoBulkEntries {H : Type} : List (Lit × DataW H) → Nat
  | [] => 0
  | x :: r => uptoBulkEntry x + uptoBulkEntries r
def uptoBulkEntry {H : Type} : Lit × DataW H → Nat
  | (.string bytes, d) => bytes.length + uptoBulk d + 1
  | (_, d) => uptoBulk d + 1
 end
def uptoSmall : (H : Type) → List (DataW H) → Bool := fun _ ds => decide (uptoBulkAll ds ≤ 1048576)
def OpenSpec.upto (s : _root_.Go.ChangeSpec) : _root_.Go.OpenSpec := { _root_.Go.OpenSpec.ofChange s with cond := some uptoSmall }

/-- 'riparianlaw15.OrderGraphs', WHERE WHAT IT READS IS OF BULK AT MOST 1048576: true; the input reads as it did. -/
def orderGraphsUptoRow : OpenClaim := { program := "ytegomdgcijchcaagreatdoor", sum := "e13604484e4369384b9d30935eb64917402034558dd56d039cd1045f18871187", func := "riparian/riparianlaw15.OrderGraphs", spec := "orderGraphs", unfollowed := true, recurses := true, named := ["riparian/prog.calculations"], plainKeys := false, apart := false, laid := [("riparian/prog.calculations", laid_riparian_prog_calculations)], narrowed := true }
def OrderGraphsUptoSaid : Prop := orderGraphsUptoRow.holds Tryz.pinned (OpenSpec.upto orderGraphsSpec)

/-- 'riparianlaw15.OrderLevels', WHERE WHAT IT READS IS OF BULK AT MOST 1048576: true; the input reads as it did. -/
def orderLevelsUptoRow : OpenClaim := { program := "ytegomdgcijchcaagreatdoor", sum := "e13604484e4369384b9d30935eb64917402034558dd56d039cd1045f18871187", func := "riparian/riparianlaw15.OrderLevels", spec := "orderLevels", unfollowed := true, recurses := true, named := ["riparian/prog.calculations"], plainKeys := false, apart := false, laid := [("riparian/prog.calculations", laid_riparian_prog_calculations)], narrowed := true }
def OrderLevelsUptoSaid : Prop := orderLevelsUptoRow.holds Tryz.pinned (OpenSpec.upto orderLevelsSpec)

/-- 'riparianlaw15.OrderSorted', WHERE WHAT IT READS IS OF BULK AT MOST 1048576: true; the input reads as it did. -/
def orderSortedUptoRow : OpenClaim := { program := "ytegomdgcijchcaagreatdoor", sum := "e13604484e4369384b9d30935eb64917402034558dd56d039cd1045f18871187", func := "riparian/riparianlaw15.OrderSorted", spec := "orderSorted", unfollowed := true, recurses := true, named := ["riparian/prog.calculations"], plainKeys := false, apart := false, laid := [("riparian/prog.calculations", laid_riparian_prog_calculations)], narrowed := true }
def OrderSortedUptoSaid : Prop := orderSortedUptoRow.holds Tryz.pinned (OpenSpec.upto orderSortedSpec)

/-- 'riparianlaw15.OrderReduced', WHERE WHAT IT READS IS OF BULK AT MOST 1048576: true; the input reads as it did. -/
def orderReducedUptoRow : OpenClaim := { program := "ytegomdgcijchcaagreatdoor", sum := "e13604484e4369384b9d30935eb64917402034558dd56d039cd1045f18871187", func := "riparian/riparianlaw15.OrderReduced", spec := "orderReduced", unfollowed := true, recurses := true, named := ["riparian/prog.calculations"], plainKeys := false, apart := false, laid := [("riparian/prog.calculations", laid_riparian_prog_calculations)], narrowed := true }
def OrderReducedUptoSaid : Prop := orderReducedUptoRow.holds Tryz.pinned (OpenSpec.upto orderReducedSpec)

/-- 'riparianlaw15.OrderLeveled', WHERE WHAT IT READS IS OF BULK AT MOST 1048576: true; the input reads as it did. -/
def orderLeveledUptoRow : OpenClaim := { program := "ytegomdgcijchcaagreatdoor", sum := "e13604484e4369384b9d30935eb64917402034558dd56d039cd1045f18871187", func := "riparian/riparianlaw15.OrderLeveled", spec := "orderLeveled", unfollowed := true, recurses := true, named := ["riparian/prog.calculations"], plainKeys := false, apart := false, laid := [("riparian/prog.calculations", laid_riparian_prog_calculations)], narrowed := true }
def OrderLeveledUptoSaid : Prop := orderLeveledUptoRow.holds Tryz.pinned (OpenSpec.upto orderLeveledSpec)

/-- 'riparianlaw15.OrderClosed', WHERE WHAT IT READS IS OF BULK AT MOST 1048576: true; the input reads as it did. -/
def orderClosedUptoRow : OpenClaim := { program := "ytegomdgcijchcaagreatdoor", sum := "e13604484e4369384b9d30935eb64917402034558dd56d039cd1045f18871187", func := "riparian/riparianlaw15.OrderClosed", spec := "orderClosed", unfollowed := true, recurses := true, named := ["riparian/prog.calculations"], plainKeys := false, apart := false, laid := [("riparian/prog.calculations", laid_riparian_prog_calculations)], narrowed := true }
def OrderClosedUptoSaid : Prop := orderClosedUptoRow.holds Tryz.pinned (OpenSpec.upto orderClosedSpec)

end Rows
end Go.Proofs.YtegomdgcijchcaaGreatDoor
