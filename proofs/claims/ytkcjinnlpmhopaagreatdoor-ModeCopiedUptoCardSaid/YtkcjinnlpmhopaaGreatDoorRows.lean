/-
  NARROWER THAN 'FOR EVERY INPUT', by the rows' own cells (each row's printed sentence says how): ModeParts: loops, laid · ModeCopied: loops, laid.
  DERIVED. THE GIVEN ROWS OF THIS SEAT. 2 by the template 'for every input the law returns true; each argument reads behind the call as it read before'; 0 by the template 'total and deterministic' (their statements: YtkcjinnlpmhopaaGreatDoorTotals.lean).
  GIVEN WITH THE SEED: the statements are not yours to turn. If you find one false, say at which input.
  Laid BY PROGRAM, IN A SANDBOX (cutbox-rows.mjs): the forced cells as the released guide's own fill.sh prints them over the translation cf6152002bb2e496… (all of the seat's roots in one cut). By AI agents, Wed Nov 11 2026. No macro, syntax, notation, axiom, sorry.
-/
import Derived.Test.YtkcjinnlpmhopaaGreatDoorChecked
import GoSem.Claim
import GoSem.ClaimJoined
import GoSem.ClaimMapViews
import Derived.JoinedTies
import Derived.KernelRfl
namespace Go.Proofs.YtkcjinnlpmhopaaGreatDoor
/- THE CELL 'sum', in the pinned program and in every row, IS THE sha256 OF THE DUMP (.gsa) THAT YtkcjinnlpmhopaaGreatDoorProg.lean LOADS. Nothing in Lean hashes anything: it is a label: what it is worth is what the hold of that sum in a sandbox is worth. -/
noncomputable def Tryz.pinned : Pinned := { name := "ytkcjinnlpmhopaagreatdoor", sum := "cf6152002bb2e49688b1558aab678988dddc5ac961519a0f700671692fe59924", checked := Tryz.checked }
namespace Rows
def none {H : Type} : Left H := { results := [], args := [] }

/- WHAT THE LISTED PACKAGE-LEVEL VARIABLES READ AS WHEN THE CALL BEGINS. Each datum BY PROGRAM (the guide's laid-datum.mjs) off the statement by which the dump's own 'gosem.cut.vars' lays the variable. In a bare row this is a premise. The card (YtkcjinnlpmhopaaGreatDoorCards.lean) ties it to the program's text. -/
def laid_riparian_prog_calculations {H : Type} : DataW H := .agg [.lit (.string [43]), .lit (.string [45]), .lit (.string [42]), .lit (.string [47]), .lit (.string [109, 111, 100]), .lit (.string [45])]

/-- 'riparianlaw10.ModeParts': WHATEVER THE INPUT: true; the input reads as it did. -/
def modePartsSpec : ChangeSpec := { name := "modeParts", fn := fun _ => fun
  | [d1, d2, d3, d4, d5, d6] => { results := [.lit (.bool true)], args := [d1, d2, d3, d4, d5, d6] }
  | _ => none }
def modePartsRow : OpenClaim := { program := "ytkcjinnlpmhopaagreatdoor", sum := "cf6152002bb2e49688b1558aab678988dddc5ac961519a0f700671692fe59924", func := "riparian/riparianlaw10.ModeParts", spec := "modeParts", inPlace := ["maps.clone"], unfollowed := true, recurses := true, named := ["riparian/prog.calculations"], loops := true, plainKeys := false, apart := false, laid := [("riparian/prog.calculations", laid_riparian_prog_calculations)] }
def ModePartsSaid : Prop := modePartsRow.holds Tryz.pinned (OpenSpec.ofChange modePartsSpec)

/-- ITS FALSE NEIGHBOUR: 'it returns false'. Refute it at one input. -/
def modePartsWrong : ChangeSpec := { name := "modeParts", fn := fun _ => fun
  | [d1, d2, d3, d4, d5, d6] => { results := [.lit (.bool false)], args := [d1, d2, d3, d4, d5, d6] }
  | _ => none }
def ModePartsWrongFalsely : Prop := modePartsRow.holds Tryz.pinned (OpenSpec.ofChange modePartsWrong)

/-- 'riparianlaw10.ModeCopied': WHATEVER THE INPUT: true; the input reads as it did. -/
def modeCopiedSpec : ChangeSpec := { name := "modeCopied", fn := fun _ => fun
  | [d1, d2, d3, d4, d5, d6, d7, d8] => { results := [.lit (.bool true)], args := [d1, d2, d3, d4, d5, d6, d7, d8] }
  | _ => none }
def modeCopiedRow : OpenClaim := { program := "ytkcjinnlpmhopaagreatdoor", sum := "cf6152002bb2e49688b1558aab678988dddc5ac961519a0f700671692fe59924", func := "riparian/riparianlaw10.ModeCopied", spec := "modeCopied", inPlace := ["maps.clone"], unfollowed := true, recurses := true, named := ["riparian/prog.calculations"], loops := true, plainKeys := false, apart := false, laid := [("riparian/prog.calculations", laid_riparian_prog_calculations)] }
def ModeCopiedSaid : Prop := modeCopiedRow.holds Tryz.pinned (OpenSpec.ofChange modeCopiedSpec)

/-- ITS FALSE NEIGHBOUR: 'it returns false'. Refute it at one input. -/
def modeCopiedWrong : ChangeSpec := { name := "modeCopied", fn := fun _ => fun
  | [d1, d2, d3, d4, d5, d6, d7, d8] => { results := [.lit (.bool false)], args := [d1, d2, d3, d4, d5, d6, d7, d8] }
  | _ => none }
def ModeCopiedWrongFalsely : Prop := modeCopiedRow.holds Tryz.pinned (OpenSpec.ofChange modeCopiedWrong)

/- THE SECOND FORM. 'bulk': how many values and letters a reading holds, each counted each time it is reached (what is shared counts as often as it is met; a slice's spare places count too). A statement '..UptoSaid' is the law's where the arguments, and the package variables that the reading takes, are together of bulk at most 1048576: NARROWER than '..Said'. Prove '..Said' where nothing that the law and all that it calls make is longer than what came in: it says more and counts as full. Else prove '..UptoSaid'. A law counts once. -/
mutual
def uptoBulk {H : Type} : DataW H → Nat
  | .lit (.string bytes) => bytes.length + 1
  | .lit _ => 1
  | .nil => 1
  | .ptr d => uptoBulk d + 1
  | .slice elems spare => uptoBulkAll elems + uptoBulkAll spare + 1
  | .agg parts => uptoBulkAll parts + 1
  | .iface _ d => uptoBulk d + 1
  | .map entries => uptoBulkEntries entries + 1
  | .held _ => 1
def uptoBulkAll {H : Type} : List (DataW H) → Nat
  | [] => 0
  | d :: r => uptoBulk d + uptoBulkAll r
def uptoBulkEntries {H : Type} : List (Lit × DataW H) → Nat
  | [] => 0
  | x :: r => uptoBulkEntry x + uptoBulkEntries r
def uptoBulkEntry {H : Type} : Lit × DataW H → Nat
  | (.string bytes, d) => bytes.length + uptoBulk d + 1
  | (_, d) => uptoBulk d + 1
 end
def uptoSmall : (H : Type) → List (DataW H) → Bool := fun _ ds => decide (uptoBulkAll ds ≤ 1048576)
def OpenSpec.upto (s : _root_.Go.ChangeSpec) : _root_.Go.OpenSpec := { _root_.Go.OpenSpec.ofChange s with cond := some uptoSmall }

/-- 'riparianlaw10.ModeParts', WHERE WHAT IT READS IS OF BULK AT MOST 1048576: true; the input reads as it did. -/
def modePartsUptoRow : OpenClaim := { program := "ytkcjinnlpmhopaagreatdoor", sum := "cf6152002bb2e49688b1558aab678988dddc5ac961519a0f700671692fe59924", func := "riparian/riparianlaw10.ModeParts", spec := "modeParts", inPlace := ["maps.clone"], unfollowed := true, recurses := true, named := ["riparian/prog.calculations"], loops := true, plainKeys := false, apart := false, laid := [("riparian/prog.calculations", laid_riparian_prog_calculations)], narrowed := true }
def ModePartsUptoSaid : Prop := modePartsUptoRow.holds Tryz.pinned (OpenSpec.upto modePartsSpec)

/-- 'riparianlaw10.ModeCopied', WHERE WHAT IT READS IS OF BULK AT MOST 1048576: true; the input reads as it did. -/
def modeCopiedUptoRow : OpenClaim := { program := "ytkcjinnlpmhopaagreatdoor", sum := "cf6152002bb2e49688b1558aab678988dddc5ac961519a0f700671692fe59924", func := "riparian/riparianlaw10.ModeCopied", spec := "modeCopied", inPlace := ["maps.clone"], unfollowed := true, recurses := true, named := ["riparian/prog.calculations"], loops := true, plainKeys := false, apart := false, laid := [("riparian/prog.calculations", laid_riparian_prog_calculations)], narrowed := true }
def ModeCopiedUptoSaid : Prop := modeCopiedUptoRow.holds Tryz.pinned (OpenSpec.upto modeCopiedSpec)

end Rows
end Go.Proofs.YtkcjinnlpmhopaaGreatDoor
