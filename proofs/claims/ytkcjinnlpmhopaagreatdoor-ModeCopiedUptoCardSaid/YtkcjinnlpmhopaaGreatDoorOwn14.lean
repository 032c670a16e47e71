/- RbE: the seat's program (round r3): sane, up to the loop over At: the first piece. -/
import Derived.Test.YtkcjinnlpmhopaaGreatDoorOwn13
namespace Go.Sx
open Go.Proofs
def NC1(f:Nat):Bool:=Nat.beq f 20||Nat.beq f 47
noncomputable def body5:Code:=(Tryz.f5.body).getD .skip
noncomputable def s5:NS:=⟨.leaf,baseT E2.gro,1000,none⟩
noncomputable def sJ5:NS:=⟨(T.leaf.upd (some (ptrTo 1057)) 1).upd (some (ptrTo 1058)) 2,
 ((baseT E2.gro).upd (some (.cells [.slice (some ⟨1039,0,none⟩) 1 1])) 1057).upd (some (.cells [.int .i64 1,.slice (some ⟨1056,0,none⟩) 1 1])) 1058,3000,none⟩
set_option maxRecDepth 1000000
theorem piece5:pieceL E2 (kexec E2 100000) NC1 10000 (takeC 5 body5) 156 (baseT E2.gro) 1000 s5 sJ5=true:=by kernel_rfl
end Go.Sx
