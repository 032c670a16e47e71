/- RbF: the seat's program (round r3): sane, behind the loop over At: the last piece; sane is true. -/
import Derived.Test.YtkcjinnlpmhopaaGreatDoorOwn14
namespace Go.Sx
open Go.Proofs
set_option maxRecDepth 1000000
theorem last5:lastN E2 (kexec E2 100000) NC1 10000 Tryz.f5 (dropC 5 body5) 156 sJ5 (.bool true)=true:=by kernel_rfl
theorem fn5:E2.fn.get 5=some Tryz.f5:=by kernel_rfl
theorem sane_ok:MemoOk Tryz.prog Tryz.prog.globals.size gro0 5 .nil (.bool true):=by obtain⟨outs,h1,h2⟩:=NAt.last K2' mixed0 R2 (baseT E2.gro) 1000 last5;exact call_pieces K2' fn5 (c:=body5) rfl rfl rfl (by have:=glob0;rw[bleT] at this;exact this) gro0_ok rfl h1 (NAt.cut K2' mixed0 R2 5 piece5 h2)
end Go.Sx
