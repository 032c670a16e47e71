/- SzC: the seat's program: sane; a product. -/
import Derived.Test.YtegomdgcijchcaaGreatDoorOwn3
namespace Go.Sx
open Go.Proofs
def L9 : List (Ct × Value) := [(.nil, .bool true)]
set_option maxRecDepth 1000000
theorem c9 : callsOK (EE M5) 100000 9 L9 = true := by kernel_rfl
theorem sane_ok : MemoOk Tryz.prog Tryz.prog.globals.size gro0 9 .nil (.bool true) := EE_calls K5 c9 (.nil, .bool true) (List.mem_cons_self ..)

/- One times a small number. -/
def L128 : List (Ct × Value) := (List.range 61).map fun m : Nat => (.lit (.int .u64 1) (.lit (.int .u64 (m : Int)) .nil), .tuple #[.int .u64 0, .int .u64 (m : Int)])
theorem c128 : callsOK (EE M5) 100000 128 L128 = true := by kernel_rfl
end Go.Sx
