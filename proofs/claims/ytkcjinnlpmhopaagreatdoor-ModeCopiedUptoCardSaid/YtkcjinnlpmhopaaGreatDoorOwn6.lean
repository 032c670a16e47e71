/- RpQ: the law ModeParts: it returns true. -/
import Derived.Test.YtkcjinnlpmhopaaGreatDoorOwn5
namespace Go.Sx
open Go.Proofs
set_option maxRecDepth 100000
set_option maxHeartbeats 16000000
section
variable {l:List (FuncId×List (Ct×Value))}(hl:MemoK l)
include hl
end
end Go.Sx
