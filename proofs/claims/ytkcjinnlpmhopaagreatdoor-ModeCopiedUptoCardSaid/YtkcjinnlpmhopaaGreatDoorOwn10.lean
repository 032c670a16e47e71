/- RxA: the seat's functions that are only asked for what they return: shown. -/
import Derived.Test.YtkcjinnlpmhopaaGreatDoorOwn9
namespace Go.Sx.Az
set_option maxRecDepth 1000000
def s39:Spec:=⟨39,[.agg [.sl 0],.agg [I,.sl 2],.sl 13],ri⟩
def s37:Spec:=⟨37,[.agg [.str,I,I]],.bool⟩
theorem t37:Shown [s37]:= .one (.cons t67 t205) (fuel:=60) rfl (by kernel_rfl)
end Go.Sx.Az
