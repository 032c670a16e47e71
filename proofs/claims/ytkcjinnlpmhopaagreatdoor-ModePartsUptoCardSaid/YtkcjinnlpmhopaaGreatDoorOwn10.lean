/- RxA: the seat's functions that are only asked for what they return: shown. -/
import Derived.Test.YtkcjinnlpmhopaaGreatDoorOwn9
namespace Go.Sx.Az
set_option maxRecDepth 1000000
def s39:Spec:=⟨39,[.agg [.sl 0],.agg [I,.sl 2],.sl 13],ri⟩
def s37:Spec:=⟨37,[.agg [.str,I,I]],.bool⟩
theorem t37:Shown [s37]:= .one (.cons t67 t205) (fuel:=60) rfl (by kernel_rfl)
noncomputable def C1:Cfg:={C0 with lim:=1100000}
def s7:Spec:=⟨7,[.agg [.sl 12,.sl 8,.sl 9,.sl 7]],.bool⟩
def Shown1(T:List Spec):Prop:=∀ sp∈T,dR 4 sp.res=true∧∀ N,SpecAt C1 N sp
theorem lim1:C1.lim≤16000000:=by show(1100000:Nat)≤16000000;omega
theorem t7:Shown1 [s7]:=fun sp' hm=>by simp only[List.mem_cons,List.not_mem_nil,or_false] at hm;subst hm;exact⟨rfl,fun N=>spec_at lim1 (T1:=[]) (T2:=[]) (fuel:=60) (fun sp h=>by cases h) (fun sp h=>by cases h) (by kernel_rfl)⟩
end Go.Sx.Az
