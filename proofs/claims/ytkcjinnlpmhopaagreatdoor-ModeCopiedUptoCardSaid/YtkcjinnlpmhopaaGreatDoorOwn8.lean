/- RaB: the seat's functions that end, and what they return (given term.vars). -/
import Derived.Test.YtkcjinnlpmhopaaGreatDoorOwn7
namespace Go.Sx.Az
set_option maxRecDepth 1000000
def I:AT:= .int .i64
def sy:AT:= .agg [.str,I]
def ri:RT:= .int .i64
def rtm:RT:= .agg [ri,ri,.str,.sl 2]
def fa:AT:= .agg [.nilf,.fn 202 [.cellp [.fn 201 []]],.fn 203 [.cellp [.fn 201 []]],.fn 204 [.cellp [.fn 201 []]],.fn 206 [.cellp [.fn 201 []]],.fn 207 [.cellp [.fn 201 []]],.fn 208 [.cellp [.fn 201 []]]]
def s145:Spec:=⟨145,[tm,.str,I],.bool⟩
def s195:Spec:=⟨195,[tm,.str],.bool⟩
def s193:Spec:=⟨193,[tm],.tup [.agg [.str,ri],.bool]⟩
def s205:Spec:=⟨205,[.str],.bool⟩
def s209:Spec:=⟨209,[.str],.bool⟩
def s210:Spec:=⟨210,[sy],.bool⟩
def s274:Spec:=⟨274,[tm],.bool⟩
def s263:Spec:=⟨263,[tm],.bool⟩
def s146:Spec:=⟨146,[tm],ri⟩
def s109:Spec:=⟨109,[tm],.tup [ri,ri,rtm]⟩
def s155:Spec:=⟨155,[tm,I,I,fa],ri⟩
def s115:Spec:=⟨115,[.sl 2],ri⟩
def s115v:Spec:=⟨115,[.vs 2 200000],ri⟩
def s67:Spec:=⟨67,[tm],ri⟩
def s229:Spec:=⟨229,[tm],.tup [ri,ri]⟩
def s187:Spec:=⟨187,[.sl 2],ri⟩
def s187v:Spec:=⟨187,[.vs 2 200000],ri⟩
def s186:Spec:=⟨186,[.sl 2],.fresh 3 5000⟩
def s186v:Spec:=⟨186,[.vs 2 200000],.fresh 3 900000000⟩
def s141:Spec:=⟨141,[.sl 2],.tup [.fresh 3 5000,ri]⟩
def s141v:Spec:=⟨141,[.vs 2 200000],.tup [.fresh 3 900000000,ri]⟩
def s188:Spec:=⟨188,[.sl 2,I],.bool⟩
def s188v:Spec:=⟨188,[.vs 2 200000,I],.bool⟩
def s240:Spec:=⟨240,[cl],.fresh 2 200000⟩
def s239:Spec:=⟨239,[cl,I],.bool⟩
def s211:Spec:=⟨211,[cl,I],.bool⟩
def s191:Spec:=⟨191,[.sl 2],.fresh 4 200000⟩
def s73:Spec:=⟨73,[.agg [.sl 0]],ri⟩
def s57:Spec:=⟨57,[.agg [.sl 0],.agg [I,.sl 2]],ri⟩
def s59:Spec:=⟨59,[tm],.tup [ri,ri,rtm]⟩
def s120:Spec:=⟨120,[.sl 2],ri⟩
def Shown(T:List Spec):Prop:=∀ sp∈T,dR 4 sp.res=true∧∀ N,SpecAt C0 N sp
theorem lim0:C0.lim≤16000000:=by show(4400:Nat)≤16000000;omega
theorem Shown.nil:Shown []:=fun sp h=>by cases h
theorem Shown.of{T1:List Spec}(h1:Shown T1){fuel:Nat}{T2:List Spec}(h:T2.all (fun sp=>dR 4 sp.res&&specChk C0 T1 T2 fuel sp)=true):Shown T2:=specs_all lim0 h1 h
theorem Shown.one{T1:List Spec}(h1:Shown T1){fuel:Nat}{sp:Spec}(hd:dR 4 sp.res=true)(h:specChk C0 T1 [] fuel sp=true):Shown [sp]:=fun sp' hm=>by simp only[List.mem_cons,List.not_mem_nil,or_false] at hm;subst hm;exact⟨hd,fun N=>spec_at lim0 h1 (fun sp h=>by cases h) h⟩
theorem Shown.cons{a:Spec}{T:List Spec}(h1:Shown [a])(h2:Shown T):Shown (a :: T):=specs_app h1 h2
theorem t145:Shown [s145]:= .one .nil (fuel:=60) rfl (by kernel_rfl)
theorem t195:Shown [s195]:= .one .nil (fuel:=60) rfl (by kernel_rfl)
theorem t193:Shown [s193]:= .one .nil (fuel:=60) rfl (by kernel_rfl)
theorem t205:Shown [s205]:= .one .nil (fuel:=60) rfl (by kernel_rfl)
theorem t209:Shown [s209]:= .one .nil (fuel:=60) rfl (by kernel_rfl)
theorem t210:Shown [s210]:= .one .nil (fuel:=60) rfl (by kernel_rfl)
theorem t274:Shown [s274]:= .of .nil (fuel:=60) (by kernel_rfl)
theorem t263:Shown [s263]:= .one (.cons t145 (.cons t195 t274)) (fuel:=60) rfl (by kernel_rfl)
theorem t146:Shown [s146]:= .one (.cons t145 (.cons t195 (.cons t193 t210))) (fuel:=60) rfl (by kernel_rfl)
theorem t109:Shown [s109]:= .one (.cons t195 t146) (fuel:=60) rfl (by kernel_rfl)
theorem t155:Shown [s155]:= .of t205 (fuel:=60) (by kernel_rfl)
theorem t115:Shown [s115]:= .one (.cons t205 t155) (fuel:=60) rfl (by kernel_rfl)
theorem t115v:Shown [s115v]:= .one (.cons t205 t155) (fuel:=60) rfl (by kernel_rfl)
theorem t67:Shown [s67]:= .one (.cons t205 (.cons t155 (.cons t115 t115v))) (fuel:=60) rfl (by kernel_rfl)
theorem t229:Shown [s229]:= .of .nil (fuel:=60) (by kernel_rfl)
theorem t187:Shown [s187]:= .one t229 (fuel:=60) rfl (by kernel_rfl)
theorem t187v:Shown [s187v]:= .one t229 (fuel:=60) rfl (by kernel_rfl)
theorem t240:Shown [s240]:= .one .nil (fuel:=60) rfl (by kernel_rfl)
theorem t191:Shown [s191]:= .one (.cons t109 t193) (fuel:=60) rfl (by kernel_rfl)
theorem t59:Shown [s59]:= .one (.cons t67 t109) (fuel:=60) rfl (by kernel_rfl)
theorem t120:Shown [s120]:= .one t59 (fuel:=60) rfl (by kernel_rfl)
section
variable (hv:Shown [s186])(hw:Shown [s186v])
include hv
theorem t141:Shown [s141]:= .one (.cons t115 hv) (fuel:=60) rfl (by kernel_rfl)
theorem t188:Shown [s188]:= .one (t141 hv) (fuel:=60) rfl (by kernel_rfl)
omit hv
include hw
theorem t141v:Shown [s141v]:= .one (.cons t115v hw) (fuel:=60) rfl (by kernel_rfl)
theorem t188v:Shown [s188v]:= .one (t141v hw) (fuel:=60) rfl (by kernel_rfl)
include hv
theorem t239:Shown [s239]:= .one (.cons t240 (.cons t115v (.cons t187v (.cons (t141 hv) (.cons (t141v hw) (.cons t263 t109)))))) (fuel:=60) rfl (by kernel_rfl)
theorem t211:Shown [s211]:= .one (.cons t240 (.cons (t239 hv hw) (t188v hw))) (fuel:=60) rfl (by kernel_rfl)
theorem t73:Shown [s73]:= .one (.cons t209 (.cons t210 (.cons (t211 hv hw) t191))) (fuel:=80) rfl (by kernel_rfl)
theorem t57:Shown [s57]:= .one (.cons t209 (.cons t210 (.cons (t211 hv hw) (.cons t191 (.cons t115 (.cons t187 (.cons (t188 hv) t109))))))) (fuel:=80) rfl (by kernel_rfl)
end
end Go.Sx.Az
