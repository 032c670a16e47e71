/- RbC: the seat's program (round r3): maps.Clone. -/
import Derived.Test.YtkcjinnlpmhopaaGreatDoorOwn12
import Derived.Laws.Externs
import Derived.MapKept
import Derived.WalkKit
namespace Go.Sx
open Go.Proofs Go.RowKit
section
variable {P:Program}(w:World)
theorem eql_map_nil(t k e:TypeId)(p:Option Nat)(h:P.underlying t=some (.map k e)):(binOp .eql t (.map p) (.map none)).run P w= .ok (.bool p.isNone) w:=by
 have h1:∀ d,(Op.equalIn (d+1) t (.map p) (.map none)).run P w= .ok p.isNone w:=fun d=>by cases p<;>simp[Op.equalIn,run_underlying h]
 simp only[binOp];simp[show Op.equal t (.map p) (.map none)=Op.equalIn (9999+1) t (.map p) (.map none) from rfl,h1 9999]
theorem assert_map(t xT k e:TypeId)(v:Value)(h:P.underlying t=some (.map k e)):(Instr.typeAssert (.iface t v) xT t false).run P w= .ok v w:=by simp[Instr.typeAssert,run_underlying h,go_sem,Result.andThen]
theorem run_clone{r:Nat}{es:Array MapEntry}{clock:Nat}(t:TypeId)(hb:w.heap[r]? =some (.map es clock)) :
 (Extern.MapsClone.clone #[.iface t (.map (some r))]).run P w= .ok (.iface t (.map (some w.heap.size))) (w.alloc (.map es clock)):=by
 have e:Extern.MapsClone.clone #[.iface t (.map (some r))]=(getObj r >>= fun o=>match o with
  | .map entries clock=>(newObj (.map entries clock) >>= fun n=>pure (.iface t (.map (some n))))
  | _=>stuck "maps.clone: a map expected"):=rfl
 rw[e];simp[MapKept.run_getObj_map hb,Result.andThen,go_sem]
end
set_option maxRecDepth 100000 in
set_option maxHeartbeats 2000000 in
theorem clone_some(b:Nat)(es:Array MapEntry)(clock:Nat)(w:World)(hb:w.heap[b]? =some (.map es clock)) :
 Calls Tryz.prog 171 #[.map (some b)] w fun e w'=>e= .returned (.map (some w.heap.size))∧w'=w.alloc (.map es clock):=by
 have hq:=fun w=>eql_map_nil (P:=Tryz.prog) w 155 _ _ (some b) Tryz.underlying155
 go_enter Tryz.func171,Tryz.ntmps171
 go_wp2
 rw[run_callFunc_extern Tryz.func221 (by kernel_rfl) (by kernel_rfl) (by kernel_rfl) (e:=Extern.MapsClone.clone) (by kernel_rfl),run_clone w 155 hb];simp only[Result.andThen];rw[Oper.upon_value]
 go_wp2
 rw[assert_map _ 155 20 _ _ _ Tryz.underlying155];simp only[Result.andThen];rw[Oper.upon_value]
 go_wp2
 go_ret
 exact⟨rfl,rfl⟩
set_option maxRecDepth 100000 in
set_option maxHeartbeats 2000000 in
theorem clone_none(w:World):Calls Tryz.prog 171 #[.map none] w fun e w'=>e= .returned (.map none)∧w'=w:=by
 have hq:=fun w=>eql_map_nil (P:=Tryz.prog) w 155 _ _ none Tryz.underlying155
 go_enter Tryz.func171,Tryz.ntmps171
 go_wp2
 go_ret
 exact⟨rfl,rfl⟩
end Go.Sx
namespace Go.Sx
open Go.Proofs
noncomputable def cloneA(args:List Value)(h:T Blk)(n:Nat):Option (Value×T Blk×Nat) :=
 match args with
 | [.map none]=>some (.map none,h,n)
 | [.map (some r)]=>(match h.get r with|some (.map es)=>some (.map (some n),h.upd (some (.map es)) n,n+1)|_=>none)
 | _=>none
theorem cloneA_ok{args:List Value}{h:T Blk}{n:Nat}{r:Value×T Blk×Nat}(hx:cloneA args h n=some r)(G:Gh)(ρ:Ren)(ys:Array Value)(w:World)(H:St G ρ h n w)(hl:LRel ρ args ys.toList) :
 CallsIn Fence.wide 0 Tryz.prog 171 ys w (fun e w'=>∃ y ρ',e= .returned y∧VRel ρ' r.1 y∧Stp G ρ h n ρ' r.2.1 r.2.2 w'):=by
 unfold cloneA at hx;split at hx
 ·cases hx;obtain⟨y,l',e1,h1,h2⟩:=hl.cons_left;have e2:=h2.nil_left;subst e2;cases h1;have:ys=#[.map none]:=Array.toList_inj.1 e1;subst this;refine callsIn_wide.2 ((clone_none w).mono fun e w' he=>?_);obtain⟨rfl,rfl⟩:=he;exact⟨_,ρ,rfl,.map0,.refl H⟩
 ·rename_i r';split at hx
  ·rename_i es hes;cases hx;obtain⟨y,l',e1,h1,h2⟩:=hl.cons_left;have e2:=h2.nil_left;subst e2;cases h1 with
   | map hρ =>
     rename_i L;have:ys=#[.map (some L.blk)]:=Array.toList_inj.1 e1;subst this;obtain⟨ents,clock,hh,⟨r1,es',r2,r3,r4⟩,hst⟩:=H.wr.blk r' L _ hρ hes;refine callsIn_wide.2 ((clone_some L.blk ents clock w hh).mono fun e w' he=>?_);obtain⟨rfl,rfl⟩:=he;have hx:Ext ρ (ρ.add n ⟨w.heap.size,0,0⟩):=Ext.add _ (H.fr n (nlR n));exact⟨_,_,rfl,.map (Ren.add_same ρ n _),H.alloc rfl (HPush.mk' w _) ⟨ents,clock,rfl,⟨r1,es',r2,r3,r4.mono hx⟩,hst⟩⟩
  ·cases hx
 ·cases hx
noncomputable def E1:Env:={EE M3 with ext:=fun f args h n=>bif Nat.beq f 171 then cloneA args h n else none}
theorem K1':EOk E1 Tryz.prog:=eok_ext K3 fun f args h n r hr G ρ ys w hg H hl=>by
 simp only[biE,beqT] at hr;split at hr
 ·rename_i e;subst e;exact cloneA_ok hr G ρ ys w H hl
 ·cases hr
noncomputable def E2:Env:={EE M3 with ext:=fun f args h n=>bif Nat.beq f 171 then cloneA args h n else bif Nat.beq f 132 then extJ E1 (kexec E1 100000) (fun _=>false) 10000 132 args h n else none}
theorem R1:RunOk E1 Tryz.prog (kexec E1 100000):=by rw[kexec_eq];exact sx_sim K1' mixed0 _
theorem K2':EOk E2 Tryz.prog:=eok_ext K3 fun f args h n r hr G ρ ys w hg H hl=>by
 simp only[biE,beqT] at hr;split at hr
 ·rename_i e;subst e;exact cloneA_ok hr G ρ ys w H hl
 ·split at hr
  ·rename_i e;subst e;exact extJ_ok K1' mixed0 R1 hr G ρ ys w hg H hl
  ·cases hr
theorem R2:RunOk E2 Tryz.prog (kexec E2 100000):=by rw[kexec_eq];exact sx_sim K2' mixed0 _
end Go.Sx
namespace Go.Sx
def subO:Option Value→Option Value→Bool
 | none,_=>true
 | some v,some v'=>sameV 8 v v'
 | some _,none=>false
noncomputable def subT(x:T Value):T Value→Bool :=
 T.rec (motive:=fun _=>T Value→Bool) (fun _=>true)
  (fun _ v _ il ir y=>subO v y.top&&(il y.lft&&ir y.rgt)) x
theorem subT_spec:∀ {x y:T Value},subT x y=true→∀ (p:Pth) v,x.getP p=some v→y.getP p=some v
 | .leaf,_,_,_,_,h=>by cases h
 | .node l u r,y,h,p,v,hv=>by
   have h':(subO u y.top&&(subT l y.lft&&subT r y.rgt))=true:=h;simp only[baT] at h';obtain⟨h1,h2,h3⟩:=h';cases p with
   | z =>
     have hv':u=some v:=hv;subst hv';rw[T.getP_top] at h1;cases hy:y.getP .z with
     | none=>rw[hy] at h1;cases h1
     | some v' =>
       rw[hy] at h1;rw[sameV_eq 8 _ _ h1]
   | l p=>have:=subT_spec h2 p v hv;rwa [T.getP_lft] at this
   | r p=>have:=subT_spec h3 p v hv;rwa [T.getP_rgt] at this
noncomputable def lessN(h0:T Blk)(n0:Nat)(s s':NS):Bool :=
 (match s.it,s'.it with|none,none=>true|_,_=>false)&&(subT s'.t s.t&&(Nat.ble s.n s'.n&&chkT (joinB n0) s.h 1 0 s'.h h0))
theorem RN.less{G:Gh}{ρ0:Ren}{h0:T Blk}{n0 many:Nat}{s s':NS}{a:Act}{w:World}(H:RN G ρ0 h0 n0 many s a w)(hc:lessN h0 n0 s s'=true):RN G ρ0 h0 n0 many s' a w:=by
 obtain⟨t,h,n,it⟩:=s;obtain⟨t',h',n',it'⟩:=s';simp only[lessN,baT,bleT] at hc;obtain⟨c1,c2,c3,c4⟩:=hc;cases it<;>cases it'<;>first|cases c1|skip
 obtain⟨ρ,ha,hs,_⟩:=H;exact⟨ρ,⟨fun x v hx=>ha.tr x v (subT_spec c2 _ v hx),ha.size,ha.defs⟩,join_stp hs c3 c4,fun it e=>by cases e⟩
def NAt(E:Env)(P:Program)(c:Code)(many:Nat)(h0:T Blk)(n0:Nat)(s:NS)(outs:List (Ex×NS)):Prop :=
 ∀ (G:Gh) (ρ0:Ren) (a:Act) (w:World),E.glob≤G.ng→RN G ρ0 h0 n0 many s a w→c.wpIn (Fr none) 0 P (PostN G ρ0 h0 n0 many outs) a w
theorem NAt.run{E:Env}{P:Program}(K:EOk E P)(hm:P.follows .mixedOrders=true){ih:Run}(hR:RunOk E P ih){NC:Nat→Bool}{fuel:Nat}{c:Code}{many:Nat}{s:NS}{outs:List (Ex×NS)}(h0:T Blk)(n0:Nat)
 (hx:execN E ih NC fuel c many s=some outs):NAt E P c many h0 n0 s outs :=
 fun G ρ0 a w hg H=>(execN_sim K hm hR fuel).1 c many s outs hx G ρ0 h0 n0 a w hg H
def takeC:Nat→Code→List Code
 | k+1,.seq x y=>x :: takeC k y
 | _,_=>[]
def dropC:Nat→Code→Code
 | k+1,.seq _ y=>dropC k y
 | _,c=>c
def glueC:List Code→Code→Code
 | [],c=>c
 | x :: l,c=> .seq x (glueC l c)
theorem glue_take:∀ (k:Nat)(c:Code),glueC (takeC k c) (dropC k c)=c:=by
 intro k
 induction k with
 | zero=>intro c;rfl
 | succ k ih=>intro c;cases c<;>first|rfl|exact congrArg _ (ih _)
noncomputable def runL(E:Env)(ih:Run)(NC:Nat→Bool)(fuel many:Nat):List Code→NS→Option (List (Ex×NS))
 | [],s=>some [(.normal,s)]
 | c :: l,s =>
   match execN E ih NC fuel c many s with
   | some outs=>bindO (fun r=>match r.1 with| .normal=>runL E ih NC fuel many l r.2|_=>none) outs
   | none=>none
noncomputable def pieceL(E:Env)(ih:Run)(NC:Nat→Bool)(fuel:Nat)(l:List Code)(many:Nat)(h0:T Blk)(n0:Nat)(s sJ:NS):Bool :=
 match runL E ih NC fuel many l s with
 | some outs=>outs.all fun r=>lessN h0 n0 r.2 sJ
 | none=>false
theorem NAt.runL{E:Env}{P:Program}(K:EOk E P)(hm:P.follows .mixedOrders=true){ih:Run}(hR:RunOk E P ih){NC:Nat→Bool}{fuel many:Nat}{h0:T Blk}{n0:Nat}{sJ:NS}{c:Code}{o:List (Ex×NS)}(h2:NAt E P c many h0 n0 sJ o):∀ {l:List Code}{s:NS}{outs:List (Ex×NS)},
 Go.Sx.runL E ih NC fuel many l s=some outs→(∀ r∈outs,lessN h0 n0 r.2 sJ=true)→NAt E P (glueC l c) many h0 n0 s o:=by
 intro l
 induction l with
 | nil =>
   intro s outs hx hall G ρ0 a w hg H;cases hx;exact h2 G ρ0 a w hg (H.less (hall _ (mcS ..)))
 | cons x l ih =>
   intro s outs hx hall G ρ0 a w hg H;simp only[Go.Sx.runL] at hx;split at hx
   ·rename_i o1 h1;refine wpIn_seq (wpIn_mono (NAt.run K hm hR h0 n0 h1 G ρ0 a w hg H) fun e' a' w' hp=>?_);obtain⟨r,hr,q1,q2⟩:=hp;obtain⟨y,k1,k2⟩:=bindO_mem hx r hr;split at k1
    ·rename_i he;rw[he] at q1;cases e'<;>first|exact q1.elim|skip
     exact ih k1 (fun r hr=>hall r (k2 r hr)) G ρ0 a' w' hg q2
    ·cases k1
   ·cases hx
theorem NAt.cut{E:Env}{P:Program}(K:EOk E P)(hm:P.follows .mixedOrders=true){ih:Run}(hR:RunOk E P ih){NC:Nat→Bool}{fuel many:Nat}{h0:T Blk}{n0:Nat}{s sJ:NS}{c:Code}{o:List (Ex×NS)}(k:Nat)
 (hx:pieceL E ih NC fuel (takeC k c) many h0 n0 s sJ=true) (h2:NAt E P (dropC k c) many h0 n0 sJ o):NAt E P c many h0 n0 s o:=by
 unfold pieceL at hx;split at hx
 ·rename_i outs hl;have:=NAt.runL K hm hR h2 hl (List.all_eq_true.1 hx)
  rwa [glue_take] at this
 ·cases hx
noncomputable def lastN(E:Env)(ih:Run)(NC:Nat→Bool)(fuel:Nat)(fn:Func)(c:Code)(many:Nat)(s:NS)(v:Value):Bool :=
 match execN E ih NC fuel c many s with
 | some l=>l.all fun r=>(match r.1,r.2.it with| .exit _,_=>false|_,some _=>false|_,none=>true)&&(match resA E fn r.2.t r.2.h with|some u=>sameV 6 v u|none=>false)
 | none=>false
def NRet(E:Env)(fn:Func)(v:Value)(outs:List (Ex×NS)):Prop :=
 ∀ r∈outs,(r.1= .normal∨r.1= .ret)∧r.2.it=none∧resA E fn r.2.t r.2.h=some v
theorem NAt.last{E:Env}{P:Program}(K:EOk E P)(hm:P.follows .mixedOrders=true){ih:Run}(hR:RunOk E P ih){NC:Nat→Bool}{fuel:Nat}{fn:Func}{c:Code}{many:Nat}{s:NS}{v:Value}(h0:T Blk)(n0:Nat)
 (hx:lastN E ih NC fuel fn c many s v=true):∃ outs,NRet E fn v outs∧NAt E P c many h0 n0 s outs:=by
 unfold lastN at hx;split at hx
 ·rename_i l hl;refine⟨l,fun r hr=>?_,NAt.run K hm hR h0 n0 hl⟩;have:=List.all_eq_true.1 hx r hr;simp only[baT] at this;obtain⟨c1,c2⟩:=this;refine⟨?_,?_,?_⟩
  ·cases hr1:r.1 with
   | normal=>exact .inl rfl
   | ret=>exact .inr rfl
   | exit i=>rw[hr1] at c1;cases c1
  ·cases hit:r.2.it with
   | none=>rfl
   | some it=>rw[hit] at c1;cases hr1:r.1<;>rw[hr1] at c1<;>cases c1
  ·split at c2
   ·rename_i u hu;rw[sameV_eq 6 _ _ c2];exact hu
   ·cases c2
 ·cases hx
theorem call_pieces{E:Env}{P:Program}(K:EOk E P){f:FuncId}{fn:Func}(hfn:E.fn.get f=some fn){c:Code}(hbody:fn.body=some c){ct:Ct}{v:Value}(hok:okC ct=true)(hv:lit 6 v=true)(hgl:E.glob≤1000)
 (hgr:E.gro.all (fun x=>Nat.blt x.1 1000&&x.2.all (lit 6))=true) (hlen:Nat.ble (layC ct (baseT E.gro) 1000).1.length fn.ntmps=true) {outs:List (Ex×NS)} (hret:NRet E fn v outs)
 (hc:NAt E P c fn.ntmps (layC ct (baseT E.gro) 1000).2.1 (layC ct (baseT E.gro) 1000).2.2 ⟨argsT (layC ct (baseT E.gro) 1000).1 0 .leaf,(layC ct (baseT E.gro) 1000).2.1,(layC ct (baseT E.gro) 1000).2.2,none⟩ outs):MemoOk P E.glob E.gro f ct v:=by
 refine memo_gen hok hv hgl hgr fun G ρ ys w hg H hl=>?_
 obtain⟨p1,p2,p3⟩:=K.fn f fn hfn;rw[bleT] at hlen;obtain⟨e1,e2⟩:=enter_tmps hl hlen;refine callsIn_of_wp_marks (n:=0) p1 hbody trivial ?_;have:=hc G ρ {tmps:=ys ++ Array.replicate (fn.ntmps-ys.size) undef,defers:=[]} w hg ⟨ρ,⟨e1,e2,.nil ρ⟩,.refl H,fun it e=>by cases e⟩;refine wpIn_mono (F:=Fence.wide) this fun e' a' w' hp=>?_
 obtain⟨r,hr,q1,ρ',q2,q3,_⟩:=hp;obtain⟨c1,c2,c3⟩:=hret r hr;rw[fullH_none c2] at q3;obtain⟨y,r1,r2⟩:=resA_sim (P:=P) K q3.st.wr.blk q2.tr c3;have fin:LeavesInM Fence.wide 0 P fn a'.tmps (fun e w'=>∃ h' n',RetOk G ρ (layC ct (baseT E.gro) 1000).2.1 (layC ct (baseT E.gro) 1000).2.2 v h' n' e w') a'.defers .returning w':=by rw[q2.defs.nil_left];exact⟨y,r1,_,_,y,ρ',rfl,r2,q3⟩
 rcases c1 with c1|c1<;>rw[c1] at q1<;>cases e'<;>first|exact q1.elim|exact fin
end Go.Sx
