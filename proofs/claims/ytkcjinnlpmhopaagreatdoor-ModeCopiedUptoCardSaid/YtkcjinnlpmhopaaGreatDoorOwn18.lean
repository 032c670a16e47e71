/- RkG: the law ModeCopied on laid data: known calls, and the law. -/
import Derived.Test.YtkcjinnlpmhopaaGreatDoorOwn17
namespace Go.Sx
open Go.Proofs
set_option maxRecDepth 100000
set_option maxHeartbeats 4000000
theorem mem_flat_le{α:Type}{X:List (List α)}{x:List α}(h:x∈X):x.length≤X.flatten.length:=by obtain⟨i,hi⟩:=List.getElem?_of_mem h;have h1:=take_flat hi;have h2:=take_flat_le X (i+1);rw[h1,List.length_append] at h2;omega
theorem bools_of{lim:Nat}{h:T Blk}{r:Nat}{v:Value}(hd:Az.D Az.Γ0 lim h r (.sl 14) v):∃ xs,RowsS 1 boolL h v xs∧xs.length≤r:=by
 obtain⟨xs,h1,W,h2,h3⟩:=rows_of_DQ (enc:=boolL) (Q:=fun _ _=>True) hd rfl fun row w hl hr=>by
  obtain⟨g,_,h2⟩:=hr
  match row,hl with
  | [a],_ =>
    obtain⟨y,rfl⟩:=D_bool (h2 0 a _ rfl rfl);exact⟨y,rfl,trivial⟩
 exact⟨xs,h1,by omega⟩
abbrev L4(r37 r39 r120:List (Ct×Value)):List (FuncId×List (Ct×Value)):=[(5,[(.nil,.bool true)]),(37,r37),(39,r39),(120,r120)]
theorem L4_ok(r37 r39 r120:List (Ct×Value)):MemoK (L4 r37 r39 r120):=fun x hx=>by simp only[List.mem_cons,List.not_mem_nil,or_false] at hx;rcases hx with rfl|rfl|rfl|rfl<;>simp
section
variable {r37 r39 r120:List (Ct×Value)}{h:T Blk}(hg:groOK h gro0=true)
include hg
theorem memo5':memoA (EE (L4 r37 r39 r120)) 5 [] h=some (.bool true):=by rw[memo_at hg (row:=[(.nil,.bool true)]) (by simp only[memoT];exact T.gsE _ _ _)];rfl
theorem memo37'{args:List Value}:memoA (EE (L4 r37 r39 r120)) 37 args h=findM h args r37 :=
 memo_at hg (by simp only[memoT];rw[T.gnE _ _ (by decide)];exact T.gsE _ _ _)
theorem memo39'{args:List Value}:memoA (EE (L4 r37 r39 r120)) 39 args h=findM h args r39 :=
 memo_at hg (by simp only[memoT];rw[T.gnE _ _ (by decide),T.gnE _ _ (by decide)];exact T.gsE _ _ _)
theorem memo120'{args:List Value}:memoA (EE (L4 r37 r39 r120)) 120 args h=findM h args r120 :=
 memo_at hg (by simp only[memoT];rw[T.gnE _ _ (by decide),T.gnE _ _ (by decide),T.gnE _ _ (by decide)];exact T.gsE _ _ _)
end
theorem copied_law{rP rg rN rA rQ rU:Nat}{vP vN vA vQ vU vF vW:Value}{qn proc arg node:Int}{ws:List Bool}{g:SlT}{fs:List Ft}{h:T Blk}{n:Nat}(hf:Fresh h n)(hcl:CloH h n)(hg:groOK h gro0=true)(hn:1≤n)(hqn:R64 qn)
 (dP:Az.D Az.Γ0 1100000 h rP (.sl 0) vP) (dg:Az.D Az.Γ0 1100000 h rg (.sl 2) (slV g)) (dN:Az.D Az.Γ0 1100000 h rN (.sl 12) vN) (dA:Az.D Az.Γ0 1100000 h rA (.sl 8) vA) (dQ:Az.D Az.Γ0 1100000 h rQ (.sl 9) vQ) (dU:Az.D Az.Γ0 1100000 h rU (.sl 7) vU)
 (kP:CVal n vP) (kg:CVal n (slV g)) (kN:CVal n vN) (kA:CVal n vA) (kQ:CVal n vQ) (kU:CVal n vU) (hb:rN≤1100000∧rA≤1100000∧rQ≤1100000∧rU≤1100000)
 (hF:RowsS 3 featL h vF fs) (hFo:∀ f∈fs,FtOK f) (hFl:fs.length≤1000000000) (hW:RowsS 1 boolL h vW ws) :
 ∃ l,EOk (EE l) Tryz.prog∧∃ v h' n',Cl (EE l) 4 [.agg ⟨[vP]⟩,.agg ⟨[.int .i64 qn,slV g]⟩,.agg ⟨[vN,vA,vQ,vU]⟩,.int .i64 node,vW,.int .i64 proc,.int .i64 arg,vF] h n (.ret v h' n')∧v= .bool true:=by
 obtain⟨N,hN,bN,oN⟩:=rows2_of (α:=Edg) (P:=fun e=>FtOK e.1) dN rfl edges_of;obtain⟨A,hA,bA,_⟩:=rows2_of (α:=Lnk) (P:=fun _=>True) dA rfl links_of;obtain⟨Q,hQ,bQ1,bQ2,bQ3⟩:=rows3_of dQ rfl fun d=>by obtain⟨X,x1,x2,_⟩:=rows2_of (α:=Lnk) (P:=fun _=>True) d rfl links_of;exact⟨X,x1,x2⟩
 obtain⟨U,hU,bU,_⟩:=links_of dU;obtain⟨r37,q37,w37⟩:=row_of (f:=37) (Ty:=fun v=>∃ b,v= .bool b) (h:=h) (fun f:Ft=>[featV f]) (fs ++ N.flatten.map (·.1)) fun f hf'=>by
  have ho:FtOK f:=by
   rcases List.mem_append.1 hf' with h1|h1
   ·exact hFo f h1
   ·obtain⟨e,he,rfl⟩:=List.mem_map.1 h1;obtain⟨es,e1,e2⟩:=List.mem_flatten.1 he;exact oN es e1 e e2
  obtain⟨ct,a1,v,⟨_,_,_,_,a2⟩,a3⟩:=entry0 (Az.t37 _ (mcS ..)).2 rfl (ft_aok ho (h:=h) (N:=1));obtain⟨b,rfl⟩:=r_bool a2;exact⟨ct,_,⟨b,rfl⟩,a3 rfl,a1⟩
 let Good:Prop:=(∃ w,Az.D Az.Γ0 4400 h w (.sl 0) vP)∧∃ w,Az.D Az.Γ0 4400 h w (.sl 2) (slV g)
 have hgood:∃ (r39 r120:List (Ct×Value)) (ps:List PrRow) (e0:Int),(∀ e∈r39,MOk 39 e.1 e.2∧True)∧(∀ e∈r120,MOk 120 e.1 e.2∧∃ x,e.2= .int .i64 x) ∧
  (Good→ProcsR h vP ps∧ps.length≤1000000000∧findM h [.agg ⟨[vP]⟩,.agg ⟨[.int .i64 qn,slV g]⟩,.slice none 0 0] r39=some (.int .i64 e0)∧(∃ e∈r120,hitC h e.1 [slV g]=some [])∧∀ p∈ps,∀ c∈p.cls,(∃ e∈r120,hitC h e.1 [slV c.bd]=some [])∧CVal n (slV c.bd)):=by
  by_cases hG:Good
  ·obtain⟨⟨w1,d1⟩,w2,d2⟩:=hG;obtain⟨w1,bw1,d1⟩:=D_norm d1;obtain⟨ps,p1,p2,p3⟩:=procs_of d1;obtain⟨ct39,a39,v39,⟨_,_,_,_,t39⟩,m39⟩:=entry0 (Az.t39 _ (mcS ..)).2 rfl (h:=h) (N:=w1+w2+1) (vs:=[.agg ⟨[vP]⟩,.agg ⟨[.int .i64 qn,slV g]⟩,.slice none 0 0])
    (.cons (.agg (.cons (.sl (by omega) d1) .nil)) (.cons (.agg (.cons (.int hqn.1 hqn.2) (.cons (.sl (by omega) d2) .nil))) (.cons (.sl (r:=0) (by omega) .nil) .nil)))
   obtain⟨e0,rfl⟩:=r_int t39;obtain⟨r120,q120,w120⟩:=row_of (f:=120) (Ty:=fun v=>∃ x,v= .int .i64 x) (h:=h) (fun s:SlT=>[slV s]) (g :: (ps.map (·.cls)).flatten.map (·.bd)) fun s hs=>by
    have hd:∃ w,Az.D Az.Γ0 4400 h w (.sl 2) (slV s):=by
     rcases List.mem_cons.1 hs with rfl|hs
     ·exact⟨_,d2⟩
     ·obtain⟨c,hc,rfl⟩:=List.mem_map.1 hs;obtain⟨cls,h1,h2⟩:=List.mem_flatten.1 hc;obtain⟨p,hp,rfl⟩:=List.mem_map.1 h1;obtain⟨u,_,hu⟩:=p3 p hp c h2;exact⟨u,hu⟩
    obtain⟨w,hd⟩:=hd;obtain⟨ct,a1,v,⟨_,_,_,_,a2⟩,a3⟩:=entry0 (Az.t120 _ (mcS ..)).2 rfl (h:=h) (N:=w+1) (vs:=[slV s]) (.cons (.sl (by omega) hd) .nil);obtain⟨x,rfl⟩:=r_int a2;exact⟨ct,_,⟨x,rfl⟩,a3 rfl,a1⟩
   refine⟨[(ct39,.int .i64 e0)],r120,ps,e0,fun e he=>?_,q120,fun _=>⟨p1,?_,?_,w120 g (mcS ..),fun p hp c hc=>⟨w120 c.bd (mcM _ (List.mem_map.2 ⟨c,List.mem_flatten.2 ⟨p.cls,List.mem_map.2 ⟨p,hp,rfl⟩,hc⟩,rfl⟩)),?_⟩⟩⟩
   ·simp only[List.mem_cons,List.not_mem_nil,or_false] at he;subst he;exact⟨m39 rfl,trivial⟩
   ·omega
   ·simp only[findM,a39]
   ·exact cval_row hcl (p1.2 p hp) hc _ (by simp)
  ·exact⟨[],[],[],0,fun e he=>(by cases he),fun e he=>(by cases he),fun h=>absurd h hG⟩
 obtain⟨r39,r120,ps,e0,q39,q120,hgood⟩:=hgood
 let l:=L4 r37 r39 r120
 have hl:MemoK l:=L4_ok _ _ _;have hK:EOk (EE l) Tryz.prog:=EE_ok fun f r hfr e he=>by
  simp only[l,List.mem_cons,List.not_mem_nil,or_false,Prod.mk.injEq] at hfr;rcases hfr with⟨rfl,rfl⟩|⟨rfl,rfl⟩|⟨rfl,rfl⟩|⟨rfl,rfl⟩
  ·simp only[List.mem_cons,List.not_mem_nil,or_false] at he;subst he;exact sane_ok
  ·exact(q37 e he).1
  ·exact(q39 e he).1
  ·exact(q120 e he).1
 let isF:Ft→Bool:=fun f=>match memoA (EE l) 37 [featV f] h with|some (.bool b)=>b|_=>false
 let eqs:SlT→Int:=fun s=>match memoA (EE l) 120 [slV s] h with|some (.int .i64 x)=>x|_=>0
 have hkF:∀ f,f∈fs ++ N.flatten.map (·.1)→Kn l 37 [featV f] (.bool (isF f)) h n:=fun f hf'=>by
  obtain⟨e,e1,e2⟩:=find_of (w37 f hf');obtain⟨_,b,hb'⟩:=q37 e e1;have hm:memoA (EE l) 37 [featV f] h=some (.bool b):=by rw[memo37' hg,e2,hb']
  have:isF f=b:=by simp only[isF,hm]
  rw[this];exact Kn.of hcl hn hg (CVal.feat f) hm
 have hkE:∀ s:SlT,CVal n (slV s)→(∃ e∈r120,hitC h e.1 [slV s]=some [])→Kn l 120 [slV s] (.int .i64 (eqs s)) h n:=fun s hs hr=>by
  obtain⟨e,e1,e2⟩:=find_of hr;obtain⟨_,b,hb'⟩:=q120 e e1;have hm:memoA (EE l) 120 [slV s] h=some (.int .i64 b):=by rw[memo120' hg,e2,hb']
  have:eqs s=b:=by simp only[eqs,hm]
  rw[this];exact Kn.of hcl hn hg (fun x hx=>by simp only[List.mem_cons,List.not_mem_nil,or_false] at hx;subst hx;exact hs) hm
 have kq:CVal n (.agg ⟨[.int .i64 qn,slV g]⟩):= .agg fun x hx=>by
  simp only[List.mem_cons,List.not_mem_nil,or_false] at hx;rcases hx with rfl|rfl
  ·exact .int _ _
  ·exact kg
 have kp:CVal n (.agg ⟨[vP]⟩):= .agg fun x hx=>by simp only[List.mem_cons,List.not_mem_nil,or_false] at hx;subst hx;exact kP
 refine⟨l,hK,copied_cl hl (Good:=Good) (isF:=isF) (eqs:=eqs) (e0:=e0) (ps:=ps) (N:=N) (A:=A) (Q:=Q) (U:=U) hf (by intro x hx;simp only[l,List.mem_cons,List.not_mem_nil,or_false] at hx;rcases hx with rfl|rfl|rfl|rfl<;>simp) (Kn.of hcl hn hg (fun x hx=>by cases hx) (memo5' hg)) ?_ (fun G=>?_) hF (fun _ f hf'=>hkF f (List.mem_append_left _ hf')) hFl hW (by omega) (by omega) (by omega) (by omega) (fun X hX=>⟨by have:=bQ3 X hX;omega,fun x hx=>?_⟩) (by omega)⟩
 ·intro H M hM hFr hk;have ro:=ro_of_keep hf hk;obtain⟨bf,h',n',a1,a2,a3,a4,a5⟩:=few_cl hl (lim:=1100000) (by omega) (qn:=qn) hFr (dP.mono ro) (dg.mono ro);refine⟨bf,h',n',a1,a2,a3,a4,fun e=>?_⟩;obtain⟨⟨w1,d1⟩,w2,d2⟩:=a5 e;exact⟨⟨w1,D_back ro dP d1⟩,w2,D_back ro dg d2⟩
 ·obtain⟨g1,g2,g3,g4,g5⟩:=hgood G;have kg':∀ k,n≤k→BelV k (slV g):=fun k hk=>by
   obtain⟨b,l,c⟩:=g;cases kg with
   | nil=>trivial
   | sl hb=>exact Nat.lt_of_lt_of_le hb hk
  have ka:Kn l 39 [.agg ⟨[vP]⟩,.agg ⟨[.int .i64 qn,slV g]⟩,.slice none 0 0] (.int .i64 e0) h n:=Kn.of hcl hn hg (fun x hx=>by
   simp only[List.mem_cons,List.not_mem_nil,or_false] at hx;rcases hx with rfl|rfl|rfl
   ·exact kp
   ·exact kq
   ·exact .nil _ _) (by rw[memo39' hg];exact g3)
  have b4:(allL N A Q U).length≤1000000000:=by simp only[allL,List.length_append,List.length_map];omega
  exact⟨g1,hN,hA,hQ,hU,fun p hp c hc=>hkE _ (g5 p hp c hc).2 (g5 p hp c hc).1,hkE _ kg g4,kg',fun es hes e he=>hkF _ (List.mem_append_right _ (List.mem_map.2 ⟨e,List.mem_flatten.2 ⟨es,hes,he⟩,rfl⟩)),ka,by omega,g2,fun X hX=>by have:=bQ3 X hX;omega,b4,by omega,by omega⟩
 ·have h1:=mem_flat_le hx;have h2:=mem_flat_le (List.mem_map.2 ⟨X,hX,rfl⟩:X.flatten∈Q.map List.flatten);omega
end Go.Sx
namespace Go.Sx
open Go.Proofs Go.Proofs.YtkcjinnlpmhopaaGreatDoor Go.ChangeShapes Go.WideShapes Go.RowKit
set_option maxRecDepth 100000
set_option maxHeartbeats 4000000
theorem sh53:shp Tryz.prog Az.rc0 6 53=some [.sl 14]:=by kernel_rfl
theorem list9{α:Type}{l:List α}(h:l.length=9):∃ a b c d e f g i j,l=[a,b,c,d,e,f,g,i,j]:=by
 match l,h with
 | [a,b,c,d,e,f,g,i,j],_=>exact⟨a,b,c,d,e,f,g,i,j,rfl⟩
theorem copied_calls{H:Type}{enc:TypeId×Value→H}{W:World}{base:Nat}{args:Array Value}{ds:List (DataW H)}{ps:List MemPlace}
 (hval:∀ (j:Nat) t v,(#[24,27,33,3,53,3,3,34]:Array TypeId)[j]? =some t→args[j]? =some v→Value.okWide Tryz.prog W .any base t v)
 (hA:DataW.TrodAll enc Tryz.prog W 0 (fun _=>true) true [24,27,33,3,53,3,3,34] args.toList ds ps) (hk:Rows.uptoBulkAll ds≤1048576) {e:TypeId} {fr:Nat×Nat} (hw:W.heap[0]? =some (.cells six e fr)):Calls Tryz.prog 4 args W (EndW W):=by
 obtain⟨v0,vs0,d0,ds0,p0,q0,hargs,rfl,rfl,t0,s0⟩:=trodAll_cons hA;obtain⟨v1,vs1,d1,ds1,p1,q1,rfl,rfl,rfl,t1,s1⟩:=trodAll_cons s0;obtain⟨v2,vs2,d2,ds2,p2,q2,rfl,rfl,rfl,t2,s2⟩:=trodAll_cons s1;obtain⟨v3,vs3,d3,ds3,p3,q3,rfl,rfl,rfl,t3,s3⟩:=trodAll_cons s2;obtain⟨v4,vs4,d4,ds4,p4,q4,rfl,rfl,rfl,t4,s4⟩:=trodAll_cons s3;obtain⟨v5,vs5,d5,ds5,p5,q5,rfl,rfl,rfl,t5,s5⟩:=trodAll_cons s4;obtain⟨v6,vs6,d6,ds6,p6,q6,rfl,rfl,rfl,t6,s6⟩:=trodAll_cons s5;obtain⟨v7,vs7,d7,ds7,p7,q7,rfl,rfl,rfl,t7,s7⟩:=trodAll_cons s6;obtain⟨rfl,rfl,rfl⟩:=trodAll_nil s7;obtain rfl:args=#[v0,v1,v2,v3,v4,v5,v6,v7]:=by cases args;simp_all
 have o0:=hval 0 24 v0 rfl rfl;have o1:=hval 1 27 v1 rfl rfl;have o2:=hval 2 33 v2 rfl rfl;have o4:=hval 4 53 v4 rfl rfl;have o7:=hval 7 34 v7 rfl rfl;simp only[Value.okWide,Tryz.underlying24] at o0;simp only[Value.okWide,Tryz.underlying27] at o1;simp only[Value.okWide,Tryz.underlying33] at o2;obtain⟨c0,rfl,_⟩:=o0;obtain⟨c1,rfl,_⟩:=o1;obtain⟨c2,rfl,_⟩:=o2;obtain⟨nd,rfl,rfl,rfl,_⟩:=open_int Tryz.underlying3 (hval 3 3 v3 rfl rfl) t3;obtain⟨pr,rfl,rfl,rfl,_⟩:=open_int Tryz.underlying3 (hval 5 3 v5 rfl rfl) t5;obtain⟨ag,rfl,rfl,rfl,_⟩:=open_int Tryz.underlying3 (hval 6 3 v6 rfl rfl) t6;simp only[Rows.uptoBulkAll] at hk;obtain⟨f0,t0⟩:=t0;obtain⟨f1,t1⟩:=t1;obtain⟨f2,t2⟩:=t2;obtain⟨f4,t4⟩:=t4;obtain⟨f7,t7⟩:=t7;have L0:=lay_trod (G:=gh W) (lim:=1100000) rfl rc_ok (by omega) f0 6 24 _ _ _ t0 sh24 (by show Rows.uptoBulk d0≤_;omega)
 have L1:=lay_trod (G:=gh W) (lim:=1100000) rfl rc_ok (by omega) f1 6 27 _ _ _ t1 sh27 (by show Rows.uptoBulk d1≤_;omega);have L2:=lay_trod (G:=gh W) (lim:=1100000) rfl rc_ok (by omega) f2 6 33 _ _ _ t2 sh33 (by show Rows.uptoBulk d2≤_;omega);have L4:=lay_trod (G:=gh W) (lim:=1100000) rfl rc_ok (by omega) f4 6 53 _ _ _ t4 sh53 (by show Rows.uptoBulk d4≤_;omega);have L7:=lay_trod (G:=gh W) (lim:=1100000) rfl rc_ok (by omega) f7 6 34 _ _ _ t7 sh34 (by show Rows.uptoBulk d7≤_;omega);obtain⟨x0,e0⟩:=list1 L0.1;obtain⟨x1,x2,e1⟩:=list2 L1.1;obtain⟨x3,x4,x5,x6,e2⟩:=list4 L2.1;have e0:c0=#[x0]:=by cases c0;exact congrArg Array.mk e0
 have e1:c1=#[x1,x2]:=by cases c1;exact congrArg Array.mk e1
 have e2:c2=#[x3,x4,x5,x6]:=by cases c2;exact congrArg Array.mk e2
 subst e0;subst e1;subst e2;have ev4:v4.cells.toList=[v4]:=by obtain⟨a,len,cap,rfl⟩:=okWide_slice Tryz.underlying53 o4;rfl
 have ev7:v7.cells.toList=[v7]:=by obtain⟨a,len,cap,rfl⟩:=okWide_slice Tryz.underlying34 o7;rfl
 rw[ev4] at L4;rw[ev7] at L7;have L:=(((L0.app L1).app L2).app L4).app L7;obtain⟨az,ρ,h,n,a1,a2,a3,a4,a5,a6,⟨g,a7,a8⟩,a9,aS⟩:=L.2 r0 h0 1 ⟨0,0,6⟩ six' (st0 hw) clo0 rfl h0_zero;obtain⟨y0,y1,y2,y3,y4,y5,y6,y7,y8,rfl⟩:=list9 a6.1;have hgro:groOK h gro0=true:=gro_of (by rw[a3 0 (by omega)];exact h0_zero);have hw8:g 0+g 1+g 2+g 3+g 4+g 5+g 6+g 7+g 8≤1048576:=by have e:Az.sumF g 9=0+g 0+g 1+g 2+g 3+g 4+g 5+g 6+g 7+g 8:=rfl;have a7:Az.sumF g 9≤(Rows.uptoBulk d0-1)+(Rows.uptoBulk d1-1)+(Rows.uptoBulk d2-1)+(Rows.uptoBulk d4-1)+(Rows.uptoBulk d7-1):=a7;omega
 have D0:=a8 0 _ _ rfl rfl;have D1:=a8 1 _ _ rfl rfl;have D2:=a8 2 _ _ rfl rfl;have D3:=a8 3 _ _ rfl rfl;have D4:=a8 4 _ _ rfl rfl;have D5:=a8 5 _ _ rfl rfl;have D6:=a8 6 _ _ rfl rfl;have D7:=a8 7 _ _ rfl rfl;have D8:=a8 8 _ _ rfl rfl;obtain⟨qn,rfl,hqn⟩:=D_int D1;obtain⟨gs,rfl⟩:=D_sl D2;obtain⟨ws,W1,W2⟩:=bools_of D7;obtain⟨fs,F1,F2,F3⟩:=feats_of D8;have rel:LRel ρ [.agg ⟨[y0]⟩,.agg ⟨[.int .i64 qn,slV gs]⟩,.agg ⟨[y3,y4,y5,y6]⟩,.int .i64 nd,y7,.int .i64 pr,.int .i64 ag,y8] [.agg #[x0],.agg #[x1,x2],.agg #[x3,x4,x5,x6],.int .i64 nd,v4,.int .i64 pr,.int .i64 ag,v7]:=by
  have r0:=a6.2 0 _ _ rfl rfl;have r1:=a6.2 1 _ _ rfl rfl;have r2:=a6.2 2 _ _ rfl rfl;have r3:=a6.2 3 _ _ rfl rfl;have r4:=a6.2 4 _ _ rfl rfl;have r5:=a6.2 5 _ _ rfl rfl;have r6:=a6.2 6 _ _ rfl rfl;have r7:=a6.2 7 _ _ rfl rfl;have r8:=a6.2 8 _ _ rfl rfl;have g0:LRel ρ [y0] [x0]:= .cons r0 (.nil _);have g1:LRel ρ [.int .i64 qn,slV gs] [x1,x2]:= .cons r1 (.cons r2 (.nil _));have g2:LRel ρ [y3,y4,y5,y6] [x3,x4,x5,x6]:= .cons r3 (.cons r4 (.cons r5 (.cons r6 (.nil _))));exact .cons (.agg g0.1 g0.2) (.cons (.agg g1.1 g1.2) (.cons (.agg g2.1 g2.2) (.cons (.int _ _) (.cons r7 (.cons (.int _ _) (.cons (.int _ _) (.cons r8 (.nil _))))))))
 have kv:∀ x∈ [y0,.int .i64 qn,slV gs,y3,y4,y5,y6,y7,y8],CVal n x:=a9;obtain⟨l,K,v,h',n',z1,z2⟩:=copied_law (h:=h) (n:=n) (proc:=pr) (arg:=ag) (node:=nd) a1.hb a2 hgro a5 hqn D0 D2 D3 D4 D5 D6
  (kv _ (by simp)) (kv _ (by simp)) (kv y3 (by simp)) (kv y4 (by simp)) (kv y5 (by simp)) (kv y6 (by simp)) ⟨by omega,by omega,by omega,by omega⟩ F1 F3 (by omega) W1
 exact core K a1 rel z1 z2
end Go.Sx
