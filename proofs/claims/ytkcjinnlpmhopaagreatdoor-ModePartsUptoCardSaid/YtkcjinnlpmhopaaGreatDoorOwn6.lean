/- RpQ: the law ModeParts: it returns true. -/
import Derived.Test.YtkcjinnlpmhopaaGreatDoorOwn5
namespace Go.Sx
open Go.Proofs
set_option maxRecDepth 100000
set_option maxHeartbeats 16000000
section
variable {l:List (FuncId×List (Ct×Value))}(hl:MemoK l)
include hl
theorem law_cl{Good:Prop}{bl:Bool}{isF:Ft→Bool}{eqs:SlT→Int}{e0:Int}{ps:List PrRow}{g:SlT}{qn:Int}{N:List (List Edg)}{A:List (List Lnk)}{Q:List (List (List Lnk))}{U:List Lnk}{vP vN vA vQ vU vF:Value}{proc arg:Int}{fs:List Ft}{h:T Blk}{n:Nat}(hf:Fresh h n)
 (h5:Kn l 5 [] (.bool true) h n) (h6:∀ H M,n≤M→Fresh H M→Keep n h H→∃ bf h' n',Cl (EE l) 6 [.agg ⟨[vP]⟩,.agg ⟨[.int .i64 qn,slV g]⟩] H M (.ret (.bool bf) h' n')∧Keep M H h'∧M≤n'∧Fresh h' n'∧(bf=true→Good))
 (h7:Good→Kn l 7 [.agg ⟨[vN,vA,vQ,vU]⟩] (.bool bl) h n) (hG:Good→Given l isF eqs e0 ps g qn N A Q U vP vN vA vQ vU h n)
 (hF:RowsS 3 featL h vF fs) (hkF:Good→∀ f∈fs,Kn l 37 [featV f] (.bool (isF f)) h n) (hbF:fs.length≤1000000000) (hcap:∃ eb cap,vF= .slice eb fs.length cap∧fs.length≤cap∧cap<UNK)
 (hok1:∀ f∈fs,FtOK f) (hok2:∀ es∈N,∀ e∈es,FtOK e.1) :
 ∃ v h' n',Cl (EE l) 3 [.agg ⟨[vP]⟩,.agg ⟨[.int .i64 qn,slV g]⟩,.agg ⟨[vN,vA,vQ,vU]⟩,.int .i64 proc,.int .i64 arg,vF] h n (.ret v h' n')∧v= .bool true:=by
 refine Cl.wl (many:=204) (memo_no hl (by decide)) rfl fk3 rfl rfl rfl rfl ?_;refine WL.seq (WL.reg ?_);refine OL.bx ?_;refine OL.bx ?_;refine OL.bx ?_;refine OL.asg ?_;refine OL.nil ?_;refine WL.heap (fun H=>H.get n=some (.cells [vP])∧H.get (n+1)=some (.cells [.int .i64 qn,slV g])∧H.get (n+1+1)=some (.cells [vN,vA,vQ,vU])∧Fresh H (n+1+1+1)∧Keep n h H) ⟨?_,?_,T.gsE _ _ _,((hf.upd _).upd _).upd _,(((Keep.refl n h).upd (nlR _) _).upd (by omega) _).upd (by omega) _⟩ ?_
 · rw[T.gnE _ _ (by omega),T.gnE _ _ (by omega)];exact T.gsE _ _ _
 · rw[T.gnE _ _ (by omega)];exact T.gsE _ _ _
 rintro H0 ⟨z0,z1,z2,f0,k0⟩;refine WL.seq (WL.seq (WL.reg ?_));refine OL.cf fk5 (h5.cl k0 _) ?_;refine OL.un ?_;refine OL.nil (WL.condF rfl (WL.skip ?_));obtain⟨bf,h1,n1,g1,g2,g3,g4,hgood⟩:=h6 H0 (n+1+1+1) (by omega) f0 k0;have kn1:Keep n h h1:=k0.trans (by omega) g2;have y0:h1.get n=some (.cells [vP]):=by rw[g2 _ (by omega)];exact z0
 have y1:h1.get (n+1)=some (.cells [.int .i64 qn,slV g]):=by rw[g2 _ (by omega)];exact z1
 have y2:h1.get (n+1+1)=some (.cells [vN,vA,vQ,vU]):=by rw[g2 _ (by omega)];exact z2
 refine WL.seq (WL.seq (WL.reg ?_));refine OL.la ty24 ?_;refine OL.la ty27 ?_;refine OL.cf fk6 g1 ?_;refine OL.un ?_;refine OL.mv ?_;cases bf with
 | false =>
   refine OL.ps ?_;refine OL.ps ?_;refine OL.ps ?_;refine OL.pT ?_;refine OL.mv ?_;refine OL.ps ?_;refine OL.ps ?_;refine OL.ps ?_;refine OL.pT ?_;refine OL.mv ?_;refine OL.ps ?_;refine OL.ps ?_;refine OL.pT ?_;refine OL.nil (WL.condT rfl (WL.seq (WL.reg ?_)));refine OL.asg ?_;exact OL.nil (WL.ret ⟨fun id e=>(by cases e),[_],⟨rfl,rfl⟩,rfl⟩)
 | true =>
 have hgood:=hgood rfl;have G:=hG hgood;refine OL.la ty33 ?_;refine OL.cf fk7 ((h7 hgood).cl kn1 _) ?_;refine OL.un ?_;refine OL.pF ?_;refine OL.mv ?_;cases bl with
 | false =>
   refine OL.ps ?_;refine OL.ps ?_;refine OL.ps ?_;refine OL.pT ?_;refine OL.mv ?_;refine OL.ps ?_;refine OL.ps ?_;refine OL.pT ?_;refine OL.nil (WL.condT rfl (WL.seq (WL.reg ?_)));refine OL.asg ?_;exact OL.nil (WL.ret ⟨fun id e=>(by cases e),[_],⟨rfl,rfl⟩,rfl⟩)
 | true =>
 refine OL.mv ?_;refine OL.bi (hF.len ty34) ?_;by_cases c50:(50:Int)<(fs.length:Int)
 · refine OL.bT (hp:=c50) ?_;refine OL.pF ?_;refine OL.mv ?_;refine OL.ps ?_;refine OL.ps ?_;refine OL.pT ?_;refine OL.nil (WL.condT rfl (WL.seq (WL.reg ?_)));refine OL.asg ?_;exact OL.nil (WL.ret ⟨fun id e=>(by cases e),[_],⟨rfl,rfl⟩,rfl⟩)
 refine OL.bF (hp:=c50) ?_;refine OL.pF ?_;refine OL.mv ?_;obtain⟨h2,n2,s1,s2,s3,s4⟩:=con8_cl hl (p:=fun f=>decide ((300:Int)<(f.1.size:Int))) (g:=9) (cs:=[]) fk9 g4 (hF.keep hf kn1) hbF (fun f hfm H M hM hFM hkM=>long_cl hl f hFM);have kn2:Keep n h h2:=kn1.trans (by omega) s2;have x0:h2.get n=some (.cells [vP]):=by rw[s2 _ (by omega)];exact y0
 have x1:h2.get (n+1)=some (.cells [.int .i64 qn,slV g]):=by rw[s2 _ (by omega)];exact y1
 have x2:h2.get (n+1+1)=some (.cells [vN,vA,vQ,vU]):=by rw[s2 _ (by omega)];exact y2
 refine OL.mv ?_;refine OL.cf fk8 s1 ?_;refine OL.pF ?_;cases hlong:fs.any (fun f=>decide ((300:Int)<(f.1.size:Int))) with
 | true =>
   refine OL.nil (WL.condT rfl (WL.seq (WL.reg ?_)));refine OL.asg ?_;exact OL.nil (WL.ret ⟨fun id e=>(by cases e),[_],⟨rfl,rfl⟩,rfl⟩)
 | false =>
 refine OL.nil (WL.condF rfl (WL.skip ?_));have atG:∀ {A':List (List Lnk)} {vA':Value} (H:T Blk) (M:Nat),Given l isF eqs e0 ps g qn N A' Q U vP vN vA' vQ vU H M→Fresh H M→Keep n h H→n≤M→∀ (w:Value) (fs':List Ft),RowsS 3 featL H w fs'→(∀ f∈fs',f∈fs)→fs'.length≤1000000000 →
  ∃ r e h' n',Cl (EE l) 10 [.agg ⟨[vP]⟩,.agg ⟨[.int .i64 qn,slV g]⟩,.agg ⟨[vN,vA',vQ,vU]⟩,.int .i64 proc,.int .i64 arg,w] H M (.ret (.tuple ⟨[linkV r,.int .i64 e]⟩) h' n')∧Keep M H h'∧M≤n'∧Fresh h' n'∧AtR isF eqs e0 ps g N A' Q U proc arg fs' r e :=
  fun H M GH fH kH hM w fs' hw hm hl'=>at_cl hl fH GH hw (fun f hfm=>(hkF hgood f (hm f hfm)).keep kH hM) hl'
 obtain⟨r0,e1,h3,n3,p1,p2,p3,p4,p5⟩:=atG h2 n2 (G.keep hf kn2 (by omega)) s4 kn2 (by omega) (.slice none 0 0) [] ⟨none,0,rfl,fun a ha=>(by cases ha),fun i x hi=>(by simp at hi)⟩ (fun f hfm=>(by cases hfm)) (Nat.zero_le _);have kn3:Keep n h h3:=kn2.trans (by omega) p2;refine WL.seq (WL.reg ?_);refine OL.la ty24 ?_;refine OL.la ty27 ?_;refine OL.la ty33 ?_;refine OL.mv ?_;refine OL.mv ?_;refine OL.cf fk10 p1 ?_;refine OL.mv ?_;refine OL.ext ?_;refine OL.ext ?_;refine OL.al ty43 ?_;refine OL.sn ty43 (T.gsE _ _ _) ?_;refine OL.asg ?_;refine OL.nil ?_;refine WL.heap (fun H=>H.get n=some (.cells [vP])∧H.get (n+1)=some (.cells [.int .i64 qn,slV g])∧H.get (n+1+1)=some (.cells [vN,vA,vQ,vU])∧H.get n3=some (.cells (linkL r0))∧Fresh H (n3+1)∧Keep n h H) ⟨?_,?_,?_,T.gsE _ _ _,(p4.upd _).set (Nat.lt_succ_self _) _,fun b hb=>?_⟩ ?_
 · rw[T.gnE _ _ (by omega),T.gnE _ _ (by omega),p2 _ (by omega)];exact x0
 · rw[T.gnE _ _ (by omega),T.gnE _ _ (by omega),p2 _ (by omega)];exact x1
 · rw[T.gnE _ _ (by omega),T.gnE _ _ (by omega),p2 _ (by omega)];exact x2
 · rw[T.gnE _ _ (by omega),T.gnE _ _ (by omega)];exact kn3 b hb
 clear z0 z1 z2 y0 y1 y2 x0 x1 x2;rintro H4 ⟨z0,z1,z2,z3,f4,k4⟩;refine WL.seq (WL.seq (WL.reg ?_));refine OL.mv ?_;by_cases he1:e1=0
 case neg =>
  refine OL.nT (hp:=he1) ?_;obtain⟨r2,e2,h5',n5,u1,u2,u3,u4,u5⟩:=atG H4 (n3+1) (G.keep hf k4 (by omega)) f4 k4 (by omega) vF fs (hF.keep hf k4) (fun f hfm=>hfm) hbF;refine OL.nil (WL.condT rfl (WL.seq (WL.reg ?_)));refine OL.la ty24 ?_;refine OL.la ty27 ?_;refine OL.la ty33 ?_;refine OL.mv ?_;refine OL.mv ?_;refine OL.mv ?_;refine OL.cf fk10 u1 ?_;refine OL.mv ?_;refine OL.ext ?_;refine OL.ext ?_;refine OL.al ty43 ?_;refine OL.sn ty43 (T.gsE _ _ _) ?_;refine OL.asg ?_;refine OL.nil (WL.seq (WL.reg ?_));refine OL.mv ?_;refine OL.mv ?_;rcases at_err p5 he1 u5 with h|h
  · subst h;refine OL.bT (hp:=rfl) ?_;refine OL.mv ?_;refine OL.ps ?_;refine OL.ps ?_;refine OL.pT ?_;refine OL.asg ?_;exact OL.nil (WL.ret ⟨fun id e=>(by cases e),[_],⟨rfl,rfl⟩,rfl⟩)
  · subst h;by_cases h1e:(1:Int)=e1
    · refine OL.bT (hp:=h1e) ?_;refine OL.mv ?_;refine OL.ps ?_;refine OL.ps ?_;refine OL.pT ?_;refine OL.asg ?_;exact OL.nil (WL.ret ⟨fun id e=>(by cases e),[_],⟨rfl,rfl⟩,rfl⟩)
    · refine OL.bF (hp:=h1e) ?_;refine OL.mv ?_;refine OL.mv ?_;refine OL.bT (hp:=rfl) ?_;refine OL.pF ?_;refine OL.asg ?_;exact OL.nil (WL.ret ⟨fun id e=>(by cases e),[_],⟨rfl,rfl⟩,rfl⟩)
 refine OL.nF (hp:=he1) ?_;refine OL.nil (WL.condF rfl (WL.skip ?_));have he0:e0=0:=by apply Classical.byContradiction;intro hh;exact hh (by rw[←(p5.1 hh).2];exact he1)
 have hGP:GraphP isF eqs ps g N A Q U:=by apply Classical.byContradiction;intro hh;have:=(p5.2.1 he0 hh).2;omega
 have hgood:¬ BadA isF ps proc arg []:=fun hb=>by have:=((p5.2.2 he0 hGP).1 hb).2;omega
 obtain⟨a,k1,hAi,haj,_,hr0⟩:=(p5.2.2 he0 hGP).2 hgood;have hr0:r0=k1:=hr0;subst hr0;have hargs:ArgOK ps proc arg:=Classical.byContradiction fun hh=>hgood (.inr hh)
 obtain⟨i,p,hpi,hp,harg0,harg1⟩:=hargs;subst hpi;obtain⟨j,rfl⟩:∃ j:Nat,arg=(j:Int):=⟨arg.toNat,by omega⟩
 rw[Int.toNat_natCast] at hAi haj;have hiA:=(gsI hAi).1;have hja:=(gsI haj).1;have b1:=G.b1;have hale:a.length≤1000000000:=by have h1:=take_flat_le A (i+1);rw[take_flat hAi,List.length_append] at h1;have h2:=G.b4;unfold allL at h2;simp only[List.length_append] at h2;omega
 obtain⟨vNb,vNl,vNc,hvN⟩:=G.hN.isS;obtain⟨vAb,vAl,vAc,hvA⟩:=G.hA.isS;have hvQ:∃ b l c,vQ= .slice b l c:=by obtain⟨vs,⟨eb,c,rfl,_⟩,_⟩:=G.hQ;exact⟨_,_,_,rfl⟩
 obtain⟨vUb,vUc,hvU⟩:=G.hU.isS;have hallc:∀ v:Value,(∃ b l c,v= .slice b l c)→allCells [vN,v,vQ,vU]=true:=fun v hv=>slices_cells _ fun u hu=>by
  simp only[List.mem_cons,List.not_mem_nil,or_false] at hu;rcases hu with rfl|rfl|rfl|rfl
  · exact⟨_,_,_,hvN⟩
  · exact hv
  · exact hvQ
  · exact⟨_,_,_,hvU⟩
 refine WL.seq (WL.reg ?_);refine OL.la ty33 ?_;refine OL.al ty33 ?_;refine OL.sn (v:= .agg ⟨[vN,vA,vQ,vU]⟩) (new:=[vN,vA,vQ,vU]) ty33 (T.gsE _ _ _) ?_ (hv:=hallc vA ⟨_,_,_,hvA⟩);refine OL.nil ?_;refine WL.heap (fun H=>H.get n=some (.cells [vP])∧H.get (n+1)=some (.cells [.int .i64 qn,slV g])∧H.get (n+1+1)=some (.cells [vN,vA,vQ,vU])∧H.get n3=some (.cells (linkL r0))∧H.get (n3+1)=some (.cells [vN,vA,vQ,vU])∧Fresh H (n3+1+1)∧Keep n h H) ⟨?_,?_,?_,?_,T.gsE _ _ _,(f4.upd _).set (Nat.lt_succ_self _) _,fun b hb=>?_⟩ ?_
 · rw[T.gnE _ _ (by omega),T.gnE _ _ (by omega)];exact z0
 · rw[T.gnE _ _ (by omega),T.gnE _ _ (by omega)];exact z1
 · rw[T.gnE _ _ (by omega),T.gnE _ _ (by omega)];exact z2
 · rw[T.gnE _ _ (by omega),T.gnE _ _ (by omega)];exact z3
 · rw[T.gnE _ _ (by omega),T.gnE _ _ (by omega)];exact k4 b hb
 clear z0 z1 z2 z3;rintro H5 ⟨z0,z1,z2,z3,z4,f5,k5⟩;obtain⟨vs0,ra1,c5,rows0⟩:=G.hA;have hslv:∀ v∈vs0,∃ b l c,v= .slice b l c:=fun v hv=>by
  obtain⟨x,hx⟩:=List.getElem?_of_mem hv;have hlt:=(gsI hx).1;obtain⟨xs,hxs⟩:∃ xs,A[x]? =some xs:=⟨_,ggE (by omega)⟩
  obtain⟨b,c,he⟩:=(rows0 x v xs hx hxs).isS;exact⟨b,_,c,he⟩
 obtain⟨H6,c1,c2,c3,c4⟩:=clone2_cl (X:=A) hl f5 (ra1.keep hf k5) c5 hslv (by omega) b1;have w6:∀ b,b<n3+1+1→H6.get b=H5.get b:=c2;refine WL.seq (WL.reg ?_);refine OL.fd fo33_1 ?_;refine OL.l1 ty29 ?_;refine OL.cf fk11 c1 ?_;refine OL.fd fo33_1 ?_;refine OL.st (store1 (b:=n3+1) (o:=1) ty29 rfl (by rw[w6 _ (by omega)];exact z4) rfl (by show 1<4;omega)) ?_;refine OL.nil ?_;refine WL.heap (fun H=>H.get n=some (.cells [vP])∧H.get (n+1)=some (.cells [.int .i64 qn,slV g])∧H.get (n+1+1)=some (.cells [vN,vA,vQ,vU])∧H.get n3=some (.cells (linkL r0))∧H.get (n3+1)=some (.cells [vN,.slice (some ⟨n3+1+1+1,0,none⟩) A.length (UNK * 1+A.length),vQ,vU])∧H.get (n3+1+1+1)=some (.cells vs0)∧Fresh H (n3+1+1+1+1)∧Keep n h H) ⟨?_,?_,?_,?_,T.gsE _ _ _,?_,c3.set (by omega) _,fun b hb=>?_⟩ ?_
 · rw[T.gnE _ _ (by omega),w6 _ (by omega)];exact z0
 · rw[T.gnE _ _ (by omega),w6 _ (by omega)];exact z1
 · rw[T.gnE _ _ (by omega),w6 _ (by omega)];exact z2
 · rw[T.gnE _ _ (by omega),w6 _ (by omega)];exact z3
 · rw[T.gnE _ _ (by omega)];exact c4
 · rw[T.gnE _ _ (by omega),w6 _ (by omega)];exact k5 b hb
 clear z0 z1 z2 z3 z4;rintro H7 ⟨z0,z1,z2,z3,z4,z5,f7,k7⟩;obtain⟨v0,hv0⟩:∃ v,vs0[i]? =some v:=⟨_,ggE (by omega)⟩
 obtain⟨bA,oA,vr,q1,q2,q3⟩:=G.hA.at' (E:=EE l) hf k7 ty29 ty31 rfl rfl hAi;obtain⟨H8,d1,d2,d3,d4⟩:=clone1_cl hl f7 (q3.keep hf k7) (by omega) hale;have hz48:H8.get (n3+1)=some (.cells [vN,.slice (some ⟨n3+1+1+1,0,none⟩) A.length (UNK * 1+A.length),vQ,vU]):=by rw[d2 _ (by omega)];exact z4
 have hbA:bA<n3+1+1+1+1:=by
  apply Classical.byContradiction;intro hh;have hc:cellsOf H7 bA=none:=by unfold cellsOf;rw[f7 bA (by omega)]
  simp only[loadA,ty31,hc] at q2;cases q2
 have hbvA:∀ k,n≤k→BelV k vA:=fun k hk=>by obtain⟨vs,r,_⟩:=G.hA;exact r.bel hf hk
 have hbvr:∀ k,n≤k→BelV k vr:=fun k hk=>q3.bel hf hk
 refine WL.seq (WL.regG [(1,8)] (by kernel_rfl) (by kernel_rfl) ?_);refine OG.fd fo33_1 ?_;refine OG.l1 ty29 ?_;refine OG.mv ?_;refine OG.fd fo33_1 ?_;refine OG.l1 ty29 ?_;refine OG.mv ?_;refine OG.ix q1 ?_;refine OG.ld q2 ?_;refine OG.cf fk12 d1 ?_;refine OG.ix (idx_slice (b:=n3+1+1+1) (o:=0) (len:=A.length) (cap:=UNK * 1+A.length) (k:=i) ty29 ty31 hiA) ?_;refine OG.st (store1 (b:=n3+1+1+1) (o:=0+i * (tSl 43).size) (cs:=vs0) ty31 rfl (by rw[d2 _ (by omega)];exact z5) rfl (by show 0+i * 1<vs0.length;omega)) ?_;refine OG.nil ⟨FlOK.cons rfl rfl (load1 ty29 rfl (cells_of hz48) rfl) (sameSl' _ _ _) FlOK.nil,?_⟩;have ei:0+i * (tSl 43).size=i:=by show 0+i * 1=i;omega
 rw[ei];refine WL.heap (fun H=>H.get n=some (.cells [vP])∧H.get (n+1)=some (.cells [.int .i64 qn,slV g])∧H.get (n+1+1)=some (.cells [vN,vA,vQ,vU])∧H.get n3=some (.cells (linkL r0))∧H.get (n3+1)=some (.cells [vN,.slice (some ⟨n3+1+1+1,0,none⟩) A.length (UNK * 1+A.length),vQ,vU])∧H.get (n3+1+1+1)=some (.cells (vs0.set i (.slice (some ⟨n3+1+1+1+1+1,0,none⟩) a.length (UNK * 2+a.length))))∧H.get (n3+1+1+1+1+1)=some (.cells (a.flatMap linkL))∧Fresh H (n3+1+1+1+1+1+1)∧Keep n h H) ⟨?_,?_,?_,?_,?_,T.gsE _ _ _,?_,d3.set (by omega) _,fun b hb=>?_⟩ ?_
 · rw[T.gnE _ _ (by omega),d2 _ (by omega)];exact z0
 · rw[T.gnE _ _ (by omega),d2 _ (by omega)];exact z1
 · rw[T.gnE _ _ (by omega),d2 _ (by omega)];exact z2
 · rw[T.gnE _ _ (by omega),d2 _ (by omega)];exact z3
 · rw[T.gnE _ _ (by omega),d2 _ (by omega)];exact z4
 · rw[T.gnE _ _ (by omega)];exact d4
 · rw[T.gnE _ _ (by omega),d2 _ (by omega)];exact k7 b hb
 clear z0 z1 z2 z3 z4 z5;rintro H9 ⟨z0,z1,z2,z3,z4,z5,z6,f9,k9⟩;obtain⟨bA2,oA2,vr2,q4,q5,q6⟩:=G.hA.at' (E:=EE l) hf k9 ty29 ty31 rfl rfl hAi;obtain⟨bR,oR,q7,q8,csR,q9,q10⟩:=(q6.keep hf k9).at (E:=EE l) ty31 ty43 rfl rfl haj;have hlt9:∀ b cs,cellsOf H9 b=some cs→b<n3+1+1+1+1+1+1:=fun b cs hc=>by apply Classical.byContradiction;intro hh;unfold cellsOf at hc;rw[f9 b (by omega)] at hc;cases hc
 have hbA2:bA2<n3+1+1+1+1+1+1:=by
  apply Classical.byContradiction;intro hh;have hc:cellsOf H9 bA2=none:=by unfold cellsOf;rw[f9 bA2 (by omega)]
  simp only[loadA,ty31,hc] at q5;cases q5
 have hbR:bR<n3+1+1+1+1+1+1:=hlt9 _ _ q9;have hbvr2:∀ k,n≤k→BelV k vr2:=fun k hk=>q6.bel hf hk
 have hset:(vs0.set i (.slice (some ⟨n3+1+1+1+1+1,0,none⟩) a.length (UNK * 2+a.length)))[0+i * (tSl 43).size]? =some (.slice (some ⟨n3+1+1+1+1+1,0,none⟩) a.length (UNK * 2+a.length)):=by rw[ei,List.getElem?_set,if_pos rfl,if_pos (by omega)]
 refine WL.seq (WL.regD (by kernel_rfl) (by kernel_rfl) ?_);refine OD.fd fo33_1 ?_;refine OD.l1 ty29 ?_;refine OD.mv ?_;refine OD.ix (idx_slice (b:=n3+1+1+1) (o:=0) (len:=A.length) (cap:=UNK * 1+A.length) (k:=i) ty29 ty31 hiA) ?_;refine OD.ld (load1 ty31 rfl (cells_of z5) hset) ?_;refine OD.mv ?_;refine OD.fd fo33_1 ?_;refine OD.l1 ty29 ?_;refine OD.mv ?_;refine OD.ix q4 ?_;refine OD.ld q5 ?_;refine OD.mv ?_;refine OD.ix q7 ?_;refine OD.fd fo43_1 ?_;refine OD.ld (load1 ty4 rfl q9 (seg2_flip q10)) ?_;refine OD.un ?_;refine OD.ix (idx_slice (b:=n3+1+1+1+1+1) (o:=0) (len:=a.length) (cap:=UNK * 2+a.length) (k:=j) ty31 ty43 hja) ?_;refine OD.fd fo43_1 ?_;refine OD.st (store1 (b:=n3+1+1+1+1+1) (o:=0+j * tLink.size+1) (cs:=a.flatMap linkL) ty4 rfl z6 rfl (by rw[flat_len (k:=2) (enc:=linkL) (fun _=>rfl) a];show 0+j * 2+1<a.length * 2;omega)) ?_;refine OD.nil ?_
 have ej:0+j * tLink.size+1=j * 2+1:=by show 0+j * 2+1=_;omega
 rw[ej,set_flat haj];have S0:LawS h n vP qn g vN vA vQ vU n3 (n3+1) (n3+1+1+1) (n3+1+1+1+1+1) (.slice (some ⟨n3+1+1+1,0,none⟩) A.length (UNK * 1+A.length)) (vs0.set i (.slice (some ⟨n3+1+1+1+1+1,0,none⟩) a.length (UNK * 2+a.length))) (a.set j (r0.1,!r0.2)) (H9.upd (some (.cells ((a.set j (r0.1,!r0.2)).flatMap linkL))) (n3+1+1+1+1+1)) (n3+1+1+1+1+1+1) r0:=by
  refine⟨f9.set (by omega) _,fun b hb=>by rw[T.gnE _ _ (by omega)];exact k9 b hb,by omega,by omega,by omega,by omega,by omega,by omega,by omega,by omega,by omega,?_,?_,?_,?_,?_,?_,T.gsE _ _ _⟩
  · rw[T.gnE _ _ (by omega)];exact z0
  · rw[T.gnE _ _ (by omega)];exact z1
  · rw[T.gnE _ _ (by omega)];exact z2
  · rw[T.gnE _ _ (by omega)];exact z3
  · rw[T.gnE _ _ (by omega)];exact z4
  · rw[T.gnE _ _ (by omega)];exact z5
 have hin0:∃ i:Nat,r0.1=(i:Int)∧i<N.length:=hGP.inR (by unfold allL;exact List.mem_append_left _ (List.mem_append_left _ (List.mem_append_left _ (List.mem_flatten.2 ⟨a,List.mem_of_getElem? hAi,List.mem_of_getElem? haj⟩))));have hGT:=turn_graph (i:=i) (j:=j) hAi haj hGP;have hNl:=hGP.n2;have hr64:∀ k:Lnk,(∃ i:Nat,k.1=(i:Int)∧i<N.length)→R64 k.1:=fun k ⟨x,hx,hlt⟩=>by rw[hx];exact⟨by omega,by omega⟩
 have hturn:∀ {H:T Blk} {M:Nat} {cur:Lnk},LawS h n vP qn g vN vA vQ vU n3 (n3+1) (n3+1+1+1) (n3+1+1+1+1+1) (.slice (some ⟨n3+1+1+1,0,none⟩) A.length (UNK * 1+A.length)) (vs0.set i (.slice (some ⟨n3+1+1+1+1+1,0,none⟩) a.length (UNK * 2+a.length))) (a.set j (r0.1,!r0.2)) H M cur →
  Given l isF eqs e0 ps g qn N (turnA A i j a r0) Q U vP vN (.slice (some ⟨n3+1+1+1,0,none⟩) A.length (UNK * 1+A.length)) vQ vU H M:=fun {H M cur} s=>by
  have G2:=G.keep (M:=M) hf s.kn (by have:=s.l2;omega);exact {G2 with hA:=turned_rows hf s.kn hAi c5 rows0 s.gc s.gd,b1:=by rw[turn_len];exact b1,b4:=by rw[allL_turn hAi haj];exact G.b4}
 obtain⟨Feb,Fcap,hvF,hFc1,hFc2⟩:=hcap;have hbF':∀ k,n≤k→BelV k vF:=fun k hk=>hF.bel hf hk
 have hbp:∀ k,n≤k→BelV k (.agg ⟨[vP]⟩):=fun k hk=>BelV.agg fun v hv=>by simp only[List.mem_cons,List.not_mem_nil,or_false] at hv;subst hv;obtain⟨eb,c,hh,_⟩:=G.hP.1;exact⟨G.hP.1.bel hf hk,_,_,_,hh⟩
 have hbq:∀ k,n≤k→BelV k (.agg ⟨[.int .i64 qn,slV g]⟩):=fun k hk=>BelV.q (G.hg k hk)
 have hbvN:∀ k,n≤k→BelV k vN:=fun k hk=>by obtain⟨vs,r,_⟩:=G.hN;exact r.bel hf hk
 have hbvQ:∀ k,n≤k→BelV k vQ:=fun k hk=>by obtain⟨vs,r,_⟩:=G.hQ;exact r.bel hf hk
 have hbvU:∀ k,n≤k→BelV k vU:=fun k hk=>G.hU.bel hf hk
 have hbm4:∀ (v:Value) (k:Nat),n≤k→BelV k v→(∃ b l c,v= .slice b l c)→BelV k (.agg ⟨[vN,v,vQ,vU]⟩):=fun v k hk hv hs=>BelV.agg fun u hu=>by
  simp only[List.mem_cons,List.not_mem_nil,or_false] at hu;rcases hu with rfl|rfl|rfl|rfl
  · exact⟨hbvN k hk,_,_,_,hvN⟩
  · exact⟨hv,hs⟩
  · exact⟨hbvQ k hk,hvQ⟩
  · exact⟨hbvU k hk,_,_,_,hvU⟩
 refine WL.seq (WL.seq (WL.reg ?_));refine OL.mv ?_;refine OL.bi (hF.len ty34) ?_;refine OL.mv ?_;refine OL.nil (WL.block ?_);refine WL.loop (k:=fs.length) (fun m L H M=>∃ (c:Nat) (cur:Lnk),c≤fs.length∧m=fs.length-c∧Sub [(108,.int .i64 (c:Int)),(107,.int .i64 (fs.length:Int)),(6,ptrTo n),(7,ptrTo (n+1)),(8,ptrTo (n+1+1)),(3,.int .i64 (i:Int)),(4,.int .i64 (j:Int)),(5,vF),(13,ptrTo n3),(17,ptrTo (n3+1))] L ∧
  LawS h n vP qn g vN vA vQ vU n3 (n3+1) (n3+1+1+1) (n3+1+1+1+1+1) (.slice (some ⟨n3+1+1+1,0,none⟩) A.length (UNK * 1+A.length)) (vs0.set i (.slice (some ⟨n3+1+1+1+1+1,0,none⟩) a.length (UNK * 2+a.length))) (a.set j (r0.1,!r0.2)) H M cur∧cur=(fs.take c).foldl (stepL N) r0∧∃ i:Nat,cur.1=(i:Int)∧i<N.length) ?_
  ⟨0,r0,Nat.zero_le _,rfl,(by repeat (first|exact Sub.nil|refine Sub.cons rfl ?_)),S0,rfl,hin0⟩
 rintro m L H M ⟨c,cur,hc,rfl,hs,st,hcur,hin⟩;refine WL.keep hs ?_;refine WL.seq (WL.reg ?_);by_cases cc:(c:Int)<(fs.length:Int)
 case neg =>
  refine OL.bF (hp:=cc) ?_;refine OL.nil (WL.seq (WL.condF rfl (WL.exit ?_)));refine WL.seq (WL.reg ?_);refine OL.asg ?_;exact OL.nil (WL.ret ⟨fun id e=>(by cases e),[_],⟨rfl,rfl⟩,rfl⟩)
 refine OL.bT (hp:=cc) ?_;refine OL.nil (WL.seq (WL.condT rfl (WL.skip ?_)));obtain⟨f,hfc⟩:∃ f,fs[c]? =some f:=⟨_,ggE (by omega)⟩
 obtain⟨ci,hci,hclt⟩:=hin;obtain⟨cn,cf⟩:=cur;have hci:cn=(ci:Int):=hci;subst hci;have htk:(fs.take (c+1)).foldl (stepL N) r0=stepL N ((ci:Int),cf) f:=by rw[hcur,List.take_add_one,hfc];simp
 obtain⟨es,hes⟩:∃ es,N[ci]? =some es:=⟨_,ggE hclt⟩
 have hesm:=List.mem_of_getElem? hes;have hst:stepL N ((ci:Int),cf) f=partL es ((ci:Int),cf) f:=by unfold stepL;rw[Int.toNat_natCast,hes];rfl
 obtain⟨w,hw1,hw2⟩:=cutF (l:=l) (fs:=fs) (eb:=Feb) (cap:=Fcap) (c:=c) (by rw[←hvF];exact hF) hFc1 hFc2 (by omega);rw[←hvF] at hw1;have hwb:∀ k,n≤k→BelV k w:=fun k hk=>hw2.bel hf hk
 have l2:=st.l2;have l13:=st.l13;have l17:=st.l17;have lc:=st.lc;have ld:=st.ld;obtain⟨now,e2,h6',n6,a1,a2,a3,a4,a5⟩:=atG H M (G.keep hf st.kn (by omega)) st.fr st.kn (by omega) w (fs.take (c+1)) (hw2.keep hf st.kn) (fun f hfm=>List.mem_of_mem_take hfm) (by rw[List.length_take];omega);have hbm:∀ k,n≤k→BelV k (.agg ⟨[vN,vA,vQ,vU]⟩):=fun k hk=>hbm4 vA k hk (hbvA k hk) ⟨_,_,_,hvA⟩
 refine WL.seq (WL.block (WL.seq (WL.reg ?_)));refine OL.mv ?_;refine OL.asg ?_;refine OL.nil ?_;have s0:=st.g0;have s1':=st.g1;have s2':=st.g2;refine WL.seq (WL.regD (by kernel_rfl) (by kernel_rfl) ?_);refine OD.la ty24 ?_;refine OD.la ty27 ?_;refine OD.la ty33 ?_;refine OD.mv ?_;refine OD.mv ?_;refine OD.mv ?_;refine OD.mv ?_;refine OD.ad1 ?_;refine OD.val (by first|rfl|exact WantL.yes rfl rfl rfl) (by repeat' (first|exact trivial|assumption|exact BelV.ptr (by omega)|exact BelV.sl (by omega)|exact BelV.fn1 (by omega)|exact BelV.fn2 (by omega) (by omega)|exact(show ∀ k,_≤k→BelV k _ from by assumption) _ (by omega)|exact rfl|refine And.intro (Exists.intro _ (And.intro rfl ?_)) ?_)) (D.cutTo rfl rfl rfl ⟨_,_,_,hvF⟩ hw1) rfl rfl ?_;refine OD.cf fk10 a1 ?_;refine OD.mv ?_;refine OD.ext ?_;refine OD.ext ?_;refine OD.al ty43 ?_
 refine OD.st (storeN (b:=n6) (o:=0) (old:=tLink.zero) (new:=linkL now) ty43 (T.gsE _ _ _) rfl rfl rfl) ?_;refine OD.asg ?_;refine OD.nil ?_;have st1:=st.keep a2 a3 a4;refine WL.heap (fun Z=>LawS h n vP qn g vN vA vQ vU n3 (n3+1) (n3+1+1+1) (n3+1+1+1+1+1) (.slice (some ⟨n3+1+1+1,0,none⟩) A.length (UNK * 1+A.length)) (vs0.set i (.slice (some ⟨n3+1+1+1+1+1,0,none⟩) a.length (UNK * 2+a.length))) (a.set j (r0.1,!r0.2)) Z (n6+1) ((ci:Int),cf)∧Z.get n6=some (.cells (linkL now))) ⟨st1.keep (((Keep.refl _ _).upd (nlR _) _).upd (nlR _) _) (Nat.le_succ _) ((a4.upd _).set (Nat.lt_succ_self _) _),T.gsE _ _ _⟩ ?_;clear st1 s0 s1' s2';rintro Z1 ⟨st1,b19⟩;refine WL.seq (WL.seq (WL.reg ?_));refine OL.mv ?_;by_cases he2:e2=0
 case neg =>
  have he21:e2=1:=by
   by_cases hb:BadA isF ps (i:Int) (j:Int) (fs.take (c+1))
   · exact((a5.2.2 he0 hGP).1 hb).2
   · obtain⟨_,_,_,_,h,_⟩:=(a5.2.2 he0 hGP).2 hb;exact absurd h he2
  refine OL.nT (hp:=he2) ?_;refine OL.nil (WL.condT rfl (WL.seq (WL.reg ?_)));refine OL.mv ?_;refine OL.bT (hp:=he21) ?_;refine OL.asg ?_;exact OL.nil (WL.ret ⟨fun id e=>(by cases e),[_],⟨rfl,rfl⟩,rfl⟩)
 refine OL.nF (hp:=he2) ?_;refine OL.nil (WL.condF rfl (WL.skip ?_));have hgood2:¬ BadA isF ps (i:Int) (j:Int) (fs.take (c+1)):=fun hb=>by have:=((a5.2.2 he0 hGP).1 hb).2;omega
 have hnow:now=partL es ((ci:Int),cf) f:=by obtain⟨a',k',hA',hk',_,hn'⟩:=(a5.2.2 he0 hGP).2 hgood2;rw[Int.toNat_natCast] at hA' hk';rw[hAi] at hA';cases hA';rw[haj] at hk';cases hk';rw[hn',htk,hst]
 have hnin:∃ x:Nat,now.1=(x:Int)∧x<N.length:=by rw[hnow,← hst];exact hGP.step ⟨ci,rfl,hclt⟩
 have b13:=st1.g13;refine WL.seq (WL.reg ?_);refine OL.la ty43 ?_;refine OL.al ty43 ?_;refine OL.sn ty43 (T.gsE _ _ _) ?_;refine OL.nil ?_;refine WL.heap (fun Z=>LawS h n vP qn g vN vA vQ vU n3 (n3+1) (n3+1+1+1) (n3+1+1+1+1+1) (.slice (some ⟨n3+1+1+1,0,none⟩) A.length (UNK * 1+A.length)) (vs0.set i (.slice (some ⟨n3+1+1+1+1+1,0,none⟩) a.length (UNK * 2+a.length))) (a.set j (r0.1,!r0.2)) Z (n6+1+1) ((ci:Int),cf)∧Z.get n6=some (.cells (linkL now))∧Z.get (n6+1)=some (.cells (linkL ((ci:Int),cf)))) ⟨st1.keep (((Keep.refl _ _).upd (nlR _) _).upd (nlR _) _) (Nat.le_succ _) ((st1.fr.upd _).set (Nat.lt_succ_self _) _),by rw[T.gnE _ _ (by omega),T.gnE _ _ (by omega)];exact b19,T.gsE _ _ _⟩ ?_;clear b13 b19 st1;rintro Z2 ⟨st2,b19,b21⟩;obtain⟨bN,oN,v,r1,r2,r3⟩:=G.hN.at' (E:=EE l) hf st2.kn ty28 ty49 rfl rfl hes;have b13:=st2.g13;have b8:=st2.g2
 have hel:es.length≤1000000000:=by have h1:=take_flat_le N (ci+1);rw[take_flat hes,List.length_append] at h1;have h2:=hGP.many;omega
 refine WL.seq (WL.seq (WL.reg ?_));refine OL.fd fo33_0 ?_;refine OL.l1 ty28 ?_;refine OL.fd fo43_0 ?_;refine OL.l1 ty3 ?_;refine OL.ix r1 ?_;refine OL.ld r2 ?_;refine OL.bi (r3.len ty49) ?_;refine OL.mv ?_;refine OL.nil (WL.block ?_);refine WL.loop (k:=es.length) (fun m L H' M'=>∃ (x:Nat),x≤es.length∧m=es.length-x∧Sub [(136,.int .i64 (x:Int)),(135,.int .i64 (es.length:Int)),(134,v),(18,.int .i64 (c:Int)),(108,.int .i64 (c:Int)),(107,.int .i64 (fs.length:Int)),(6,ptrTo n),(7,ptrTo (n+1)),(8,ptrTo (n+1+1)),(3,.int .i64 (i:Int)),(4,.int .i64 (j:Int)),(5,vF),(13,ptrTo n3),(17,ptrTo (n3+1)),(19,ptrTo n6),(21,ptrTo (n6+1))] L ∧
  LawS h n vP qn g vN vA vQ vU n3 (n3+1) (n3+1+1+1) (n3+1+1+1+1+1) (.slice (some ⟨n3+1+1+1,0,none⟩) A.length (UNK * 1+A.length)) (vs0.set i (.slice (some ⟨n3+1+1+1+1+1,0,none⟩) a.length (UNK * 2+a.length))) (a.set j (r0.1,!r0.2)) H' M' ((ci:Int),cf)∧n6+1+1≤M'∧H'.get n6=some (.cells (linkL now))∧H'.get (n6+1)=some (.cells (linkL ((es.take x).foldl (fun w e=>if e.1=f then (e.2.1,xor e.2.2 cf) else w) ((ci:Int),cf))))) ?_
  ⟨0,Nat.zero_le _,rfl,(by repeat (first|exact Sub.nil|refine Sub.cons rfl ?_)),st2,nlR _,b19,b21⟩
 clear st2 b19 b21 b13 b8;rintro m L H' M' ⟨x,hx,rfl,hs',st2,hM',b19,b21⟩;refine WL.keep hs' ?_;refine WL.seq (WL.reg ?_);by_cases cx:(x:Int)<(es.length:Int)
 case pos =>
  obtain⟨e,hex⟩:∃ e,es[x]? =some e:=⟨_,ggE (by omega)⟩
  obtain⟨bE,oE,t1,t2,_⟩:=(r3.keep hf st2.kn).at (E:=EE l) ty49 ty51 rfl rfl hex;refine OL.bT (hp:=cx) ?_;refine OL.nil (WL.seq (WL.condT rfl (WL.skip ?_)));refine WL.seq (WL.block (WL.seq (WL.reg ?_)));refine OL.ix t1 ?_;refine OL.ld t2 ?_;refine OL.al ty51 ?_;refine OL.sn ty51 (T.gsE _ _ _) ?_;refine OL.nil ?_;generalize hwf:(es.take x).foldl (fun w e=>if e.1=f then (e.2.1,xor e.2.2 cf) else w) ((ci:Int),cf)=wx at b21;have hwf1:(es.take (x+1)).foldl (fun w e=>if e.1=f then (e.2.1,xor e.2.2 cf) else w) ((ci:Int),cf)=if e.1=f then (e.2.1,xor e.2.2 cf) else wx:=by rw[List.take_add_one,hex,List.foldl_append,hwf];rfl
  refine WL.heap (fun Z=>LawS h n vP qn g vN vA vQ vU n3 (n3+1) (n3+1+1+1) (n3+1+1+1+1+1) (.slice (some ⟨n3+1+1+1,0,none⟩) A.length (UNK * 1+A.length)) (vs0.set i (.slice (some ⟨n3+1+1+1+1+1,0,none⟩) a.length (UNK * 2+a.length))) (a.set j (r0.1,!r0.2)) Z (M'+1) ((ci:Int),cf)∧Z.get n6=some (.cells (linkL now))∧Z.get (n6+1)=some (.cells (linkL wx))∧Z.get M'=some (.cells (edgeL e))) ⟨st2.keep (((Keep.refl _ _).upd (nlR _) _).upd (nlR _) _) (Nat.le_succ _) ((st2.fr.upd _).set (Nat.lt_succ_self _) _),by rw[T.gnE _ _ (by omega),T.gnE _ _ (by omega)];exact b19,by rw[T.gnE _ _ (by omega),T.gnE _ _ (by omega)];exact b21,T.gsE _ _ _⟩ ?_;clear st2 b19 b21;rintro Z3 ⟨st2,b19,b21,b23⟩;obtain⟨bF,oF,t3,t4,csF,t5,_⟩:=(hF.keep hf st2.kn).at (E:=EE l) ty34 ty40 rfl rfl hfc;have hbF2:bF<M'+1:=by
   apply Classical.byContradiction;intro hh;unfold cellsOf at t5;rw[st2.fr bF (by omega)] at t5;cases t5
  have l2':=st2.l2;have b13:=st2.g13;have hofe:FtOK e.1:=hok2 es hesm e (List.mem_of_getElem? hex);have hoff:FtOK f:=hok1 f (List.mem_of_getElem? hfc);refine WL.seq (WL.regD (by kernel_rfl) (by kernel_rfl) ?_);refine OD.fd fo51_0 ?_;refine OD.la (r:=featL e.1) ty40 ?_;refine OD.mv ?_;refine OD.mv ?_;refine OD.ix t3 ?_;refine OD.ld t4 ?_;by_cases hef:e.1=f
  · refine OD.val (v:= .bool true) (by first|rfl|exact WantL.yes rfl rfl rfl) (by repeat' (first|exact trivial|assumption|exact BelV.ptr (by omega)|exact BelV.sl (by omega)|exact BelV.fn1 (by omega)|exact BelV.fn2 (by omega) (by omega)|exact(show ∀ k,_≤k→BelV k _ from by assumption) _ (by omega)|exact rfl|refine And.intro (Exists.intro _ (And.intro rfl ?_)) ?_)) (D.bin rfl rfl rfl (by rw[show Value.agg ⟨featL e.1⟩=featV e.1 from rfl,eqFt hofe hoff,decide_eq_true hef])) rfl rfl ?_;refine OD.nil (WL.condT rfl (WL.reg ?_));refine OL.fd fo51_1 ?_;refine OL.fd fo43_0 ?_;refine OL.l1 ty3 ?_;refine OL.fd fo51_1 ?_;refine OL.fd fo43_1 ?_;refine OL.l1 ty4 ?_;refine OL.fd fo43_1 ?_;refine OL.l1 ty4 ?_;refine OL.val (by first|rfl|exact WantL.yes rfl rfl rfl) (D.bin rfl rfl rfl (neqB e.2.2 cf)) rfl rfl ?_;refine OL.bd (link_v e.2.1 (xor e.2.2 cf)) ?_;refine OL.sn (b:=n6+1) (old:=linkL wx) ty43 b21 ?_
    refine OL.nil (WL.reg ?_);refine OL.ad1 ?_;refine OL.mv ?_;refine OL.nil ⟨es.length-(x+1),by omega,x+1,by omega,rfl,(by repeat (first|exact Sub.nil|refine Sub.cons rfl ?_)),?_,by omega,by rw[T.gnE _ _ (by omega)];exact b19,by rw[hwf1,if_pos hef];exact T.gsE _ _ _⟩;exact st2.out (by omega) (by omega)
  · refine OD.val (v:= .bool false) (by first|rfl|exact WantL.yes rfl rfl rfl) (by repeat' (first|exact trivial|assumption|exact BelV.ptr (by omega)|exact BelV.sl (by omega)|exact BelV.fn1 (by omega)|exact BelV.fn2 (by omega) (by omega)|exact(show ∀ k,_≤k→BelV k _ from by assumption) _ (by omega)|exact rfl|refine And.intro (Exists.intro _ (And.intro rfl ?_)) ?_)) (D.bin rfl rfl rfl (by rw[show Value.agg ⟨featL e.1⟩=featV e.1 from rfl,eqFt hofe hoff,decide_eq_false hef])) rfl rfl ?_;refine OD.nil (WL.condF rfl (WL.skip (WL.reg ?_)));refine OL.ad1 ?_;refine OL.mv ?_;exact OL.nil ⟨es.length-(x+1),by omega,x+1,by omega,rfl,(by repeat (first|exact Sub.nil|refine Sub.cons rfl ?_)),st2,by omega,b19,by rw[hwf1,if_neg hef];exact b21⟩
 have hxe:x=es.length:=by omega
 subst hxe;rw[List.take_length] at b21;have hwant:es.foldl (fun w e=>if e.1=f then (e.2.1,xor e.2.2 cf) else w) ((ci:Int),cf)=now:=by rw[hnow];exact want_part (hGP.ft ci es hes).2 ((ci:Int),cf) f
 rw[hwant] at b21;refine OL.bF (hp:=cx) ?_;refine OL.nil (WL.seq (WL.condF rfl (WL.exit ?_)));have l2':=st2.l2;obtain⟨other,e3,h9',n9,o1,o2,o3,o4,o5⟩:=atG H' M' (hturn st2) st2.fr st2.kn (by omega) w (fs.take (c+1)) (hw2.keep hf st2.kn) (fun f hfm=>List.mem_of_mem_take hfm) (by rw[List.length_take];omega);obtain⟨a2',k2',hA2,hk2,he3,hother⟩:=(o5.2.2 he0 hGT).2 hgood2;have hoth:other=flipL now:=by rw[Int.toNat_natCast] at hA2 hk2;unfold turnA at hA2;rw[List.getElem?_set,if_pos rfl,if_pos hiA] at hA2;cases hA2;rw[List.getElem?_set,if_pos rfl,if_pos hja] at hk2;cases hk2;rw[hother,hnow,← hst,← htk];exact fold_flip N _ r0
 have s0:=st2.g0;have s1':=st2.g1;have s17:=st2.g17;have lc':=st2.lc;have l17':=st2.l17;have hbA1:∀ k,M'≤k→BelV k (.agg ⟨[vN,.slice (some ⟨n3+1+1+1,0,none⟩) A.length (UNK * 1+A.length),vQ,vU]⟩):=fun k hk=>hbm4 _ k (by omega) (BelV.sl (by omega)) ⟨_,_,_,rfl⟩
 refine WL.seq (WL.regD (by kernel_rfl) (by kernel_rfl) ?_);refine OD.la ty24 ?_;refine OD.la ty27 ?_;refine OD.la ty33 ?_;refine OD.mv ?_;refine OD.mv ?_;refine OD.mv ?_;refine OD.mv ?_;refine OD.ad1 ?_;refine OD.val (by first|rfl|exact WantL.yes rfl rfl rfl) (by repeat' (first|exact trivial|assumption|exact BelV.ptr (by omega)|exact BelV.sl (by omega)|exact BelV.fn1 (by omega)|exact BelV.fn2 (by omega) (by omega)|exact(show ∀ k,_≤k→BelV k _ from by assumption) _ (by omega)|exact rfl|refine And.intro (Exists.intro _ (And.intro rfl ?_)) ?_)) (D.cutTo rfl rfl rfl ⟨_,_,_,hvF⟩ hw1) rfl rfl ?_;refine OD.cf fk10 o1 ?_;refine OD.mv ?_;refine OD.ext ?_;refine OD.ext ?_;refine OD.al ty43 ?_;refine OD.st (storeN (b:=n9) (o:=0) (old:=tLink.zero) (new:=linkL other) ty43 (T.gsE _ _ _) rfl rfl rfl) ?_;refine OD.asg ?_;refine OD.nil ?_;have st3:=st2.keep o2 o3 o4
 refine WL.heap (fun Z=>LawS h n vP qn g vN vA vQ vU n3 (n3+1) (n3+1+1+1) (n3+1+1+1+1+1) (.slice (some ⟨n3+1+1+1,0,none⟩) A.length (UNK * 1+A.length)) (vs0.set i (.slice (some ⟨n3+1+1+1+1+1,0,none⟩) a.length (UNK * 2+a.length))) (a.set j (r0.1,!r0.2)) Z (n9+1) ((ci:Int),cf)∧Z.get n6=some (.cells (linkL now))∧Z.get (n6+1)=some (.cells (linkL now))∧Z.get n9=some (.cells (linkL other))) ⟨st3.keep (((Keep.refl _ _).upd (nlR _) _).upd (nlR _) _) (Nat.le_succ _) ((o4.upd _).set (Nat.lt_succ_self _) _),by rw[T.gnE _ _ (by omega),T.gnE _ _ (by omega),o2 _ (by omega)];exact b19,by rw[T.gnE _ _ (by omega),T.gnE _ _ (by omega),o2 _ (by omega)];exact b21,T.gsE _ _ _⟩ ?_;clear st2 st3 s0 s1' s17 b19 b21;rintro Z4 ⟨st3,b19,b21,b24⟩;have b13:=st3.g13;subst hoth;subst he3;have rnow:=hr64 now hnin;refine WL.seq (WL.seq (WL.reg ?_));refine OL.la ty43 ?_
 refine OL.la ty43 ?_;refine OL.val (v:= .bool false) (by first|rfl|exact WantL.yes rfl rfl rfl) (D.bin rfl rfl rfl (by rw[show Value.agg ⟨linkL now⟩=linkV now from rfl,neLk rnow rnow];simp)) rfl rfl ?_;refine OL.mv ?_;refine OL.fd fo43_0 ?_;refine OL.l1 ty3 ?_;have tail:∀ (L:LT),True:=fun _=>trivial
 by_cases hc0:(ci:Int)=0
 · have hcn:now=((ci:Int),cf):=by
    have:ci=0:=by omega
    subst this;rw[hGP.n0] at hes;cases hes;rw[hnow];rfl
   refine OL.bT (hp:=hc0) ?_;refine OL.mv ?_;refine OL.la ty43 ?_;refine OL.la ty43 ?_;refine OL.val (v:= .bool false) (by first|rfl|exact WantL.yes rfl rfl rfl) (D.bin rfl rfl rfl (by rw[show Value.agg ⟨linkL now⟩=linkV now from rfl,show Value.agg ⟨linkL ((ci:Int),cf)⟩=linkV ((ci:Int),cf) from rfl,neLk rnow (by rw[←hcn];exact rnow)];simp[hcn])) rfl rfl ?_;refine OL.pT ?_;refine OL.pF ?_;refine OL.mv ?_;refine OL.mv ?_;refine OL.nF (hp:=rfl) ?_;refine OL.pF ?_;refine OL.mv ?_;refine OL.fd fo43_0 ?_;refine OL.l1 ty3 ?_;refine OL.fd fo43_0 ?_;refine OL.l1 ty3 ?_;refine OL.nF (hp:=rfl) ?_;refine OL.pF ?_;refine OL.mv ?_;refine OL.fd fo43_1 ?_;refine OL.l1 ty4 ?_;refine OL.fd fo43_1 ?_;refine OL.l1 ty4 ?_;refine OL.val (v:= .bool false) (by first|rfl|exact WantL.yes rfl rfl rfl) (D.bin rfl rfl rfl (by rw[eqB];show some (Value.bool ((!now.2) == now.2))=_;cases now.2<;>rfl)) rfl rfl ?_
   refine OL.pF ?_;refine OL.nil (WL.condF rfl (WL.skip ?_));refine WL.reg ?_;refine OL.la ty43 ?_;refine OL.sn (b:=n3) (old:=linkL ((ci:Int),cf)) ty43 b13 ?_;refine OL.nil (WL.reg ?_);refine OL.ad1 ?_;refine OL.mv ?_;exact OL.nil ⟨fs.length-(c+1),by omega,c+1,now,by omega,rfl,(by repeat (first|exact Sub.nil|refine Sub.cons rfl ?_)),st3.set now,by rw[htk,hst];exact hnow,hnin⟩
 · refine OL.bF (hp:=hc0) ?_;refine OL.mv ?_;refine OL.ps ?_;refine OL.ps ?_;refine OL.ps ?_;refine OL.pF ?_;refine OL.pF ?_;refine OL.mv ?_;refine OL.mv ?_;refine OL.nF (hp:=rfl) ?_;refine OL.pF ?_;refine OL.mv ?_;refine OL.fd fo43_0 ?_;refine OL.l1 ty3 ?_;refine OL.fd fo43_0 ?_;refine OL.l1 ty3 ?_;refine OL.nF (hp:=rfl) ?_;refine OL.pF ?_;refine OL.mv ?_;refine OL.fd fo43_1 ?_;refine OL.l1 ty4 ?_;refine OL.fd fo43_1 ?_;refine OL.l1 ty4 ?_;refine OL.val (v:= .bool false) (by first|rfl|exact WantL.yes rfl rfl rfl) (D.bin rfl rfl rfl (by rw[eqB];show some (Value.bool ((!now.2) == now.2))=_;cases now.2<;>rfl)) rfl rfl ?_;refine OL.pF ?_;refine OL.nil (WL.condF rfl (WL.skip ?_));refine WL.reg ?_;refine OL.la ty43 ?_;refine OL.sn (b:=n3) (old:=linkL ((ci:Int),cf)) ty43 b13 ?_;refine OL.nil (WL.reg ?_);refine OL.ad1 ?_;refine OL.mv ?_
   exact OL.nil ⟨fs.length-(c+1),by omega,c+1,now,by omega,rfl,(by repeat (first|exact Sub.nil|refine Sub.cons rfl ?_)),st3.set now,by rw[htk,hst];exact hnow,hnin⟩
end
end Go.Sx
