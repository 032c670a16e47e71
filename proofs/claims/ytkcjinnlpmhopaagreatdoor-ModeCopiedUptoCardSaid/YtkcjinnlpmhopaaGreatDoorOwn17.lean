/- RkF: the law ModeCopied: the walk. -/
import Derived.Test.YtkcjinnlpmhopaaGreatDoorOwn16
namespace Go.Sx
open Go.Proofs
set_option maxRecDepth 100000
set_option maxHeartbeats 16000000
theorem long13_cl{l:List (FuncId×List (Ct×Value))}(hl:MemoK l)(f:Ft){h:T Blk}{n:Nat}(hf:Fresh h n):∃ h' n',Cl (EE l) 13 [featV f] h n (.ret (.bool (decide ((300:Int)<(f.1.size:Int)))) h' n')∧Keep n h h'∧n≤n'∧Fresh h' n':=by
 have key:∃ w h' n',Cl (EE l) 13 [featV f] h n (.ret w h' n')∧w= .bool (decide ((300:Int)<(f.1.size:Int)))∧Keep n h h'∧n≤n'∧Fresh h' n':=by have k1:Keep n h (h.upd (some (.cells (featL f))) n):=(Keep.refl n h).upd (nlR _) _;refine Cl.wl (many:=7) (memo_no hl (by decide)) rfl fk13 rfl rfl rfl rfl ?_;refine WL.seq (WL.reg ?_);refine OL.bx ?_;refine OL.asg ?_;refine OL.nil (WL.seq (WL.reg ?_));refine OL.fd fo40_0 ?_;refine OL.l1 ty9 ?_;refine OL.bi (len9 f.1) ?_;refine OL.val (by first|rfl|exact WantL.yes rfl rfl rfl) (D.bin (v:= .bool (decide ((300:Int)<(f.1.size:Int)))) rfl rfl rfl rfl) rfl rfl ?_;refine OL.asg ?_;exact OL.nil (WL.ret ⟨fun id e=>(by cases e),[_],⟨rfl,rfl⟩,rfl,k1,Nat.le_succ n,hf.upd _⟩)
 obtain⟨w,h',n',k1,rfl,k2⟩:=key;exact⟨h',n',k1,k2⟩
theorem build_q{l:List (FuncId×List (Ct×Value))}(b:Option Addr)(k c:Nat):buildA (EE l) 33 [(3,.slice b k c)]=some (.agg ⟨[.slice none 0 0,.slice none 0 0,.slice none 0 0,.slice b k c]⟩):=by simp only[buildA,ty33,tModes,fillA];rfl
theorem build_e{l:List (FuncId×List (Ct×Value))}(f:Ft)(k:Lnk):buildA (EE l) 51 [(0,featV f),(1,linkV k)]=some (.agg ⟨edgeL (f,k)⟩):=by simp only[buildA,ty51,tEdge,fillA,fieldPlaces,nth,ty40,tFeat,ty43,tLink];rfl
theorem BelV.fn4{n b c d e:Nat}{g:FuncId}(h1:b<n)(h2:c<n)(h3:d<n)(h4:e<n):BelV n (.func (.func g) ⟨[]⟩ ⟨[.pointer (some ⟨b,0,none⟩),.pointer (some ⟨c,0,none⟩),.pointer (some ⟨d,0,none⟩),.pointer (some ⟨e,0,none⟩)]⟩):=⟨rfl,by
 have e1:Nat.blt b n=true:=by rw[bltT];exact h1
 have e2:Nat.blt c n=true:=by rw[bltT];exact h2
 have e3:Nat.blt d n=true:=by rw[bltT];exact h3
 have e4:Nat.blt e n=true:=by rw[bltT];exact h4
 simp only[belowV.belowL,belowV,e1,e2,e3,e4];rfl⟩
theorem build_es{l:List (FuncId×List (Ct×Value))}(f:Ft)(k:Lnk):buildSliceA (EE l) 49 1 [(0,.agg ⟨edgeL (f,k)⟩)]=some (edgeL (f,k)):=by simp only[buildSliceA,ty49,tSl,ty51,tEdge];rfl
structure KpS(n pk po:Nat)(h:T Blk)(vP:Value)(qn:Int)(g:SlT)(nd:Int)(ws:List Bool)(N:List (List Edg))(vW vN vA vQ vU:Value)(H:T Blk)(K:Nat)(sN sA sQ sU:Value):Prop where
 red:RedS nd ws N vW vN vA vQ vU h n pk (n+1+1+1) (n+1+1+1+1) (n+1+1) H K
 zp:H.get n=some (.cells [vP])
 zq:H.get (n+1)=some (.cells [.int .i64 qn,slV g])
 zr:H.get (pk+1)=some (.cells [.func (.func 15) ⟨[]⟩ ⟨[ptrTo pk,ptrTo (n+1+1+1),ptrTo (n+1+1+1+1),ptrTo (n+1+1)]⟩])
 zo:H.get po=some (.cells [sN,sA,sQ,sU])
 l1:n+1+1+1+1<pk
 l2:pk+1<po
theorem KpS.step{n pk po:Nat}{h:T Blk}{vP:Value}{qn:Int}{g:SlT}{nd:Int}{ws:List Bool}{N:List (List Edg)}{vW vN vA vQ vU:Value}{H H':T Blk}{K K':Nat}{sN sA sQ sU sN' sA' sQ' sU':Value}(s:KpS n pk po h vP qn g nd ws N vW vN vA vQ vU H K sN sA sQ sU)
 (hh:∀ b,b<po→b≠pk→H'.get b=H.get b) (hk:H'.get pk=some (.cells [.int .i64 (K':Int)])) (ho:H'.get po=some (.cells [sN',sA',sQ',sU'])):KpS n pk po h vP qn g nd ws N vW vN vA vQ vU H' K' sN' sA' sQ' sU':=by
 obtain⟨⟨fB,rW,rN,kp,lk,nn,nw,nm,zk,zn,zw,zm⟩,zp,zq,zr,zo,l1,l2⟩:=s;exact⟨⟨fB,rW,rN,fun b hb=>by rw[hh b (by omega) (by omega)];exact kp b hb,lk,nn,nw,nm,hk,by rw[hh _ (by omega) (by omega)];exact zn,by rw[hh _ (by omega) (by omega)];exact zw,by rw[hh _ (by omega) (by omega)];exact zm⟩,
  by rw[hh _ (by omega) (by omega)];exact zp,by rw[hh _ (by omega) (by omega)];exact zq,by rw[hh _ (by omega) (by omega)];exact zr,ho,l1,l2⟩
theorem sameSl1(v:Value)(h:∃ b l c,v= .slice b l c∧∀ a,b=some a→a.spot=none):sameV 8 v v=true:=by
 obtain⟨b,l,c,rfl,hb⟩:=h;cases b with
 | none=>simp[sameV]
 | some a =>
   obtain⟨x,o,sp⟩:=a;have:sp=none:=hb _ rfl;subst this;simp[sameV]
theorem OwnW.sameS{sz lo len:Nat}{h:T Blk}{s:Value}{cs:List Value}(a:OwnW sz lo h s len cs):sameV 8 s s=true:=by
 refine sameSl1 s ?_;rcases a with⟨rfl,_⟩|⟨b,W,all,_,rfl,_⟩
 ·exact⟨_,_,_,rfl,fun a ha=>by cases ha⟩
 ·exact⟨_,_,_,rfl,fun a ha=>by cases ha;rfl⟩
theorem OwnW.bel{sz lo len n:Nat}{h:T Blk}{s:Value}{cs:List Value}(a:OwnW sz lo h s len cs)(hf:Fresh h n):∀ k,n≤k→BelV k s:=fun k hk=>by
 rcases a with⟨rfl,_⟩|⟨b,W,all,_,rfl,h3,_⟩
 ·trivial
 ·exact Nat.lt_of_lt_of_le (hf.lt h3) hk
section
variable {l:List (FuncId×List (Ct×Value))}(hl:MemoK l)
include hl
theorem copied_cl{Good:Prop}{isF:Ft→Bool}{eqs:SlT→Int}{e0:Int}{ps:List PrRow}{g:SlT}{qn:Int}{N:List (List Edg)}{A:List (List Lnk)}{Q:List (List (List Lnk))}{U:List Lnk}{vP vN vA vQ vU vF vW:Value}{proc arg node:Int}{fs:List Ft}{ws:List Bool}{h:T Blk}{n:Nat}(hf:Fresh h n)(hl7:∀ x∈l,x.1≠7)
 (h5:Kn l 5 [] (.bool true) h n) (h6:∀ H M,n≤M→Fresh H M→Keep n h H→∃ bf h' n',Cl (EE l) 6 [.agg ⟨[vP]⟩,.agg ⟨[.int .i64 qn,slV g]⟩] H M (.ret (.bool bf) h' n')∧Keep M H h'∧M≤n'∧Fresh h' n'∧(bf=true→Good))
 (hG:Good→Given l isF eqs e0 ps g qn N A Q U vP vN vA vQ vU h n)
 (hF:RowsS 3 featL h vF fs) (hkF:Good→∀ f∈fs,Kn l 37 [featV f] (.bool (isF f)) h n) (hbF:fs.length≤1000000000) (hW:RowsS 1 boolL h vW ws)
 (bN:N.length+N.flatten.length≤10000000) (bA:A.length+A.flatten.length≤10000000) (bU:U.length≤10000000) (bQ:Q.length≤1100000) (bX:∀ X∈Q,X.length≤1100000∧∀ x∈X,x.length≤1100000) (bQf:(Q.map List.flatten).flatten.length≤10000000) :
 ∃ v h' n',Cl (EE l) 4 [.agg ⟨[vP]⟩,.agg ⟨[.int .i64 qn,slV g]⟩,.agg ⟨[vN,vA,vQ,vU]⟩,.int .i64 node,vW,.int .i64 proc,.int .i64 arg,vF] h n (.ret v h' n')∧v= .bool true:=by
 refine Cl.wl (many:=211) (memo_no hl (by decide)) rfl fk4 rfl rfl rfl rfl ?_;have hvWs:∃ b c,vW= .slice b ws.length c:=hW.isS;refine WL.seq (WL.reg ?_);(iterate 5 refine OL.bx ?_);refine OL.asg ?_;refine OL.nil ?_;have hbox:cellsL vW=[vW]:=by obtain⟨b,c,e⟩:=hvWs;rw[e];rfl
 rw[hbox];refine WL.heap (fun H=>H.get n=some (.cells [vP])∧H.get (n+1)=some (.cells [.int .i64 qn,slV g])∧H.get (n+1+1)=some (.cells [vN,vA,vQ,vU])∧H.get (n+1+1+1)=some (.cells [.int .i64 node])∧H.get (n+1+1+1+1)=some (.cells [vW])∧Fresh H (n+1+1+1+1+1)∧Keep n h H) ⟨?_,?_,?_,?_,T.gsE _ _ _,((((hf.upd _).upd _).upd _).upd _).upd _,(((((Keep.refl n h).upd (nlR _) _).upd (by omega) _).upd (by omega) _).upd (by omega) _).upd (by omega) _⟩ ?_
 ·rw[T.gnE _ _ (by omega),T.gnE _ _ (by omega),T.gnE _ _ (by omega),T.gnE _ _ (by omega)];exact T.gsE _ _ _
 ·rw[T.gnE _ _ (by omega),T.gnE _ _ (by omega),T.gnE _ _ (by omega)];exact T.gsE _ _ _
 ·rw[T.gnE _ _ (by omega),T.gnE _ _ (by omega)];exact T.gsE _ _ _
 ·rw[T.gnE _ _ (by omega)];exact T.gsE _ _ _
 rintro H0 ⟨z0,z1,z2,z3,z4,f0,k0⟩;refine WL.seq (WL.seq (WL.reg ?_));refine OL.cf fk5 (h5.cl k0 _) ?_;refine OL.un ?_;refine OL.nil (WL.condF rfl (WL.skip ?_));obtain⟨bf,h1,n1,g1,g2,g3,g4,hgood⟩:=h6 H0 (n+1+1+1+1+1) (by omega) f0 k0;have kn1:Keep n h h1:=k0.trans (by omega) g2;have y0:h1.get n=some (.cells [vP]):=by rw[g2 _ (by omega)];exact z0
 have y1:h1.get (n+1)=some (.cells [.int .i64 qn,slV g]):=by rw[g2 _ (by omega)];exact z1
 have y2:h1.get (n+1+1)=some (.cells [vN,vA,vQ,vU]):=by rw[g2 _ (by omega)];exact z2
 have y3:h1.get (n+1+1+1)=some (.cells [.int .i64 node]):=by rw[g2 _ (by omega)];exact z3
 have y4:h1.get (n+1+1+1+1)=some (.cells [vW]):=by rw[g2 _ (by omega)];exact z4
 refine WL.seq (WL.seq (WL.reg ?_));refine OL.la ty24 ?_;refine OL.la ty27 ?_;refine OL.cf fk6 g1 ?_;refine OL.un ?_;cases bf with
 | false =>
   (iterate 43 (first|refine OL.mv ?_|refine OL.ps ?_|refine OL.pT ?_));refine OL.nil (WL.condT rfl (WL.seq (WL.reg ?_)));refine OL.asg ?_;exact OL.nil (WL.ret ⟨fun id e=>(by cases e),[_],⟨rfl,rfl⟩,rfl⟩)
 | true =>
 have hgood:=hgood rfl;have G:=hG hgood;obtain⟨bl,h2,n2,a1,a2,a3,a4,hlight⟩:=light_cl hl7 g4 (G.hN.keep hf kn1) (G.hA.keep hf kn1) (G.hQ.keep hf kn1) (G.hU.keep hf kn1) bN bA bU bQ bX;have kn2:Keep n h h2:=kn1.trans (by omega) a2;have x0:h2.get n=some (.cells [vP]):=by rw[a2 _ (by omega)];exact y0
 have x1:h2.get (n+1)=some (.cells [.int .i64 qn,slV g]):=by rw[a2 _ (by omega)];exact y1
 have x2:h2.get (n+1+1)=some (.cells [vN,vA,vQ,vU]):=by rw[a2 _ (by omega)];exact y2
 have x3:h2.get (n+1+1+1)=some (.cells [.int .i64 node]):=by rw[a2 _ (by omega)];exact y3
 have x4:h2.get (n+1+1+1+1)=some (.cells [vW]):=by rw[a2 _ (by omega)];exact y4
 clear z0 z1 z2 z3 z4;refine OL.mv ?_;refine OL.la ty33 ?_;refine OL.cf fk7 a1 ?_;refine OL.un ?_;refine OL.pF ?_;cases bl with
 | false =>
   (iterate 38 (first|refine OL.mv ?_|refine OL.ps ?_|refine OL.pT ?_));refine OL.nil (WL.condT rfl (WL.seq (WL.reg ?_)));refine OL.asg ?_;exact OL.nil (WL.ret ⟨fun id e=>(by cases e),[_],⟨rfl,rfl⟩,rfl⟩)
 | true =>
 have hlight:=hlight rfl;clear y0 y1 y2 y3 y4;(iterate 2 refine OL.mv ?_);refine OL.bi (hF.len ty34) ?_;by_cases c50:(50:Int)<(fs.length:Int)
 ·refine OL.bT (hp:=c50) ?_;(iterate 34 (first|refine OL.pF ?_|refine OL.mv ?_|refine OL.ps ?_|refine OL.pT ?_));refine OL.nil (WL.condT rfl (WL.seq (WL.reg ?_)));refine OL.asg ?_;exact OL.nil (WL.ret ⟨fun id e=>(by cases e),[_],⟨rfl,rfl⟩,rfl⟩)
 refine OL.bF (hp:=c50) ?_;refine OL.pF ?_;refine OL.mv ?_;refine OL.l1 ty53 ?_;refine OL.bi (hW.len ty53) ?_;by_cases c100:(100:Int)<(ws.length:Int)
 ·refine OL.bT (hp:=c100) ?_;(iterate 29 (first|refine OL.pF ?_|refine OL.mv ?_|refine OL.ps ?_|refine OL.pT ?_));refine OL.nil (WL.condT rfl (WL.seq (WL.reg ?_)));refine OL.asg ?_;exact OL.nil (WL.ret ⟨fun id e=>(by cases e),[_],⟨rfl,rfl⟩,rfl⟩)
 refine OL.bF (hp:=c100) ?_;refine OL.pF ?_;(iterate 2 refine OL.mv ?_);obtain⟨h3,n3,s1,s2,s3,s4⟩:=con8_cl hl (p:=fun f=>decide ((300:Int)<(f.1.size:Int))) (g:=13) (cs:=[]) fk13 a4 (hF.keep hf kn2) hbF (fun f hfm H M hM hFM hkM=>long13_cl hl f hFM);have kn3:Keep n h h3:=kn2.trans (by omega) s2;have y0:h3.get n=some (.cells [vP]):=by rw[s2 _ (by omega)];exact x0
 have y1:h3.get (n+1)=some (.cells [.int .i64 qn,slV g]):=by rw[s2 _ (by omega)];exact x1
 have y2:h3.get (n+1+1)=some (.cells [vN,vA,vQ,vU]):=by rw[s2 _ (by omega)];exact x2
 have y3:h3.get (n+1+1+1)=some (.cells [.int .i64 node]):=by rw[s2 _ (by omega)];exact x3
 have y4:h3.get (n+1+1+1+1)=some (.cells [vW]):=by rw[s2 _ (by omega)];exact x4
 clear x0 x1 x2 x3 x4;refine OL.cf fk8 s1 ?_;refine OL.pF ?_;cases hlong:fs.any (fun f=>decide ((300:Int)<(f.1.size:Int))) with
 | true =>
   (iterate 24 (first|refine OL.mv ?_|refine OL.ps ?_|refine OL.pT ?_));refine OL.nil (WL.condT rfl (WL.seq (WL.reg ?_)));refine OL.asg ?_;exact OL.nil (WL.ret ⟨fun id e=>(by cases e),[_],⟨rfl,rfl⟩,rfl⟩)
 | false =>
 refine OL.mv ?_;obtain⟨r,h4,n4,p1,p2,p3,p4,p5,p6,p7⟩:=check_cl hl s4 (G.keep hf kn3 (show n≤n3 by omega));have kn4:Keep n h h4:=kn3.trans (by omega) p2;have x0:h4.get n=some (.cells [vP]):=by rw[p2 _ (by omega)];exact y0
 have x1:h4.get (n+1)=some (.cells [.int .i64 qn,slV g]):=by rw[p2 _ (by omega)];exact y1
 have x2:h4.get (n+1+1)=some (.cells [vN,vA,vQ,vU]):=by rw[p2 _ (by omega)];exact y2
 have x3:h4.get (n+1+1+1)=some (.cells [.int .i64 node]):=by rw[p2 _ (by omega)];exact y3
 have x4:h4.get (n+1+1+1+1)=some (.cells [vW]):=by rw[p2 _ (by omega)];exact y4
 refine OL.la ty24 ?_;refine OL.la ty27 ?_;refine OL.la ty33 ?_;refine OL.cf fk14 p1 ?_;clear y0 y1 y2 y3 y4;by_cases hr0:r=0
 case neg =>
  refine OL.nT (hp:=hr0) ?_;(iterate 18 (first|refine OL.pF ?_|refine OL.mv ?_|refine OL.ps ?_|refine OL.pT ?_));refine OL.nil (WL.condT rfl (WL.seq (WL.reg ?_)));refine OL.asg ?_;exact OL.nil (WL.ret ⟨fun id e=>(by cases e),[_],⟨rfl,rfl⟩,rfl⟩)
 have he:e0=0:=by apply Classical.byContradiction;intro hh;exact hh (by rw[←p5 hh];exact hr0)
 have hGP:GraphP isF eqs ps g N A Q U:=by apply Classical.byContradiction;intro hh;have:=p7 he hh;omega
 subst he;refine OL.nF (hp:=hr0) ?_;refine OL.pF ?_;refine OL.mv ?_;refine OL.l1 ty3 ?_;by_cases c1:node<1
 ·refine OL.bT (hp:=c1) ?_;(iterate 14 (first|refine OL.pF ?_|refine OL.mv ?_|refine OL.ps ?_|refine OL.pT ?_));refine OL.nil (WL.condT rfl (WL.seq (WL.reg ?_)));refine OL.asg ?_;exact OL.nil (WL.ret ⟨fun id e=>(by cases e),[_],⟨rfl,rfl⟩,rfl⟩)
 obtain⟨nd,rfl⟩:∃ nd:Nat,node=(nd:Int):=⟨node.toNat,by omega⟩
 refine OL.bF (hp:=c1) ?_;refine OL.pF ?_;refine OL.mv ?_;refine OL.l1 ty3 ?_;refine OL.fd fo33_0 ?_;refine OL.l1 ty28 ?_;refine OL.bi (G.hN.len ty28) ?_;by_cases c2:(N.length:Int)≤(nd:Int)
 ·refine OL.bT (hp:=c2) ?_;(iterate 6 (first|refine OL.pF ?_|refine OL.mv ?_|refine OL.ps ?_));refine OL.pT ?_;refine OL.nil (WL.condT rfl (WL.seq (WL.reg ?_)));refine OL.asg ?_;exact OL.nil (WL.ret ⟨fun id e=>(by cases e),[_],⟨rfl,rfl⟩,rfl⟩)
 refine OL.bF (hp:=c2) ?_;refine OL.pF ?_;refine OL.mv ?_;refine OL.fd fo33_0 ?_;refine OL.l1 ty28 ?_;refine OL.bi (G.hN.len ty28) ?_;by_cases c3:(4000:Int)≤(N.length:Int)
 ·refine OL.bT (hp:=c3) ?_;refine OL.pF ?_;refine OL.nil (WL.condT rfl (WL.seq (WL.reg ?_)));refine OL.asg ?_;exact OL.nil (WL.ret ⟨fun id e=>(by cases e),[_],⟨rfl,rfl⟩,rfl⟩)
 refine OL.bF (hp:=c3) ?_;refine OL.pF ?_;refine OL.nil (WL.condF rfl (WL.skip ?_));have hnl:nd<N.length:=by omega
 have hNl:N.length<4000:=by omega
 have hn1:1≤nd:=by omega
 have hlt:n+1+1+1+1<n4:=p4.lt x4;refine WL.seq (WL.reg ?_);refine OL.al ty3 ?_;refine OL.st (store1 (b:=n4) (o:=0) (cs:=[.int .i64 0]) ty3 rfl (T.gsE _ _ _) rfl (Nat.lt_succ_self 0)) ?_;refine OL.nil (WL.seq (WL.reg ?_));refine OL.val (by first|rfl|exact WantL.yes rfl rfl rfl) (D.makeFunc rfl rfl rfl) rfl rfl ?_;refine OL.al ty55 ?_;refine OL.st (store1 (b:=n4+1) (o:=0) (cs:=[.nilFunc]) ty55 rfl (T.gsE _ _ _) rfl (Nat.lt_succ_self 0)) ?_;refine OL.nil (WL.seq (WL.reg ?_));refine OL.val (by first|rfl|exact WantL.yes rfl rfl rfl) (D.makeFunc rfl rfl rfl) rfl rfl ?_;refine OL.asg ?_;refine OL.nil ?_
 refine WL.heap (fun H=>RedS nd ws N vW vN vA vQ vU h n n4 (n+1+1+1) (n+1+1+1+1) (n+1+1) H 0∧H.get n=some (.cells [vP])∧H.get (n+1)=some (.cells [.int .i64 qn,slV g])∧H.get (n4+1)=some (.cells [.func (.func 15) ⟨[]⟩ ⟨[ptrTo n4,ptrTo (n+1+1+1),ptrTo (n+1+1+1+1),ptrTo (n+1+1)]⟩])∧Fresh H (n4+1+1)) ⟨⟨hf,hW,G.hN,fun b hb=>?_,by omega,by omega,by omega,by omega,?_,?_,?_,?_⟩,?_,?_,T.gsE _ _ _,?_⟩ ?_
 ·rw[T.gnE _ _ (by omega),T.gnE _ _ (by omega),T.gnE _ _ (by omega),T.gnE _ _ (by omega)];exact kn4 b hb
 ·rw[T.gnE _ _ (by omega),T.gnE _ _ (by omega)];exact T.gsE _ _ _
 ·rw[T.gnE _ _ (by omega),T.gnE _ _ (by omega),T.gnE _ _ (by omega),T.gnE _ _ (by omega)];exact x3
 ·rw[T.gnE _ _ (by omega),T.gnE _ _ (by omega),T.gnE _ _ (by omega),T.gnE _ _ (by omega)];exact x4
 ·rw[T.gnE _ _ (by omega),T.gnE _ _ (by omega),T.gnE _ _ (by omega),T.gnE _ _ (by omega)];exact x2
 ·rw[T.gnE _ _ (by omega),T.gnE _ _ (by omega),T.gnE _ _ (by omega),T.gnE _ _ (by omega)];exact x0
 ·rw[T.gnE _ _ (by omega),T.gnE _ _ (by omega),T.gnE _ _ (by omega),T.gnE _ _ (by omega)];exact x1
 ·exact(((p4.upd _).set (Nat.lt_succ_self _) _).upd _).set (Nat.lt_succ_self _) _
 clear x0 x1 x2 x3 x4;rintro H5 ⟨rd5,x0,x1,xr,f5⟩;obtain⟨sU,U',H6,n6,u1,u2,u3,u4,u5,u6,u7⟩:=list_cl hl f5 rd5 xr (by omega) G.hU (by omega);obtain⟨ub,uc,hsU⟩:=u5.isS;have hsUc:cellsL (.agg ⟨[.slice none 0 0,.slice none 0 0,.slice none 0 0,sU]⟩)=[.slice none 0 0,.slice none 0 0,.slice none 0 0,sU]:=by rw[hsU];rfl
 have y2:=rd5.zm;refine WL.seq (WL.reg ?_);refine OL.mv ?_;refine OL.fd fo33_3 ?_;refine OL.l1 ty31 ?_;refine OL.cv fk16 u1 ?_;refine OL.bd (q:=[(3,sU)]) (v:= .agg ⟨[.slice none 0 0,.slice none 0 0,.slice none 0 0,sU]⟩) (by rw[hsU];exact build_q ub _ uc) ?_;refine OL.al ty33 ?_;refine OL.sn (b:=n6) (old:=[.slice none 0 0,.slice none 0 0,.slice none 0 0,.slice none 0 0]) (new:=[.slice none 0 0,.slice none 0 0,.slice none 0 0,sU]) ty33 (T.gsE _ _ _) (hs:=by rw[hsUc];rfl) (hv:=by rw[hsUc,hsU];rfl) (hov:=by rw[hsUc];rfl) ?_;refine OL.nil ?_;have v7:∀ b,b<n4+1+1→b≠n4→H6.get b=H5.get b:=u7;refine WL.heap (fun H=>KpS n n4 n6 h vP qn g nd ws N vW vN vA vQ vU H U.length (.slice none 0 0) (.slice none 0 0) (.slice none 0 0) sU∧LO (n4+1+1) H sU U'∧Fresh H (n6+1)) ⟨?_,?_,(u4.upd _).set (Nat.lt_succ_self _) _⟩ ?_
 ·have k6:Keep n6 H6 ((H6.upd (some (.cells tModes.zero)) n6).upd (some (.cells [.slice none 0 0,.slice none 0 0,.slice none 0 0,sU])) n6):=((Keep.refl n6 H6).upd (nlR _) _).upd (nlR _) _;have r6:=u6.mono k6 u4 (by omega);rw[Nat.zero_add] at r6;refine⟨r6,?_,?_,?_,T.gsE _ _ _,hlt,by omega⟩
  ·rw[k6 _ (by omega),v7 _ (by omega) (by omega)];exact x0
  ·rw[k6 _ (by omega),v7 _ (by omega) (by omega)];exact x1
  ·rw[k6 _ (by omega),v7 _ (by omega) (by omega)];exact xr
 ·refine OwnW.keep u5 fun c hc=>?_
  have:=OwnW.lt u5 u4 hc;rw[T.gnE _ _ (by omega),T.gnE _ _ (by omega)]
 clear x0 x1 xr y2;rintro H7 ⟨kp7,own7,f7⟩;have hn6:n4+1<n6:=kp7.l2;obtain⟨vs,r1,r2,r3⟩:=G.hN;obtain⟨es,he⟩:∃ es,N[nd]? =some es:=⟨_,ggE hnl⟩
 obtain⟨vd,hvd⟩:∃ v,vs[nd]? =some v:=⟨_,ggE (by omega)⟩
 have hsl:∀ v∈vs,∃ b l c,v= .slice b l c:=fun v hv=>by
  obtain⟨x,hx⟩:=List.getElem?_of_mem hv;have hlx:=(gsI hx).1;obtain⟨ex,hex⟩:∃ ex,N[x]? =some ex:=⟨_,ggE (by omega)⟩
  obtain⟨b,c,e⟩:=(r3 x v ex hx hex).isS;exact⟨_,_,_,e⟩
 obtain⟨db,dl,dc,hds⟩:=hsl vd (List.mem_of_getElem? hvd);have kn7:Keep n h H7:=kp7.red.kp;obtain⟨H8,c1',c2',c3',c4'⟩:=clone28_cl hl f7 (r1.keep hf kn7) r2 hsl (by omega) (by omega);have own9:OwnW 1 (n6+1) (H8.upd (some (.cells [vd])) (n6+1+1+1)) (.slice (some ⟨n6+1+1,0,none⟩) N.length (UNK * 1+N.length)) N.length vs :=
  .inr ⟨n6+1+1,N.length,vs,by omega,rfl,by rw[T.gnE _ _ (by omega)];exact c4',by rw[Nat.mul_one];exact r2,nlR _,by omega,by rw[Nat.mul_one,← r2,List.take_length]⟩
 have hdc:allCells [vd]=true:=by rw[hds];rfl
 obtain⟨w9,H9,M9,q1,q2,q3,q4,q5,q6⟩:=OwnW.append (E:=EE l) (st:=28) (e:=49) (j:=tSl 51) (x:= .slice (some ⟨n6+1+1+1,0,none⟩) 1 1) (new:=[vd]) (xl:=1) el28 own9 (c3'.upd _) (by omega) ⟨_,_,rfl⟩ (by simp only[rowA,cells_of (T.gsE (some (Blk.cells [vd])) H8 (n6+1+1+1))];rfl) (by omega) hdc (by omega);obtain⟨bd,od,j1,j2⟩:=RowsS.at1 (E:=EE l) (enc:=fun v:Value=>v) (r1.keep hf kn7) ty28 ty49 rfl rfl hvd;have j3:=loadA_mono (h':=H8) (fun _ _ hc=>c2'.cells f7 hc) j2;have hbd:bd<n6+1:=by
  apply Classical.byContradiction;intro hh;have hc:cellsOf H7 bd=none:=by unfold cellsOf;rw[f7 bd (by omega)]
  simp only[loadA,ty49,hc] at j2;cases j2
 have hbvN:∀ k,n≤k→BelV k vN:=fun k hk=>r1.bel hf hk
 have hbvd:∀ k,n≤k→BelV k vd:=fun k hk=>(r3 nd vd es hvd he).bel hf hk
 have ym8:H8.get (n+1+1)=some (.cells [vN,vA,vQ,vU]):=by rw[c2' _ (by omega)];exact kp7.red.zm
 have yn8:H8.get (n+1+1+1)=some (.cells [.int .i64 (nd:Int)]):=by rw[c2' _ (by omega)];exact kp7.red.zn
 have ym7:=kp7.red.zm;have yn7:=kp7.red.zn;obtain⟨vNb,vNl,vNc,hvN⟩:∃ b l c,vN= .slice b l c:=by obtain⟨b,c,e⟩:=r1.isS;exact⟨_,_,_,e⟩
 have sameN:sameV 8 vN vN=true:=sameSl1 vN (by obtain⟨eb,c,e,hb,_⟩:=r1;exact⟨_,_,_,e,fun a ha=>(hb a ha).1⟩);have samed:sameV 8 vd vd=true:=sameSl1 vd (by obtain⟨eb,c,e,hb,_⟩:=r3 nd vd es hvd he;exact⟨_,_,_,e,fun a ha=>(hb a ha).1⟩);have hb9:∀ k,M9≤k→BelV k w9:=OwnW.bel q5 q2;have hbs:buildSliceA (EE l) 28 1 [(0,vd)]=some [vd]:=by rw[hds];simp only[buildSliceA,ty28,tSl,ty49];rfl
 refine WL.cut (fun L2 H2 M2=>Sub [(5,.int .i64 proc),(6,.int .i64 arg),(7,vF),(8,ptrTo n),(9,ptrTo (n+1)),(10,ptrTo (n+1+1)),(19,.func (.func 16) ⟨[]⟩ ⟨[ptrTo (n4+1)]⟩),(20,ptrTo n6)] L2∧∃ (K2:Nat) (sN:Value) (N':List (List Edg)) (F:Nat→Prop),K2≤50000000∧KpS n n4 n6 h vP qn g nd ws N vW vN vA vQ vU H2 K2 sN (.slice none 0 0) (.slice none 0 0) sU∧Fresh H2 M2∧n6<M2∧(∀ b,F b→n4+1<b∧b≠n6∧b<M2)∧Foot F H2 (fun H'=>Rows2 5 edgeL H' sN N'∧RowsS 2 linkL H' sU U')∧All2 (All2 (CopE nd N.length)) (N ++ [es]) N') ?_ ?_
 ·refine WL.seq (WL.regG [(4,2),(5,2),(7,2)] (by kernel_rfl) (by kernel_rfl) ?_);refine OG.fd fo33_0 ?_;refine OG.l1 ty28 ?_;refine OG.cf fk17 c1' ?_;refine OG.fd fo33_0 ?_;refine OG.l1 ty28 ?_;refine OG.l1 ty3 ?_;refine OG.ix j1 ?_;refine OG.ld j3 ?_;refine OG.bs hbs ?_;refine OG.bi (appendB q1) ?_;refine OG.bi (OwnW.ln ty28 q5) ?_;refine OG.mv ?_;refine OG.nil ⟨FlOK.cons rfl rfl (load1 ty28 rfl (cells_of ym7) rfl) sameN (FlOK.cons rfl rfl (load1 ty3 rfl (cells_of yn7) rfl) (sameI _) (FlOK.cons rfl rfl j2 samed FlOK.nil)),?_⟩;refine WL.block ?_;have fr9:∀ b,b<n6+1→H9.get b=H7.get b:=fun b hb=>by
   rw[q4 b (by omega) (fun e=>by have e2:n6+1+1=b:=Option.some.inj e;omega),T.gnE _ _ (by omega),c2' b (by omega)]
  have kp9:KpS n n4 n6 h vP qn g nd ws N vW vN vA vQ vU H9 U.length (.slice none 0 0) (.slice none 0 0) (.slice none 0 0) sU:=kp7.step (fun b hb _=>fr9 b (by omega)) (by rw[fr9 _ (by omega)];exact kp7.red.zk) (by rw[fr9 _ (by omega)];exact kp7.zo);have own79:LO (n4+1+1) H9 sU U':=OwnW.keep own7 fun c hc=>fr9 c (OwnW.lt own7 f7 hc)
  have rows9:RowsS 1 (fun v:Value=>[v]) H9 w9 (vs ++ [vd]):=OwnW.rows (fun _=>rfl) q5 (flat_one _).symm (by rw[List.length_append,r2];rfl);have blk9:∀ b,blkOf w9=some b→n6<b∧b<M9:=fun b hb=>⟨by have:=(OwnW.blk q5 hb).1;omega,OwnW.lt q5 q2 hb⟩
  have blkU:∀ b,blkOf sU=some b→n4+1<b∧b<n6:=fun b hb=>⟨by have:=(OwnW.blk own7 hb).1;omega,by have:=OwnW.lt u5 u4 hb;omega⟩
  have hNN:((N ++ [es]).flatten.length:Nat)≤20000000:=by
   have h1:es.length≤N.flatten.length:=by have h2:=take_flat_le N (nd+1);rw[take_flat he,List.length_append] at h2;omega
   rw[List.flatten_append,List.length_append];simp only[List.flatten_cons,List.flatten_nil,List.append_nil];omega
  have rowi:∀ (i:Nat) (v:Value) (e:List Edg),(vs ++ [vd])[i]? =some v→(N ++ [es])[i]? =some e→RowsS 5 edgeL h v e:=fun i v e hv hee=>by
   rcases Nat.lt_or_ge i N.length with h1|h1
   ·rw[List.getElem?_append_left (by omega)] at hv hee;exact r3 i v e hv hee
   ·rw[List.getElem?_append_right (by omega)] at hv hee;rw[r2] at hv;obtain⟨e1,e2⟩:i-N.length=0∧True:=⟨by have:=(gsI hee).1;simp at this;omega,trivial⟩
    rw[e1] at hv hee;simp at hv hee;subst hv;subst hee;exact r3 nd vd es hvd he
  refine WL.loop (k:=N.length+1) (fun m L H M=>∃ (i:Nat) (sN:Value) (vs':List Value) (N':List (List Edg)) (F:Nat→Prop),i≤N.length+1∧m=N.length+1-i∧Sub [(101,.int .i64 (i:Int)),(100,.int .i64 ((N.length+1:Nat):Int)),(99,w9),(18,ptrTo (n4+1)),(5,.int .i64 proc),(6,.int .i64 arg),(7,vF),(8,ptrTo n),(9,ptrTo (n+1)),(10,ptrTo (n+1+1)),(19,.func (.func 16) ⟨[]⟩ ⟨[ptrTo (n4+1)]⟩),(20,ptrTo n6)] L ∧
   KpS n n4 n6 h vP qn g nd ws N vW vN vA vQ vU H (U.length+((N ++ [es]).take i).flatten.length) sN (.slice none 0 0) (.slice none 0 0) sU∧(∀ b,b<M9→b≠n4→b≠n6→H.get b=H9.get b)∧OwnW 1 M9 H sN i vs'∧All2 (All2 (CopE nd N.length)) ((N ++ [es]).take i) N' ∧
   Foot F H (fun H'=>∀ (j:Nat) (v:Value) (e':List Edg),vs'[j]? =some v→N'[j]? =some e'→RowsS 5 edgeL H' v e')∧(∀ b,F b→M9≤b∧b<M∧blkOf sN≠some b)∧M9≤M∧Fresh H M) ?_
   ⟨0,.slice none 0 0,[],[],fun _=>False,Nat.zero_le _,rfl,(by repeat (first|exact Sub.nil|refine Sub.cons rfl ?_)),kp9,fun _ _ _ _=>rfl,.inl ⟨rfl,rfl,rfl⟩,.nil,fun H' _ j v e' hv _=>by simp at hv,fun b hb=>hb.elim,nlR _,q2⟩
  rintro m L H M ⟨i,sN,vs',N',F,hi,rfl,hs,kp,fr,own,cp,ft,hF9,hM,fH⟩;refine WL.keep hs ?_;have hvl:vs'.length=i:=by have:=own.csl;omega
  have hNl':N'.length=i:=by rw[cp.len,List.length_take,List.length_append,List.length_singleton];omega
  have rw9:RowsS 1 (fun v:Value=>[v]) H w9 (vs ++ [vd]):=rows9.agree fun b hb=>by obtain⟨h1,h2⟩:=blk9 b hb;exact fr b h2 (by omega) (by omega)
  have hM9:n6+1<M9:=by omega
  refine WL.seq (WL.reg ?_);by_cases ci:(i:Int)<((N.length+1:Nat):Int)
  case neg =>
   have hi':i=N.length+1:=by omega
   subst hi';refine OL.bF (hp:=ci) ?_;refine OL.nil (WL.seq (WL.condF rfl (WL.exit ⟨rfl,(by repeat (first|exact Sub.nil|refine Sub.cons rfl ?_)),_,sN,N',fun b=>F b∨blkOf sN=some b∨blkOf sU=some b,?_,kp,fH,by omega,fun b hb=>?_,fun H' hh=>⟨⟨vs',?_,by omega,?_⟩,?_⟩,?_⟩)))
   ·have:=take_flat_le (N ++ [es]) (N.length+1);omega
   ·rcases hb with hb|hb|hb
    ·obtain⟨h1,h2,_⟩:=hF9 b hb;omega
    ·have h1:=(OwnW.blk own hb).1;have h2:=OwnW.lt own fH hb;omega
    ·have:=blkU b hb;omega
   ·have hro:RowsS 1 (fun v:Value=>[v]) H sN vs':=OwnW.rows (fun _=>rfl) own (flat_one _).symm hvl;exact hro.agree fun b hb=>hh b (.inr (.inl hb))
   ·exact fun j v e' hv he'=>ft H' (fun b hb=>hh b (.inl hb)) j v e' hv he'
   ·have hro:RowsS 2 linkL H9 sU U':=OwnW.rows (fun _=>rfl) own79 rfl rfl;refine hro.agree fun b hb=>?_
    have:=blkU b hb;rw[hh b (.inr (.inr hb)),fr b (by omega) (by omega) (by omega)]
   ·rw[List.take_of_length_le (by rw[List.length_append];simp)] at cp;exact cp
  have hiN:i<(N ++ [es]).length:=by rw[List.length_append];simp;omega
  obtain⟨ei,hei⟩:∃ ei,(N ++ [es])[i]? =some ei:=⟨_,ggE hiN⟩
  obtain⟨vi,hvi⟩:∃ v,(vs ++ [vd])[i]? =some v:=⟨_,ggE (by rw[List.length_append,r2];simp;omega)⟩
  have ri:=rowi i vi ei hvi hei;obtain⟨b,o,j1,j2⟩:=RowsS.at1 (E:=EE l) (enc:=fun v:Value=>v) rw9 ty28 ty49 rfl rfl hvi;have hti:=take_flat hei;have hle:=take_flat_le (N ++ [es]) (i+1);rw[hti,List.length_append] at hle;refine OL.bT (hp:=ci) ?_;refine OL.nil (WL.seq (WL.condT rfl (WL.skip ?_)));refine WL.seq (WL.block (WL.seq (WL.reg ?_)));refine OL.ix j1 ?_;refine OL.ld j2 ?_;refine OL.asg ?_;refine OL.nil (WL.seq (WL.reg ?_));refine OL.asg ?_;refine OL.nil (WL.seq (WL.seq (WL.reg ?_)));refine OL.mv ?_;refine OL.bi (ri.len ty49) ?_;refine OL.mv ?_;refine OL.nil (WL.block ?_)
  refine WL.loop (k:=ei.length) (fun m L H' M'=>∃ (j:Nat) (w:Value) (E':List Edg),j≤ei.length∧m=ei.length-j∧Sub [(107,.int .i64 (j:Int)),(106,.int .i64 (ei.length:Int)),(105,vi),(23,w),(101,.int .i64 (i:Int)),(100,.int .i64 ((N.length+1:Nat):Int)),(99,w9),(18,ptrTo (n4+1)),(5,.int .i64 proc),(6,.int .i64 arg),(7,vF),(8,ptrTo n),(9,ptrTo (n+1)),(10,ptrTo (n+1+1)),(19,.func (.func 16) ⟨[]⟩ ⟨[ptrTo (n4+1)]⟩),(20,ptrTo n6)] L ∧
   OwnW 5 M H' w E'.length (E'.flatMap edgeL)∧All2 (CopE nd N.length) (ei.take j) E'∧KpS n n4 n6 h vP qn g nd ws N vW vN vA vQ vU H' (U.length+((N ++ [es]).take i).flatten.length+j) sN (.slice none 0 0) (.slice none 0 0) sU∧(∀ b,b<M→b≠n4→H'.get b=H.get b)∧M≤M'∧Fresh H' M') ?_
   ⟨0,.slice none 0 0,[],Nat.zero_le _,rfl,(by repeat (first|exact Sub.nil|refine Sub.cons rfl ?_)),.inl ⟨rfl,rfl,rfl⟩,.nil,kp,fun _ _ _=>rfl,nlR _,fH⟩
  rintro m' L' H' M' ⟨j,w,E',hj,rfl,hs',ow,cpe,kp',fr',hM',fH'⟩;refine WL.keep hs' ?_;have hEl:E'.length=j:=by rw[cpe.len,List.length_take];omega
  refine WL.seq (WL.reg ?_);by_cases cj:(j:Int)<(ei.length:Int)
  ·obtain⟨e,hee⟩:∃ e,ei[j]? =some e:=⟨_,ggE (by omega)⟩
   obtain⟨b2,o2,p1',p2',_⟩:=(ri.keep hf kp'.red.kp).at (E:=EE l) ty49 ty51 rfl rfl hee;have htj:ei.take (j+1)=ei.take j ++ [e]:=by rw[List.take_add_one,hee];rfl
   refine OL.bT (hp:=cj) ?_;refine OL.nil (WL.seq (WL.condT rfl (WL.skip ?_)));refine WL.seq (WL.block (WL.seq (WL.reg ?_)));refine OL.ix p1' ?_;refine OL.ld p2' ?_;refine OL.al ty51 ?_;refine OL.sn ty51 (T.gsE _ _ _) ?_;refine OL.nil ?_;refine WL.heap (fun Z=>Z.get M'=some (.cells (edgeL e))∧Fresh Z (M'+1)∧Keep M' H' Z) ⟨T.gsE _ _ _,(fH'.upd _).set (Nat.lt_succ_self _) _,((Keep.refl M' H').upd (nlR _) _).upd (nlR _) _⟩ ?_;rintro Z ⟨z1,fZ,kZ⟩;have kpZ:KpS n n4 n6 h vP qn g nd ws N vW vN vA vQ vU Z (U.length+((N ++ [es]).take i).flatten.length+j) sN (.slice none 0 0) (.slice none 0 0) sU:=kp'.step (fun b hb _=>kZ b (by omega)) (by rw[kZ _ (by omega)];exact kp'.red.zk) (by rw[kZ _ (by omega)];exact kp'.zo);obtain⟨y,H3,n3',a1',a2',a3',a4',a5',a6'⟩:=red_cl hl fZ kpZ.red (by omega) e.2
   have hM3:H3.get M'=some (.cells (edgeL e)):=by rw[a6' _ (by omega) (by omega)];exact z1
   have owZ:OwnW 5 M (H3.upd (some (.cells (edgeL (e.1,y)))) n3') w E'.length (E'.flatMap edgeL):=OwnW.keep ow fun c hc=>by have h1:=(OwnW.blk ow hc).1;have h2:=OwnW.lt ow fH' hc;rw[T.gnE _ _ (by omega),a6' c (by omega) (by omega),kZ c h2]
   obtain⟨w',H5',M5,w1,w2,w3,w4,w5,w6⟩:=OwnW.append (E:=EE l) (st:=49) (e:=51) (j:=tEdge) (x:= .slice (some ⟨n3',0,none⟩) 1 1) (new:=edgeL (e.1,y)) (xl:=1) el49 owZ (a4'.upd _) (by omega) ⟨_,_,rfl⟩ (by simp only[rowA,cells_of (T.gsE (some (Blk.cells (edgeL (e.1,y)))) H3 n3')];rfl) (by omega) rfl (by omega);have hbw:∀ k,M'≤k→BelV k w:=OwnW.bel ow fH';have hbw':∀ k,M5≤k→BelV k w':=OwnW.bel w5 w2;have hbr:∀ k,M'≤k→BelV k (.func (.func 15) ⟨[]⟩ ⟨[ptrTo n4,ptrTo (n+1+1+1),ptrTo (n+1+1+1+1),ptrTo (n+1+1)]⟩):=fun k hk=>BelV.fn4 (by omega) (by omega) (by omega) (by omega)
   have zrZ:=kpZ.zr;refine WL.regG [(2,6)] (by kernel_rfl) (by kernel_rfl) ?_;refine OG.mv ?_;refine OG.fd fo51_0 ?_;refine OG.la ty40 ?_;refine OG.l1 ty55 ?_;refine OG.fd fo51_1 ?_;refine OG.la ty43 ?_;refine OG.cv fk15 a1' ?_;refine OG.bd (build_e e.1 y) ?_;refine OG.bs (build_es e.1 y) ?_;refine OG.bi (appendB w1) ?_;refine OG.asg ?_;refine OG.nil ⟨FlOK.cons rfl rfl (loadN ty40 rfl (cells_of hM3) rfl) (sameAgg (by simp[sameV.sameL,sameV,kindEq,bytesEq_refl])) FlOK.nil,?_⟩;refine WL.reg ?_;refine OL.ad1 ?_;refine OL.mv ?_;have fr5:∀ b,b<M→b≠n4→H5'.get b=H'.get b:=fun b hb hne=>by rw[w4 b (by omega) (fun e=>by have:=(OwnW.blk ow e).1;omega),T.gnE _ _ (by omega),a6' b (by omega) hne,kZ b (by omega)]
   have fr5k:H5'.get n4=some (.cells [.int .i64 ((U.length+((N ++ [es]).take i).flatten.length+(j+1):Nat):Int)]):=by rw[w4 n4 (by omega) (fun e=>by have:=(OwnW.blk ow e).1;omega),T.gnE _ _ (by omega)];exact a5'
   refine OL.nil ⟨ei.length-(j+1),by omega,j+1,w',E' ++ [(e.1,y)],by omega,rfl,(by repeat (first|exact Sub.nil|refine Sub.cons rfl ?_)),?_,?_,?_,fun b hb hne=>(fr5 b hb hne).trans (fr' b hb hne),by omega,w2⟩
   ·rw[List.length_append,List.flatMap_append];exact w5
   ·rw[htj];exact cpe.snoc ⟨rfl,a2'⟩
   ·exact kp'.step (fun b hb hne=>fr5 b (by omega) hne) fr5k (by rw[fr5 _ (by omega) (by omega)];exact kp'.zo)
  ·have hj':j=ei.length:=by omega
   subst hj';rw[List.take_length] at cpe;refine OL.bF (hp:=cj) ?_;refine OL.nil (WL.seq (WL.condF rfl (WL.exit ?_)));obtain⟨wb,wc,hw⟩:=ow.isS;have hwc:allCells [w]=true:=by rw[hw];rfl
   have ownN:OwnW 1 M9 (H'.upd (some (.cells [w])) M') sN i vs':=OwnW.keep own fun c hc=>by have h1:=(OwnW.blk own hc).1;have h2:=OwnW.lt own fH hc;rw[T.gnE _ _ (by omega)];exact fr' c h2 (by omega)
   obtain⟨sN',H5',M5,w1,w2,w3,w4,w5,w6⟩:=OwnW.append (E:=EE l) (st:=28) (e:=49) (j:=tSl 51) (x:= .slice (some ⟨M',0,none⟩) 1 1) (new:=[w]) (xl:=1) el28 ownN (fH'.upd _) (by omega) ⟨_,_,rfl⟩ (by simp only[rowA,cells_of (T.gsE (some (Blk.cells [w])) H' M')];rfl) (by omega) hwc (by omega);have hbsw:buildSliceA (EE l) 28 1 [(0,w)]=some [w]:=by rw[hw];simp only[buildSliceA,ty28,tSl,ty49];rfl
   have fr5:∀ b,b<M'→blkOf sN≠some b→H5'.get b=H'.get b:=fun b hb hne=>by rw[w4 b (by omega) hne,T.gnE _ _ (by omega)]
   have low:∀ b,b<M9→blkOf sN≠some b:=fun b hb e=>by have:=(OwnW.blk own e).1;omega
   have hzo:H5'.get n6=some (.cells [sN,.slice none 0 0,.slice none 0 0,sU]):=by rw[fr5 _ (by omega) (low _ (by omega))];exact kp'.zo
   have hzo':=kp'.zo;refine WL.reg ?_;refine OL.fd fo33_0 ?_;refine OL.l1 ty28 ?_;refine OL.mv ?_;refine OL.bs hbsw ?_;refine OL.bi (appendB w1) ?_;refine OL.fd fo33_0 ?_;refine OL.st (store1 (b:=n6) (o:=0) (cs:=[sN,.slice none 0 0,.slice none 0 0,sU]) ty28 rfl hzo (OwnW.isC w5) (Nat.succ_pos _)) ?_;refine OL.nil (WL.reg ?_);refine OL.ad1 ?_;refine OL.mv ?_;have fr6:∀ b,b<M'→b≠n6→blkOf sN≠some b→(H5'.upd (some (.cells ([sN,.slice none 0 0,.slice none 0 0,sU].set 0 sN'))) n6).get b=H'.get b:=fun b hb hne hs=>by rw[T.gnE _ _ (by omega)];exact fr5 b hb hs
   have blkw:∀ b,blkOf w=some b→M≤b∧b<M':=fun b hb=>⟨(OwnW.blk ow hb).1,OwnW.lt ow fH' hb⟩
   refine OL.nil ⟨N.length+1-(i+1),by omega,i+1,sN',vs' ++ [w],N' ++ [E'],fun b=>F b∨blkOf w=some b,by omega,rfl,(by repeat (first|exact Sub.nil|refine Sub.cons rfl ?_)),?_,fun b hb h1 h2=>?_,OwnW.keep w5 fun c hc=>?_,?_,fun H'' hh jj v e' hv he'=>?_,fun b hb=>?_,by omega,w2.set (by omega) _⟩
   ·refine kp'.step (fun b hb hne=>fr6 b (by omega) (by omega) (low b (by omega))) ?_ (T.gsE _ _ _);rw[fr6 _ (by omega) (by omega) (low _ (by omega)),hti,List.length_append,← Nat.add_assoc];exact kp'.red.zk
   ·rw[fr6 b (by omega) h2 (low b hb),fr' b (by omega) h1];exact fr b hb h1 h2
   ·rw[T.gnE _ _ (by have:=(OwnW.blk w5 hc).1;omega)]
   ·rw[List.take_add_one,hei];exact cp.snoc cpe
   ·rcases Nat.lt_or_ge jj i with h1|h1
    ·rw[List.getElem?_append_left (by omega)] at hv he';refine ft H'' (fun b hb=>?_) jj v e' hv he';obtain⟨g1,g2,g3⟩:=hF9 b hb;rw[hh b (.inl hb),fr6 b (by omega) (by omega) g3];exact fr' b g2 (by omega)
    ·rw[List.getElem?_append_right (by omega)] at hv he';have hj0:jj-vs'.length=0:=by have:=(gsI hv).1;simp at this;omega
     have hj1:jj-N'.length=0:=by omega
     rw[hj0] at hv;rw[hj1] at he';simp at hv he';subst hv;subst he';have hro:RowsS 5 edgeL H' w E':=OwnW.rows (fun _=>rfl) ow rfl rfl;refine hro.agree fun b hb=>?_
     obtain⟨g1,g2⟩:=blkw b hb;rw[hh b (.inr hb),fr6 b g2 (by omega) (fun e=>by have:=OwnW.lt own fH e;omega)]
   ·rcases hb with hb|hb
    ·obtain⟨g1,g2,g3⟩:=hF9 b hb;refine⟨g1,by omega,fun e=>?_⟩;rcases w6 b e with h1|h1
     ·exact g3 h1
     ·omega
    ·obtain⟨g1,g2⟩:=blkw b hb;refine⟨by omega,by omega,fun e=>?_⟩;rcases w6 b e with h1|h1
     ·have:=OwnW.lt own fH h1;omega
     ·omega
 rintro L2 H2 M2 ⟨hs2,K2,sN,N',FN,hK2,kp2,f2,hM2,hFN,ftN,cpN⟩;refine WL.keep hs2 ?_;have hAl:A.length=Q.length:=by rw[hGP.sh.1,hGP.sh.2.1]
 have hbvA:∀ k,n≤k→BelV k vA:=fun k hk=>by obtain⟨vs,r,_⟩:=G.hA;exact r.bel hf hk
 refine WL.cut (fun L3 H3 M3=>Sub [(5,.int .i64 proc),(6,.int .i64 arg),(7,vF),(8,ptrTo n),(9,ptrTo (n+1)),(10,ptrTo (n+1+1)),(20,ptrTo n6)] L3∧∃ (K3:Nat) (sA sQ:Value) (A':List (List Lnk)) (Q':List (List (List Lnk))),KpS n n4 n6 h vP qn g nd ws N vW vN vA vQ vU H3 K3 sN sA sQ sU∧Fresh H3 M3∧n6<M3 ∧
  (Rows2 5 edgeL H3 sN N'∧RowsS 2 linkL H3 sU U')∧Rows2 2 linkL H3 sA A'∧Rows3 2 linkL H3 sQ Q'∧All2 (All2 (Cop nd N.length)) A A'∧All2 (All2 (All2 (Cop nd N.length))) Q Q') ?_ ?_
 ·refine WL.seq (WL.reg ?_);have y2:=kp2.red.zm;refine OL.fd fo33_1 ?_;refine OL.l1 ty29 ?_;refine OL.bi (G.hA.len ty29) ?_;refine OL.mv ?_;refine OL.nil (WL.block ?_);refine WL.loop (k:=A.length) (fun m L H M=>∃ (i:Nat) (sA sQ:Value) (vsA vsQ:List Value) (A':List (List Lnk)) (Q':List (List (List Lnk))) (F:Nat→Prop),i≤A.length∧m=A.length-i∧Sub [(132,.int .i64 (i:Int)),(131,.int .i64 (A.length:Int)),(5,.int .i64 proc),(6,.int .i64 arg),(7,vF),(8,ptrTo n),(9,ptrTo (n+1)),(10,ptrTo (n+1+1)),(19,.func (.func 16) ⟨[]⟩ ⟨[ptrTo (n4+1)]⟩),(20,ptrTo n6)] L ∧
   KpS n n4 n6 h vP qn g nd ws N vW vN vA vQ vU H (K2+(A.take i).flatten.length+((Q.take i).map List.flatten).flatten.length) sN sA sQ sU∧(∀ b,b<M2→b≠n4→b≠n6→H.get b=H2.get b)∧OwnW 1 M2 H sA i vsA∧OwnW 1 M2 H sQ i vsQ∧(∀ b,blkOf sA=some b→blkOf sQ≠some b)∧All2 (All2 (Cop nd N.length)) (A.take i) A'∧All2 (All2 (All2 (Cop nd N.length))) (Q.take i) Q' ∧
   Foot F H (fun H'=>(∀ (j:Nat) (v:Value) (xs:List Lnk),vsA[j]? =some v→A'[j]? =some xs→RowsS 2 linkL H' v xs)∧∀ (j:Nat) (v:Value) (X:List (List Lnk)),vsQ[j]? =some v→Q'[j]? =some X→Rows2 2 linkL H' v X)∧(∀ b,F b→M2≤b∧b<M∧blkOf sA≠some b∧blkOf sQ≠some b)∧M2≤M∧Fresh H M) ?_
   ⟨0,.slice none 0 0,.slice none 0 0,[],[],[],[],fun _=>False,Nat.zero_le _,rfl,(by repeat (first|exact Sub.nil|refine Sub.cons rfl ?_)),kp2,fun _ _ _ _=>rfl,.inl ⟨rfl,rfl,rfl⟩,.inl ⟨rfl,rfl,rfl⟩,fun b hb=>by(cases hb),.nil,.nil,fun H' _=>⟨fun j v x hv _=>by simp at hv,fun j v x hv _=>by simp at hv⟩,fun b hb=>hb.elim,nlR _,f2⟩
  rintro m L H M ⟨i,sA,sQ,vsA,vsQ,A',Q',F,hi,rfl,hs,kp,fr,ownA,ownQ,dis,cpA,cpQ,ft,hF2,hM,fH⟩;refine WL.keep hs ?_;have hvA:vsA.length=i:=by have:=ownA.csl;omega
  have hvQ:vsQ.length=i:=by have:=ownQ.csl;omega
  have hA'l:A'.length=i:=by rw[cpA.len,List.length_take];omega
  have hQ'l:Q'.length=i:=by rw[cpQ.len,List.length_take];omega
  refine WL.seq (WL.reg ?_);by_cases ci:(i:Int)<(A.length:Int)
  case neg =>
   have hi':i=A.length:=by omega
   subst hi';refine OL.bF (hp:=ci) ?_;have e1:A.take A.length=A:=List.take_length;have e2:Q.take A.length=Q:=by rw[hAl];exact List.take_length
   rw[e1] at cpA;rw[e2] at cpQ;refine OL.nil (WL.seq (WL.condF rfl (WL.exit ⟨rfl,(by repeat (first|exact Sub.nil|refine Sub.cons rfl ?_)),_,sA,sQ,A',Q',kp,fH,by omega,?_,⟨vsA,OwnW.rows (fun _=>rfl) ownA (flat_one _).symm hvA,by omega,ft.here.1⟩,⟨vsQ,OwnW.rows (fun _=>rfl) ownQ (flat_one _).symm hvQ,by omega,ft.here.2⟩,cpA,cpQ⟩)));refine ftN H fun b hb=>?_
   obtain⟨h1,h2,h3⟩:=hFN b hb;exact fr b h3 (by omega) h2
  obtain⟨a,ha⟩:∃ a,A[i]? =some a:=⟨_,ggE (by omega)⟩
  obtain⟨X,hX⟩:∃ X,Q[i]? =some X:=⟨_,ggE (by omega)⟩
  have htA:=take_flat ha;have hleA:=take_flat_le A (i+1);have hleA':=take_flat_le A (i+1);rw[htA,List.length_append] at hleA;have htQ:(((Q.take (i+1)).map List.flatten).flatten:List Lnk)=((Q.take i).map List.flatten).flatten ++ X.flatten:=by rw[List.take_add_one,hX];simp
  have hleQ:(((Q.take (i+1)).map List.flatten).flatten:List Lnk).length≤(Q.map List.flatten).flatten.length:=by rw[List.map_take];exact take_flat_le _ _
  rw[htQ,List.length_append] at hleQ;have knH:=kp.red.kp;obtain⟨b,o,va,j1,j2,j3⟩:=G.hA.at' (E:=EE l) hf knH ty29 ty31 rfl rfl ha;obtain⟨wA,ya,H1,M1,c1',c2',c3',c4',c5',c6',c7'⟩:=list_cl hl fH kp.red kp.zr (by omega) j3 (by omega);have hb:b<M:=by
   apply Classical.byContradiction;intro hh;have hc:cellsOf H b=none:=by unfold cellsOf;rw[fH b (by omega)]
   simp only[loadA,ty31,hc] at j2;cases j2
  have hbva:∀ k,n≤k→BelV k va:=fun k hk=>j3.bel hf hk
  have hbsA:∀ k,M≤k→BelV k sA:=OwnW.bel ownA fH;have hbl:∀ k,n4+1+1≤k→BelV k (.func (.func 16) ⟨[]⟩ ⟨[ptrTo (n4+1)]⟩):=fun k hk=>BelV.fn1 (by omega)
  have hbwA:∀ k,M1≤k→BelV k wA:=OwnW.bel c5' c4';obtain⟨wb,wc,hwA⟩:=c5'.isS;have hwAc:allCells [wA]=true:=by rw[hwA];rfl
  have blkA:∀ b,blkOf wA=some b→M≤b∧b<M1:=fun b hb=>⟨(OwnW.blk c5' hb).1,OwnW.lt c5' c4' hb⟩
  have ownA1:OwnW 1 M2 (H1.upd (some (.cells [wA])) M1) sA i vsA:=OwnW.keep ownA fun c hc=>by have h1:=(OwnW.blk ownA hc).1;have h2:=OwnW.lt ownA fH hc;rw[T.gnE _ _ (by omega)];exact c7' c h2 (by omega)
  obtain⟨sA',H5',M5,w1,w2,w3,w4,w5,w6⟩:=OwnW.append (E:=EE l) (st:=29) (e:=31) (j:=tSl 43) (x:= .slice (some ⟨M1,0,none⟩) 1 1) (new:=[wA]) (xl:=1) el29 ownA1 (c4'.upd _) (by omega) ⟨_,_,rfl⟩ (by simp only[rowA,cells_of (T.gsE (some (Blk.cells [wA])) H1 M1)];rfl) (by omega) hwAc (by omega);have hbsA':∀ k,M5≤k→BelV k sA':=OwnW.bel w5 w2;have hbsw:buildSliceA (EE l) 29 1 [(0,wA)]=some [wA]:=by rw[hwA];simp only[buildSliceA,ty29,tSl,ty31];rfl
  have lowA:∀ b,b<M2→blkOf sA≠some b:=fun b hb e=>by have:=(OwnW.blk ownA e).1;omega
  have lowQ:∀ b,b<M2→blkOf sQ≠some b:=fun b hb e=>by have:=(OwnW.blk ownQ e).1;omega
  have fr5:∀ b,b<M1→blkOf sA≠some b→H5'.get b=H1.get b:=fun b hb hne=>by rw[w4 b (by omega) hne,T.gnE _ _ (by omega)]
  have zo1:H1.get n6=some (.cells [sN,sA,sQ,sU]):=by rw[c7' _ (by omega) (by omega)];exact kp.zo
  have hzo:H5'.get n6=some (.cells [sN,sA,sQ,sU]):=by rw[fr5 _ (by omega) (lowA _ (by omega))];exact zo1
  have zoH:=kp.zo;have zmH:=kp.red.zm;refine OL.bT (hp:=ci) ?_;refine OL.nil (WL.seq (WL.condT rfl (WL.skip ?_)));refine WL.seq (WL.block (WL.seq (WL.reg ?_)));refine OL.mv ?_;refine OL.asg ?_;refine OL.nil (WL.seq (WL.regG [(1,8)] (by kernel_rfl) (by kernel_rfl) ?_));(iterate 6 (first|refine OG.fd fo33_1 ?_|refine OG.l1 ty29 ?_|refine OG.mv ?_));refine OG.ix j1 ?_;refine OG.ld j2 ?_;refine OG.cv fk16 c1' ?_;refine OG.bs hbsw ?_;refine OG.bi (appendB w1) ?_;refine OG.fd fo33_1 ?_;refine OG.st (store1 (b:=n6) (o:=1) (cs:=[sN,sA,sQ,sU]) ty29 rfl hzo (OwnW.isC w5) (Nat.succ_lt_succ (Nat.succ_pos _))) ?_;refine OG.nil ⟨FlOK.cons rfl rfl (load1 (o:=1) ty29 rfl (cells_of zo1) rfl) (OwnW.sameS ownA) FlOK.nil,?_⟩;have fr6:∀ b,b<M1→b≠n6→blkOf sA≠some b→(H5'.upd (some (.cells ([sN,sA,sQ,sU].set 1 sA'))) n6).get b=H1.get b:=fun b hb hne hs=>by rw[T.gnE _ _ (by omega)];exact fr5 b hb hs
  refine WL.heap (fun Z=>KpS n n4 n6 h vP qn g nd ws N vW vN vA vQ vU Z (K2+(A.take (i+1)).flatten.length+((Q.take i).map List.flatten).flatten.length) sN sA' sQ sU∧(∀ b,b<M1→b≠n4→b≠n6→blkOf sA≠some b→Z.get b=H1.get b)∧OwnW 1 M2 Z sA' (i+1) (vsA ++ [wA])∧Fresh Z M5) ⟨?_,fun b hb h1 h2 h3=>fr6 b hb h2 h3,OwnW.keep w5 fun c hc=>?_,w2.set (by omega) _⟩ ?_
  ·refine kp.step (fun b hb hne=>?_) ?_ (T.gsE _ _ _)
   ·rw[fr6 b (by omega) (by omega) (lowA b (by omega))];exact c7' b (by omega) hne
   ·rw[fr6 _ (by omega) (by omega) (lowA _ (by omega)),htA,List.length_append];have e:K2+((A.take i).flatten.length+a.length)+((Q.take i).map List.flatten).flatten.length=K2+(A.take i).flatten.length+((Q.take i).map List.flatten).flatten.length+a.length:=by omega
    rw[e];exact c6'.zk
  ·rw[T.gnE _ _ (by have:=(OwnW.blk w5 hc).1;omega)]
  rintro Z ⟨kpZ,frZ,ownZ,fZ⟩;have hMM:M≤M1:=c3';have blkA':∀ b,blkOf sA'=some b→blkOf sA=some b∨M1+1≤b:=w6;have htop:M1+1≤M5:=w3;refine WL.seq (WL.reg ?_);refine OL.asg ?_;obtain⟨bq,oq,vX,x1,x2,x3⟩:=G.hQ.at' (E:=EE l) hf kpZ.red.kp ty30 ty29 rfl rfl hX;have zmZ:=kpZ.red.zm;refine OL.nil (WL.seq (WL.seq (WL.reg ?_)));refine OL.fd fo33_2 ?_;refine OL.l1 ty30 ?_;refine OL.mv ?_;refine OL.ix x1 ?_;refine OL.ld x2 ?_;refine OL.bi (x3.len ty29) ?_;refine OL.mv ?_;refine OL.nil (WL.block ?_);have hXl:X.length≤1100000:=(bX X (List.mem_of_getElem? hX)).1
  refine WL.loop (k:=X.length) (fun m L H' M'=>∃ (j:Nat) (w:Value) (vsI:List Value) (X':List (List Lnk)) (FI:Nat→Prop),j≤X.length∧m=X.length-j∧Sub [(153,.int .i64 (j:Int)),(152,.int .i64 (X.length:Int)),(151,vX),(27,w),(132,.int .i64 (i:Int)),(131,.int .i64 (A.length:Int)),(5,.int .i64 proc),(6,.int .i64 arg),(7,vF),(8,ptrTo n),(9,ptrTo (n+1)),(10,ptrTo (n+1+1)),(19,.func (.func 16) ⟨[]⟩ ⟨[ptrTo (n4+1)]⟩),(20,ptrTo n6)] L ∧
   KpS n n4 n6 h vP qn g nd ws N vW vN vA vQ vU H' (K2+(A.take (i+1)).flatten.length+((Q.take i).map List.flatten).flatten.length+(X.take j).flatten.length) sN sA' sQ sU∧OwnW 1 M5 H' w j vsI∧All2 (All2 (Cop nd N.length)) (X.take j) X'∧Foot FI H' (fun H''=>∀ (jj:Nat) (v:Value) (xs:List Lnk),vsI[jj]? =some v→X'[jj]? =some xs→RowsS 2 linkL H'' v xs)∧(∀ b,FI b→M5≤b∧b<M'∧blkOf w≠some b) ∧
   (∀ b,b<M5→b≠n4→H'.get b=Z.get b)∧M5≤M'∧Fresh H' M') ?_
   ⟨0,.slice none 0 0,[],[],fun _=>False,Nat.zero_le _,rfl,(by repeat (first|exact Sub.nil|refine Sub.cons rfl ?_)),kpZ,.inl ⟨rfl,rfl,rfl⟩,.nil,fun H' _ jj v xs hv _=>by simp at hv,fun b hb=>hb.elim,fun _ _ _=>rfl,nlR _,fZ⟩
  rintro m' L' H' M' ⟨j,w,vsI,X',FI,hj,rfl,hs',kpI,ownI,cpI,ftI,hFI,frI,hMI,fI⟩;refine WL.keep hs' ?_;have hvI:vsI.length=j:=by have:=ownI.csl;omega
  have hX'l:X'.length=j:=by rw[cpI.len,List.length_take];omega
  refine WL.seq (WL.reg ?_);by_cases cj:(j:Int)<(X.length:Int)
  ·obtain⟨x,hx⟩:∃ x,X[j]? =some x:=⟨_,ggE (by omega)⟩
   have htx:=take_flat hx;have hlex:=take_flat_le X (j+1);rw[htx,List.length_append] at hlex;obtain⟨bx,ox,vx,y1,y2',y3⟩:=x3.at' (E:=EE l) hf kpI.red.kp ty29 ty31 rfl rfl hx;obtain⟨wI,yI,H3,M3,d1,d2,d3,d4,d5,d6,d7⟩:=list_cl hl fI kpI.red kpI.zr (by omega) y3 (by omega);obtain⟨ib,ic,hwI⟩:=d5.isS;have hwIc:allCells [wI]=true:=by rw[hwI];rfl
   have blkI:∀ b,blkOf wI=some b→M'≤b∧b<M3:=fun b hb=>⟨(OwnW.blk d5 hb).1,OwnW.lt d5 d4 hb⟩
   have ownI1:OwnW 1 M5 (H3.upd (some (.cells [wI])) M3) w j vsI:=OwnW.keep ownI fun c hc=>by have h1:=(OwnW.blk ownI hc).1;have h2:=OwnW.lt ownI fI hc;rw[T.gnE _ _ (by omega)];exact d7 c h2 (by omega)
   obtain⟨w',H8',M8,e1,e2,e3,e4,e5,e6⟩:=OwnW.append (E:=EE l) (st:=29) (e:=31) (j:=tSl 43) (x:= .slice (some ⟨M3,0,none⟩) 1 1) (new:=[wI]) (xl:=1) el29 ownI1 (d4.upd _) (by omega) ⟨_,_,rfl⟩ (by simp only[rowA,cells_of (T.gsE (some (Blk.cells [wI])) H3 M3)];rfl) (by omega) hwIc (by omega);have hbsI:buildSliceA (EE l) 29 1 [(0,wI)]=some [wI]:=by rw[hwI];simp only[buildSliceA,ty29,tSl,ty31];rfl
   have fr8:∀ b,b<M3→blkOf w≠some b→H8'.get b=H3.get b:=fun b hb hne=>by rw[e4 b (by omega) hne,T.gnE _ _ (by omega)]
   have lowI:∀ b,b<M5→blkOf w≠some b:=fun b hb e=>by have:=(OwnW.blk ownI e).1;omega
   refine OL.bT (hp:=cj) ?_;refine OL.nil (WL.seq (WL.condT rfl (WL.skip ?_)));refine WL.seq (WL.block (WL.seq (WL.reg ?_)));refine OL.ix y1 ?_;refine OL.ld y2' ?_;refine OL.asg ?_;refine OL.nil (WL.reg ?_);(iterate 3 refine OL.mv ?_);refine OL.cv fk16 d1 ?_;refine OL.bs hbsI ?_;refine OL.bi (appendB e1) ?_;refine OL.asg ?_;refine OL.nil (WL.reg ?_);refine OL.ad1 ?_;refine OL.mv ?_;refine OL.nil ⟨X.length-(j+1),by omega,j+1,w',vsI ++ [wI],X' ++ [yI],fun b=>FI b∨blkOf wI=some b,by omega,rfl,(by repeat (first|exact Sub.nil|refine Sub.cons rfl ?_)),?_,e5,?_,fun H'' hh jj v xs hv hxs=>?_,fun b hb=>?_,fun b hb hne=>?_,by omega,e2⟩
   ·refine kpI.step (fun b hb hne=>?_) ?_ ?_
    ·rw[fr8 b (by omega) (lowI b (by omega))];exact d7 b (by omega) hne
    ·rw[fr8 _ (by omega) (lowI _ (by omega)),htx,List.length_append,← Nat.add_assoc];exact d6.zk
    ·rw[fr8 _ (by omega) (lowI _ (by omega)),d7 _ (by omega) (by omega)];exact kpI.zo
   ·rw[List.take_add_one,hx];exact cpI.snoc d2.all
   ·rcases Nat.lt_or_ge jj j with h1|h1
    ·rw[List.getElem?_append_left (by omega)] at hv hxs;refine ftI H'' (fun b hb=>?_) jj v xs hv hxs;obtain⟨g1,g2,g3⟩:=hFI b hb;rw[hh b (.inl hb),fr8 b (by omega) g3];exact d7 b g2 (by omega)
    ·rw[List.getElem?_append_right (by omega)] at hv hxs;have hj0:jj-vsI.length=0:=by have:=(gsI hv).1;simp at this;omega
     have hj1:jj-X'.length=0:=by omega
     rw[hj0] at hv;rw[hj1] at hxs;simp at hv hxs;subst hv;subst hxs;have hro:RowsS 2 linkL H3 wI yI:=OwnW.rows (fun _=>rfl) d5 rfl rfl;refine hro.agree fun b hb=>?_
     obtain⟨g1,g2⟩:=blkI b hb;rw[hh b (.inr hb),fr8 b g2 (fun e=>by have:=OwnW.lt ownI fI e;omega)]
   ·rcases hb with hb|hb
    ·obtain⟨g1,g2,g3⟩:=hFI b hb;refine⟨g1,by omega,fun e=>?_⟩;rcases e6 b e with h1|h1
     ·exact g3 h1
     ·omega
    ·obtain⟨g1,g2⟩:=blkI b hb;refine⟨by omega,by omega,fun e=>?_⟩;rcases e6 b e with h1|h1
     ·have:=OwnW.lt ownI fI h1;omega
     ·omega
   ·rw[fr8 b (by omega) (lowI b hb),d7 b (by omega) hne];exact frI b hb hne
  ·have hj':j=X.length:=by omega
   subst hj';rw[List.take_length] at cpI kpI;refine OL.bF (hp:=cj) ?_;refine OL.nil (WL.seq (WL.condF rfl (WL.exit ?_)));obtain⟨ib,ic,hwI⟩:=ownI.isS;have hwIc:allCells [w]=true:=by rw[hwI];rfl
   have belowQ:∀ b,blkOf sQ=some b→M2≤b∧b<M:=fun b hb=>⟨(OwnW.blk ownQ hb).1,OwnW.lt ownQ fH hb⟩
   have ownQ1:OwnW 1 M2 (H'.upd (some (.cells [w])) M') sQ i vsQ:=OwnW.keep ownQ fun c hc=>by obtain⟨h1,h2⟩:=belowQ c hc;rw[T.gnE _ _ (by omega),frI c (by omega) (by omega),frZ c (by omega) (by omega) (by omega) (fun e=>dis c e hc)];exact c7' c h2 (by omega)
   obtain⟨sQ',H8',M8,e1,e2,e3,e4,e5,e6⟩:=OwnW.append (E:=EE l) (st:=30) (e:=29) (j:=tSl 31) (x:= .slice (some ⟨M',0,none⟩) 1 1) (new:=[w]) (xl:=1) el30 ownQ1 (fI.upd _) (by omega) ⟨_,_,rfl⟩ (by simp only[rowA,cells_of (T.gsE (some (Blk.cells [w])) H' M')];rfl) (by omega) hwIc (by omega);have hbsI:buildSliceA (EE l) 30 1 [(0,w)]=some [w]:=by rw[hwI];simp only[buildSliceA,ty30,tSl,ty29];rfl
   have fr8:∀ b,b<M'→blkOf sQ≠some b→H8'.get b=H'.get b:=fun b hb hne=>by rw[e4 b (by omega) hne,T.gnE _ _ (by omega)]
   have zoI:=kpI.zo;have hzo8:H8'.get n6=some (.cells [sN,sA',sQ,sU]):=by rw[fr8 _ (by omega) (lowQ _ (by omega))];exact zoI
   refine WL.reg ?_;refine OL.fd fo33_2 ?_;refine OL.l1 ty30 ?_;refine OL.mv ?_;refine OL.bs hbsI ?_;refine OL.bi (appendB e1) ?_;refine OL.fd fo33_2 ?_;refine OL.st (store1 (b:=n6) (o:=2) (cs:=[sN,sA',sQ,sU]) ty30 rfl hzo8 (OwnW.isC e5) (Nat.succ_lt_succ (Nat.succ_lt_succ (Nat.succ_pos _)))) ?_;refine OL.nil (WL.reg ?_);refine OL.ad1 ?_;refine OL.mv ?_;have fr9':∀ b,b<M'→b≠n6→blkOf sQ≠some b→(H8'.upd (some (.cells ([sN,sA',sQ,sU].set 2 sQ'))) n6).get b=H'.get b:=fun b hb hne hs=>by rw[T.gnE _ _ (by omega)];exact fr8 b hb hs
   have blkw:∀ b,blkOf w=some b→M5≤b∧b<M':=fun b hb=>⟨(OwnW.blk ownI hb).1,OwnW.lt ownI fI hb⟩
   have old:∀ b,b<M1→b≠n4→b≠n6→blkOf sA≠some b→blkOf sQ≠some b→(H8'.upd (some (.cells ([sN,sA',sQ,sU].set 2 sQ'))) n6).get b=H1.get b:=fun b hb g1 g2 g3 g4=>by rw[fr9' b (by omega) g2 g4,frI b (by omega) g1];exact frZ b hb g1 g2 g3
   have sA'Q:∀ b,blkOf sA'=some b→blkOf sQ≠some b:=fun b hb hq=>by
    rcases blkA' b hb with h1|h1
    ·exact dis b h1 hq
    ·have:=(belowQ b hq).2;omega
   refine OL.nil ⟨A.length-(i+1),by omega,i+1,sA',sQ',vsA ++ [wA],vsQ ++ [w],A' ++ [ya],Q' ++ [X'],fun b=>(F b∨blkOf wA=some b)∨(FI b∨blkOf w=some b),by omega,rfl,(by repeat (first|exact Sub.nil|refine Sub.cons rfl ?_)),?_,fun b hb g1 g2=>?_,OwnW.keep ownZ fun c hc=>?_,OwnW.keep e5 fun c hc=>?_,fun b hb hq=>?_,?_,?_,fun H'' hh=>⟨fun jj v xs hv hxs=>?_,fun jj v xs hv hxs=>?_⟩,fun b hb=>?_,by omega,e2.set (by omega) _⟩
   ·refine kpI.step (fun b hb hne=>fr9' b (by omega) (by omega) (lowQ b (by omega))) ?_ (T.gsE _ _ _);rw[fr9' _ (by omega) (by omega) (lowQ _ (by omega)),htQ,List.length_append,← Nat.add_assoc];exact kpI.red.zk
   ·rw[old b (by omega) g1 g2 (lowA b hb) (lowQ b hb),c7' b (by omega) g1];exact fr b hb g1 g2
   ·have h1:=(OwnW.blk ownZ hc).1;have h2:=OwnW.lt ownZ fZ hc;rw[fr9' c (by omega) (by omega) (sA'Q c hc)];exact frI c h2 (by omega)
   ·rw[T.gnE _ _ (by have:=(OwnW.blk e5 hc).1;omega)]
   ·rcases e6 b hq with h1|h1
    ·exact sA'Q b hb h1
    ·have:=OwnW.lt ownZ fZ hb;omega
   ·rw[List.take_add_one,ha];exact cpA.snoc c2'.all
   ·rw[List.take_add_one,hX];exact cpQ.snoc cpI
   ·rcases Nat.lt_or_ge jj i with h1|h1
    ·rw[List.getElem?_append_left (by omega)] at hv hxs;refine(ft H'' fun b hb=>?_).1 jj v xs hv hxs;obtain⟨g1,g2,g3,g4⟩:=hF2 b hb;rw[hh b (.inl (.inl hb)),old b (by omega) (by omega) (by omega) g3 g4];exact c7' b g2 (by omega)
    ·rw[List.getElem?_append_right (by omega)] at hv hxs;have hj0:jj-vsA.length=0:=by have:=(gsI hv).1;simp at this;omega
     have hj1:jj-A'.length=0:=by omega
     rw[hj0] at hv;rw[hj1] at hxs;simp at hv hxs;subst hv;subst hxs;have hro:RowsS 2 linkL H1 wA ya:=OwnW.rows (fun _=>rfl) c5' rfl rfl;refine hro.agree fun b hb=>?_
     obtain⟨g1,g2⟩:=blkA b hb;rw[hh b (.inl (.inr hb)),old b g2 (by omega) (by omega) (fun e=>by have:=OwnW.lt ownA fH e;omega) (fun e=>by have:=(belowQ b e).2;omega)]
   ·rcases Nat.lt_or_ge jj i with h1|h1
    ·rw[List.getElem?_append_left (by omega)] at hv hxs;refine(ft H'' fun b hb=>?_).2 jj v xs hv hxs;obtain⟨g1,g2,g3,g4⟩:=hF2 b hb;rw[hh b (.inl (.inl hb)),old b (by omega) (by omega) (by omega) g3 g4];exact c7' b g2 (by omega)
    ·rw[List.getElem?_append_right (by omega)] at hv hxs;have hj0:jj-vsQ.length=0:=by have:=(gsI hv).1;simp at this;omega
     have hj1:jj-Q'.length=0:=by omega
     rw[hj0] at hv;rw[hj1] at hxs;simp at hv hxs;subst hv;subst hxs;have hro:RowsS 1 (fun v:Value=>[v]) H' w vsI:=OwnW.rows (fun _=>rfl) ownI (flat_one _).symm hvI;refine⟨vsI,hro.agree fun b hb=>?_,by omega,fun k v xs hv hxs=>?_⟩
     ·obtain⟨g1,g2⟩:=blkw b hb;rw[hh b (.inr (.inr hb)),fr9' b g2 (by omega) (fun e=>by have:=(belowQ b e).2;omega)]
     ·refine ftI H'' (fun b hb=>?_) k v xs hv hxs;obtain⟨g1,g2,g3⟩:=hFI b hb;rw[hh b (.inr (.inl hb)),fr9' b g2 (by omega) (fun e=>by have:=(belowQ b e).2;omega)]
   ·have hsA':∀ b,blkOf sA'=some b→b<M5:=fun b hb=>OwnW.lt ownZ fZ hb
    rcases hb with(hb|hb)|(hb|hb)
    ·obtain⟨g1,g2,g3,g4⟩:=hF2 b hb;refine⟨g1,by omega,fun e=>?_,fun e=>?_⟩
     ·rcases blkA' b e with h1|h1
      ·exact g3 h1
      ·omega
     ·rcases e6 b e with h1|h1
      ·exact g4 h1
      ·omega
    ·obtain⟨g1,g2⟩:=blkA b hb;refine⟨by omega,by omega,fun e=>?_,fun e=>?_⟩
     ·rcases blkA' b e with h1|h1
      ·have:=OwnW.lt ownA fH h1;omega
      ·omega
     ·rcases e6 b e with h1|h1
      ·have:=(belowQ b h1).2;omega
      ·omega
    ·obtain⟨g1,g2,g3⟩:=hFI b hb;refine⟨by omega,by omega,fun e=>?_,fun e=>?_⟩
     ·have:=hsA' b e;omega
     ·rcases e6 b e with h1|h1
      ·have:=(belowQ b h1).2;omega
      ·omega
    ·obtain⟨g1,g2⟩:=blkw b hb;refine⟨by omega,by omega,fun e=>?_,fun e=>?_⟩
     ·have:=hsA' b e;omega
     ·rcases e6 b e with h1|h1
      ·have:=(belowQ b h1).2;omega
      ·omega
 rintro L3 H3 M3 ⟨hs3,K3,sA,sQ,A',Q',kp3,f3,hM3,⟨rN3,rU3⟩,rA3,rQ3,cpA,cpQ⟩;refine WL.keep hs3 ?_;have he2:∃ es,N[nd]? =some es∧All2 (All2 (CopE nd N.length)) (N ++ [es]) N':=⟨es,he,cpN⟩
 have hCG:CopG nd N A Q U N' A' Q' U':=⟨he2,cpA,cpQ,u2.all⟩
 have hGP':=hCG.graph hGP (hlight) hNl;have kn3':Keep n h H3:=kp3.red.kp;have hN'l:N'.length=N.length+1:=by rw[cpN.len,List.length_append];rfl
 have hnM:n≤M3:=by omega
 have G3:=G.keep hf kn3' hnM;have hflN:N'.flatten.length≤20000000:=by
  have h1:es.length≤N.flatten.length:=by have h2:=take_flat_le N (nd+1);rw[take_flat he,List.length_append] at h2;omega
  rw[cpN.flat.len,List.flatten_append,List.length_append];simp only[List.flatten_cons,List.flatten_nil,List.append_nil];omega
 have Gc:Given l isF eqs 0 ps g qn N' A' Q' U' vP sN sA sQ sU H3 M3 :=
  {G3 with
   hN:=rN3,hA:=rA3,hQ:=rQ3,hU:=rU3,
   hkF:=fun es' hes e hee=>by
    obtain⟨es0,h1,h2⟩:=cpN.mem hes;obtain⟨e0,h3,h4⟩:=h2.mem hee;rw[h4.1];refine G3.hkF es0 ?_ e0 h3;rcases List.mem_append.1 h1 with h5|h5
    ·exact h5
    ·rw[List.mem_singleton.1 h5];exact List.mem_of_getElem? he,
   b1:=by rw[cpA.len];exact G3.b1,b3:=fun X' hX'=>by obtain⟨X,h1,h2⟩:=cpQ.mem hX';rw[h2.len];exact G3.b3 X h1,
   b4:=by unfold allL;have h1:=cpA.flat.len;have h2:=(cpQ.map (f:=List.flatten) (g:=List.flatten) fun _ _ h=>All2.flat h).flat.len;have h3:=u2.all.len;simp only[List.length_append,List.length_map];omega,
   b5:=by omega,b6:=by rw[cpQ.len];exact G3.b6}
 obtain⟨r',H4,M4,v1,v2,v3,v4,v5,v6,v7'⟩:=check_cl hl f3 Gc;have hr':r'=0:=v6 rfl hGP';subst hr';have kp4:KpS n n4 n6 h vP qn g nd ws N vW vN vA vQ vU H4 K3 sN sA sQ sU:=kp3.step (fun b hb _=>v2 b (by omega)) (by rw[v2 _ (by omega)];exact kp3.red.zk) (by rw[v2 _ (by omega)];exact kp3.zo);have zo3:=kp3.zo;have zp3:=kp3.zp;have zq3:=kp3.zq;refine WL.seq (WL.seq (WL.reg ?_));refine OL.la ty24 ?_;refine OL.la ty27 ?_;refine OL.la ty33 ?_;refine OL.cf fk14 v1 ?_;refine OL.nF (hp:=rfl) ?_;refine OL.nil (WL.condF rfl (WL.skip ?_));clear zo3 zp3 zq3;have zp4:=kp4.zp;have zq4:=kp4.zq;have zm4:=kp4.red.zm;have zo4:=kp4.zo;have kn4':Keep n h H4:=kp4.red.kp;obtain⟨ra,ea,H5a,M5,a1',a2',a3',a4',a5'⟩:=at_cl (proc:=proc) (arg:=arg) hl v4 (G.keep (M:=M4) hf kn4' (by omega)) (hF.keep hf kn4') (fun f hfm=>(hkF hgood f hfm).keep kn4' (by omega)) hbF;refine WL.seq (WL.reg ?_)
 (iterate 6 (first|refine OL.la ty24 ?_|refine OL.la ty27 ?_|refine OL.la ty33 ?_|refine OL.mv ?_));refine OL.cf fk10 a1' ?_;refine OL.mv ?_;(iterate 2 refine OL.ext ?_);refine OL.al ty43 ?_;refine OL.sn ty43 (T.gsE _ _ _) ?_;refine OL.asg ?_;refine OL.nil ?_;refine WL.heap (fun Z=>Z.get M5=some (.cells (linkL ra))∧Fresh Z (M5+1)∧Keep M4 H4 Z) ⟨T.gsE _ _ _,(a4'.upd _).set (Nat.lt_succ_self _) _,fun b hb=>by rw[T.gnE _ _ (by omega),T.gnE _ _ (by omega)];exact a2' b hb⟩ ?_;rintro Z ⟨zr5,fZ,kZ⟩;have knZ:Keep n h Z:=kn4'.trans (by omega) kZ;have zpZ:Z.get n=some (.cells [vP]):=by rw[kZ _ (by omega)];exact zp4
 have zqZ:Z.get (n+1)=some (.cells [.int .i64 qn,slV g]):=by rw[kZ _ (by omega)];exact zq4
 have zoZ:Z.get n6=some (.cells [sN,sA,sQ,sU]):=by rw[kZ _ (by omega)];exact zo4
 clear zp4 zq4 zm4 zo4;have GcZ:Given l isF eqs 0 ps g qn N' A' Q' U' vP sN sA sQ sU Z (M5+1):=Gc.keep f3 (v2.trans (by omega) kZ) (by omega);obtain⟨rb,eb,H6b,M6,b1',b2',b3',b4',b5'⟩:=at_cl (proc:=proc) (arg:=arg) hl fZ GcZ (hF.keep hf knZ) (fun f hfm=>(hkF hgood f hfm).keep knZ (by omega)) hbF;obtain⟨hee,hff⟩:=CopG.at_same hGP hCG hGP' a5' b5';subst hee;refine WL.seq (WL.reg ?_);(iterate 6 (first|refine OL.la ty24 ?_|refine OL.la ty27 ?_|refine OL.la ty33 ?_|refine OL.mv ?_));refine OL.cf fk10 b1' ?_;refine OL.mv ?_;(iterate 2 refine OL.ext ?_);refine OL.al ty43 ?_;refine OL.sn ty43 (T.gsE _ _ _) ?_;refine OL.asg ?_;refine OL.nil ?_;refine WL.heap (fun Y=>Y.get M5=some (.cells (linkL ra))∧Y.get M6=some (.cells (linkL rb))) ⟨?_,T.gsE _ _ _⟩ ?_
 ·rw[T.gnE _ _ (by omega),T.gnE _ _ (by omega),b2' _ (by omega)];exact zr5
 rintro Y ⟨t1,t2⟩;refine WL.seq (WL.reg ?_);(iterate 2 refine OL.mv ?_);refine OL.bT (hp:=rfl) ?_;(iterate 5 (first|refine OL.mv ?_|refine OL.fd fo43_1 ?_|refine OL.l1 ty4 ?_));refine OL.bv (eqB ra.2 rb.2) ?_;have hbb:(ra.2 == rb.2)=true:=by rw[hff];exact beq_self_eq_true _
 rw[hbb];refine OL.pT ?_;refine OL.asg ?_;exact OL.nil (WL.ret ⟨fun id e=>(by cases e),[_],⟨rfl,rfl⟩,rfl⟩)
end
end Go.Sx
