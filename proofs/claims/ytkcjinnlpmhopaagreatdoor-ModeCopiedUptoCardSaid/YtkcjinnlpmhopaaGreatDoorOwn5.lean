/- RpG: the seat's Concat of links. -/
import Derived.Test.YtkcjinnlpmhopaaGreatDoorOwn4
namespace Go.Sx
open Go.Proofs
set_option maxRecDepth 100000
set_option maxHeartbeats 2000000
theorem take_flat{α:Type}{X:List (List α)}{i:Nat}{xs:List α}(h:X[i]? =some xs):(X.take (i+1)).flatten=(X.take i).flatten ++ xs:=by rw[List.take_add_one,h];simp
theorem take_flat_le{α:Type}(X:List (List α))(i:Nat):(X.take i).flatten.length≤X.flatten.length:=by
 have:X.flatten=(X.take i).flatten ++ (X.drop i).flatten:=by rw[←List.flatten_append,List.take_append_drop]
 rw[this,List.length_append];omega
theorem repL_len'(a b:Value):∀ m,(repL [a,b] m).length=m * 2
 | 0=>rfl
 | m+1=>by rw[repL,List.length_append,repL_len' a b m];simp;omega
theorem el31{l:List (FuncId×List (Ct×Value))}:ElT (EE l) 31 43 tLink:=⟨ty31,ty43,rfl,rfl,rfl,rfl,rfl⟩
theorem links_cells:∀ xs:List Lnk,allCells (xs.flatMap linkL)=true
 | []=>rfl
 | x :: xs=>by rw[List.flatMap_cons];simp only[List.cons_append,List.nil_append,allCells,isCell,cond_true];exact links_cells xs
theorem grow_app{l:List (FuncId×List (Ct×Value))}{h:T Blk}{n m:Nat}(hm:0<m)(hm2:m≤1000000000):builtinA (EE l) .append [31,3] [.slice none 0 0,.int .i64 (m:Int)] h n= .val (.slice (some ⟨n,0,none⟩) (0+m) (UNK * 2+(0+m))) (h.upd (some (.cells ([] ++ repL tLink.zero m))) n) (n+1):=by
 have e1:natV (.int .i64 (m:Int)) 1000000000=some m:=by show natV (.int .i64 (Int.ofNat m)) 1000000000=some m;simp only[natV,biE,bleT];rw[if_pos hm2]
 have e2:newCells (EE l) h tLink (some 3) (.int .i64 (m:Int))=some (m,repL tLink.zero m):=by simp only[newCells,ty3,tInt,e1]
 have e3:Nat.beq m 0=false:=by
  cases hb:Nat.beq m 0 with
  | false=>rfl
  | true=>rw[beqT] at hb;omega
 have e6:Nat.ble (0+m) 0=false:=by
  cases hb:Nat.ble (0+m) 0 with
  | false=>rfl
  | true=>rw[bleT] at hb;omega
 have key:appendA (EE l) 31 (some 3) (.slice none 0 0) (.int .i64 (m:Int)) h n=some (.slice (some ⟨n,0,none⟩) (0+m) (UNK * 2+(0+m)),h.upd (some (.cells ([] ++ repL tLink.zero m))) n,n+1):=by have hrow:rowA h tLink.size 0 (.slice none 0 0)=some []:=rfl;simp only[appendA,ty31,tSl,ty43,e2,el31.b1,el31.b2,el31.b3,el31.zk,el31.zl,show lowCap 0=0 from rfl,show Nat.ble 0 1000000000=true from rfl,show Nat.ble 0 0=true from rfl,Bool.and_self,cond_true,e3,cond_false,e6,hrow,show unkCap 0=false from rfl];rfl
 show(match appendA (EE l) 31 (some 3) (.slice none 0 0) (.int .i64 (m:Int)) h n with|some (v,h',n')=>OO.val v h' n'|none=> .no "append")=_;rw[key]
theorem grow_cut{l:List (FuncId×List (Ct×Value))}{b k:Nat}(hm:k≤1000000000):sliceA (EE l) 31 (.slice (some ⟨b,0,none⟩) k (UNK * 2+k)) none (some (.int .i64 0)) none=some (.slice (some ⟨b,0,none⟩) 0 (UNK * 2+k)):=by
 have hu:k<UNK:=by unfold UNK;omega
 have q1:lowCap (UNK * 2+k)=k:=lowCap_u hu;have q2:(UNK * 2+k) / UNK=2:=divCap_u hu;have q3:unkCap (UNK * 2+k)=true:=by unfold unkCap;rw[bleT];have:=Nat.le_mul_of_pos_right UNK (show 0<2 by omega);omega
 have h0:natV (.int .i64 0) k=some 0:=by show natV (.int .i64 (Int.ofNat 0)) k=some 0;simp only[natV,biE,bleT];rw[if_pos (by omega)]
 simp only[sliceA,ty31,tSl,ty43,boundsA,boundsA.low,q1,h0,q2,q3,cond_true,tLink,Nat.beq_refl,Nat.zero_mul,Nat.sub_zero,Nat.add_zero]
section
variable {l:List (FuncId×List (Ct×Value))}(hl:MemoK l)
include hl
theorem grow_cl(m:Nat)(hm:m≤1000000000){h:T Blk}{n:Nat}(hf:Fresh h n):∃ s h' n',Cl (EE l) 142 [.slice none 0 0,.int .i64 (m:Int)] h n (.ret s h' n')∧Keep n h h'∧n≤n'∧Fresh h' n'∧OwnW 2 n h' s 0 []:=by
 refine Cl.wl (many:=27) (memo_no hl (by decide)) rfl fk142 rfl rfl rfl rfl ?_;refine WL.seq (WL.reg ?_);refine OL.asg ?_;refine OL.nil (WL.seq (WL.seq (WL.reg ?_)));refine OL.mv ?_;refine OL.bF ?_;refine OL.nil (WL.condF rfl (WL.skip ?_));refine WL.seq (WL.seq (WL.reg ?_));(iterate 2 refine OL.mv ?_);have hcap:∀ {H:T Blk} {N:Nat},builtinA (EE l) .cap [31] [.slice none 0 0] H N= .val (.int .i64 0) H N:=by intro H N;simp only[builtinA,capA,ty31,tSl,show unkCap 0=false from rfl,cond_false,val?];rfl
 refine OL.bi hcap ?_;refine OL.mv ?_;refine OL.bi (lenA_slice ty31) ?_;refine OL.sb (a:=0) (b:=0) ?_;refine OL.sb (a:=(m:Int)) (b:=0-0) ?_;refine OL.asg ?_;refine OL.nil (WL.seq (WL.reg ?_));refine OL.mv ?_;have em:((m:Int)-(0-0))=(m:Int):=by omega
 rw[em];by_cases hm0:(0:Int)<(m:Int)
 ·refine OL.bT ?_;refine OL.nil (WL.condT rfl (WL.reg ?_));(iterate 2 refine OL.mv ?_);refine OL.bi hcap ?_;refine OL.val (by first|rfl|exact WantL.yes rfl rfl rfl) (D.cutTo (v:= .slice none 0 0) (w:= .slice none 0 0) rfl rfl rfl ⟨_,_,_,rfl⟩ (by simp only[sliceA,ty31,tSl,ty43];rfl)) rfl rfl ?_;refine OL.mv ?_;refine OL.bi (grow_app (m:=m) (by omega) hm) ?_;refine OL.mv ?_;refine OL.bi (lenA_slice ty31) ?_;refine OL.val (by first|rfl|exact WantL.yes rfl rfl rfl) (D.cutTo rfl rfl rfl ⟨_,_,_,rfl⟩ (grow_cut (by omega))) rfl rfl ?_;refine OL.asg ?_;refine OL.nil (WL.seq (WL.reg ?_));refine OL.mv ?_;refine OL.asg ?_
  exact OL.nil (WL.ret ⟨fun id e=>(by cases e),[_],⟨rfl,rfl⟩,(Keep.refl n h).upd (nlR _) _,Nat.le_succ n,hf.upd _,.inr ⟨n,0+m,_,nlR _,rfl,T.gsE _ _ _,by rw[List.nil_append,Nat.zero_add];exact repL_len' _ _ m,Nat.zero_le _,by omega,by rw[Nat.zero_mul,List.take_zero]⟩⟩)
 ·refine OL.bF ?_;refine OL.nil (WL.condF rfl (WL.skip ?_));refine WL.seq (WL.reg ?_);refine OL.mv ?_;refine OL.asg ?_;exact OL.nil (WL.ret ⟨fun id e=>(by cases e),[_],⟨rfl,rfl⟩,Keep.refl n h,nlR _,hf,.inl ⟨rfl,rfl,rfl⟩⟩)
theorem concat_cl{X:List (List Lnk)}{V:Value}{h:T Blk}{n:Nat}(hf:Fresh h n)(hr:Rows2 2 linkL h V X)(hb:X.flatten.length≤1000000000)(hX:X.length≤1000000000) :
 ∃ s h' n',Cl (EE l) 98 [V] h n (.ret s h' n')∧Keep n h h'∧n≤n'∧Fresh h' n'∧OwnW 2 n h' s X.flatten.length (X.flatten.flatMap linkL):=by
 refine Cl.wl (many:=36) (memo_no hl (by decide)) rfl fk98 rfl rfl rfl rfl ?_;refine WL.seq (WL.reg ?_);refine OL.asg ?_;refine OL.nil (WL.seq (WL.reg ?_));refine OL.asg ?_;refine OL.nil (WL.seq (WL.seq (WL.reg ?_)));refine OL.mv ?_;refine OL.bi (hr.len ty29) ?_;refine OL.mv ?_;refine OL.nil (WL.block ?_);refine WL.loop (k:=X.length) (fun m L H N=>∃ i:Nat,i≤X.length∧m=X.length-i∧Sub [(11,.int .i64 (i:Int)),(10,.int .i64 (X.length:Int)),(9,V),(3,.int .i64 ((X.take i).flatten.length:Int)),(0,V)] L∧H=h∧N=n) ?_
  ⟨0,Nat.zero_le _,rfl,(by repeat (first|exact Sub.nil|refine Sub.cons rfl ?_)),rfl,rfl⟩
 rintro m L H N ⟨i,hi,rfl,hs,rfl,rfl⟩;refine WL.keep hs ?_;refine WL.seq (WL.reg ?_);by_cases c1:(i:Int)<(X.length:Int)
 ·obtain⟨xs,hx⟩:∃ xs,X[i]? =some xs:=⟨_,ggE (by omega)⟩
  obtain⟨b,o,v,q1,q2,q3⟩:=hr.at (E:=EE l) ty29 ty31 rfl rfl hx;have ht:=take_flat hx;have hle:=take_flat_le X (i+1);rw[ht,List.length_append] at hle;refine OL.bT ?_;refine OL.nil (WL.seq (WL.condT rfl (WL.skip ?_)));refine WL.seq (WL.block (WL.seq (WL.reg ?_)));refine OL.ix q1 ?_;refine OL.ld q2 ?_;refine OL.asg ?_;refine OL.nil (WL.seq (WL.reg ?_));(iterate 2 refine OL.mv ?_);refine OL.bi (q3.len ty31) ?_;refine OL.ad ?_;refine OL.asg ?_;refine OL.nil (WL.seq (WL.reg ?_));refine OL.mv ?_;refine OL.bF ?_;refine OL.nil (WL.condF rfl (WL.skip (WL.reg ?_)));refine OL.ad1 ?_;refine OL.mv ?_;have e:((X.take i).flatten.length:Int)+(xs.length:Int)=(((X.take (i+1)).flatten.length:Nat):Int):=by rw[ht,List.length_append];omega
  rw[e];exact OL.nil ⟨X.length-(i+1),by omega,i+1,by omega,rfl,(by repeat (first|exact Sub.nil|refine Sub.cons rfl ?_)),rfl,rfl⟩
 ·have hi':i=X.length:=by omega
  subst hi';rw[List.take_length];refine OL.bF ?_;refine OL.nil (WL.seq (WL.condF rfl (WL.exit ?_)));obtain⟨s,h2,n2,g1,g2,g3,g4,g5⟩:=grow_cl hl X.flatten.length hb hf;refine WL.seq (WL.reg ?_);refine OL.mv ?_;refine OL.cf fk142 g1 ?_;refine OL.asg ?_;refine OL.nil (WL.seq (WL.seq (WL.reg ?_)));refine OL.mv ?_;refine OL.bi (hr.len ty29) ?_;refine OL.mv ?_;refine OL.nil (WL.block ?_);refine WL.loop (k:=X.length) (fun m L H' N'=>∃ (i:Nat) (s:Value),i≤X.length∧m=X.length-i∧Sub [(27,.int .i64 (i:Int)),(26,.int .i64 (X.length:Int)),(25,V),(6,s)] L∧Keep N H H'∧N≤N'∧Fresh H' N'∧OwnW 2 N H' s (X.take i).flatten.length ((X.take i).flatten.flatMap linkL)) ?_
   ⟨0,s,Nat.zero_le _,rfl,(by repeat (first|exact Sub.nil|refine Sub.cons rfl ?_)),g2,g3,g4,by simpa using g5⟩
  rintro m L' H' N' ⟨i,s,hi,rfl,hs,hk,hn,hF,ow⟩;refine WL.keep hs ?_;refine WL.seq (WL.reg ?_);by_cases c2:(i:Int)<(X.length:Int)
  ·obtain⟨xs,hx⟩:∃ xs,X[i]? =some xs:=⟨_,ggE (by omega)⟩
   obtain⟨b,o,v,q1,q2,q3⟩:=(hr.keep hf hk).at (E:=EE l) ty29 ty31 rfl rfl hx;have ht:=take_flat hx;have hle:=take_flat_le X (i+1);rw[ht,List.length_append] at hle;obtain⟨vb,vc,rfl⟩:=q3.isS;obtain⟨w,h3,n3,w1,w2,w3,w4,w5,w6⟩:=OwnW.append (E:=EE l) (st:=31) (e:=43) (j:=tLink) el31 ow hF hn ⟨vb,vc,rfl⟩ q3.row (by omega) (links_cells xs) (by omega);refine OL.bT ?_;refine OL.nil (WL.seq (WL.condT rfl (WL.skip ?_)));refine WL.seq (WL.block (WL.seq (WL.reg ?_)));refine OL.ix q1 ?_;refine OL.ld q2 ?_;refine OL.asg ?_;refine OL.nil (WL.reg ?_);(iterate 2 refine OL.mv ?_);refine OL.bi (appendB w1) ?_;refine OL.asg ?_;refine OL.nil (WL.reg ?_);refine OL.ad1 ?_;refine OL.mv ?_;refine OL.nil ⟨X.length-(i+1),by omega,i+1,w,by omega,rfl,(by repeat (first|exact Sub.nil|refine Sub.cons rfl ?_)),fun c hc=>?_,by omega,w2,?_⟩
   ·rw[w4 c (by omega) fun e=>by have:=(ow.blk e).1;omega];exact hk c hc
   ·rw[ht,List.length_append,List.flatMap_append];exact w5
  ·have hi':i=X.length:=by omega
   subst hi';rw[List.take_length] at ow;refine OL.bF ?_;refine OL.nil (WL.seq (WL.condF rfl (WL.exit ?_)));refine WL.seq (WL.reg ?_);refine OL.mv ?_;refine OL.asg ?_;exact OL.nil (WL.ret ⟨fun id e=>(by cases e),[_],⟨rfl,rfl⟩,hk,hn,hF,ow⟩)
end
set_option maxHeartbeats 4000000
def LO(n:Nat)(h:T Blk)(s:Value)(R:List Lnk):Prop:=OwnW 2 n h s R.length (R.flatMap linkL)
theorem OwnW.isS{sz lo len:Nat}{h:T Blk}{s:Value}{cs:List Value}(a:OwnW sz lo h s len cs):∃ b c,s= .slice b len c:=by rcases a with⟨rfl,rfl,_⟩|⟨b,W,all,_,rfl,_⟩<;>exact⟨_,_,rfl⟩
theorem LO.app{l:List (FuncId×List (Ct×Value))}{n N:Nat}{h H:T Blk}{s v:Value}{R xs:List Lnk}(a:LO n H s R)(hk:Keep n h H)(hn:n≤N)(hF:Fresh H N)(hv:∃ b c,v= .slice b xs.length c)(hr:rowA H 2 xs.length v=some (xs.flatMap linkL))(hb:R.length+xs.length≤1000000000) :
 ∃ w H' N',builtinA (EE l) .append [31,31] [s,v] H N= .val w H' N'∧LO n H' w (R ++ xs)∧Keep n h H'∧N≤N'∧Fresh H' N':=by
 obtain⟨w,H',N',w1,w2,w3,w4,w5,_⟩:=OwnW.append (E:=EE l) (st:=31) (e:=43) (j:=tLink) el31 a hF hn hv hr (by omega) (links_cells xs) (by omega);refine⟨w,H',N',appendB w1,?_,fun c hc=>?_,w3,w2⟩
 ·unfold LO;rw[List.length_append,List.flatMap_append];exact w5
 ·rw[w4 c (by omega) fun e=>by have:=(a.blk e).1;omega];exact hk c hc
theorem build_link{l:List (FuncId×List (Ct×Value))}(k:Lnk):buildSliceA (EE l) 31 1 [(0,linkV k)]=some (linkL k):=by simp only[buildSliceA,ty31,tSl,ty43,tLink];rfl
def allL(N:List (List Edg))(A:List (List Lnk))(Q:List (List (List Lnk)))(U:List Lnk):List Lnk:=A.flatten ++ (Q.map List.flatten).flatten ++ U ++ N.flatten.map (·.2)
section
variable {l:List (FuncId×List (Ct×Value))}(hl:MemoK l)
include hl
theorem links_cl{N:List (List Edg)}{A:List (List Lnk)}{Q:List (List (List Lnk))}{U:List Lnk}{vN vA vQ vU:Value}{h:T Blk}{n:Nat}(hf:Fresh h n)(hN:Rows2 5 edgeL h vN N)(hA:Rows2 2 linkL h vA A)(hQ:Rows3 2 linkL h vQ Q)(hU:RowsS 2 linkL h vU U)
 (hb:(allL N A Q U).length≤1000000000) (hb1:N.length≤1000000000) (hb2:A.length≤1000000000) (hb3:Q.length≤1000000000) (hb4:∀ x∈Q,x.length≤1000000000) :
 ∃ s h' n',Cl (EE l) 76 [.agg ⟨[vN,vA,vQ,vU]⟩] h n (.ret s h' n')∧Keep n h h'∧n≤n'∧Fresh h' n'∧LO n h' s (allL N A Q U):=by
 have hbA:A.flatten.length+((Q.map List.flatten).flatten.length+(U.length+N.flatten.length))≤1000000000:=by have:=hb;unfold allL at this;simp only[List.length_append,List.length_map] at this;omega
 refine Cl.wl (many:=50) (memo_no hl (by decide)) rfl fk76 rfl rfl rfl rfl ?_;refine WL.seq (WL.reg ?_);refine OL.bx ?_;refine OL.asg ?_;refine OL.nil ?_;refine WL.heap (fun H=>H.get n=some (.cells [vN,vA,vQ,vU])∧Fresh H (n+1)∧Keep n h H) ⟨T.gsE _ _ _,hf.upd _,(Keep.refl n h).upd (nlR _) _⟩ ?_;rintro H0 ⟨z0,f0,k0⟩;obtain⟨s1,H1,n1,a1,a2,a3,a4,a5⟩:=concat_cl hl f0 (hA.keep hf k0) (by omega) hb2;refine WL.seq (WL.reg ?_);refine OL.fd fo33_1 ?_;refine OL.l1 ty29 ?_;refine OL.cf fk98 a1 ?_;refine OL.asg ?_;refine OL.nil ?_;have k1:Keep n h H1:=k0.trans (by omega) a2;have z1:H1.get n=some (.cells [vN,vA,vQ,vU]):=by rw[a2 n (by omega)];exact z0
 have ow1:LO (n+1) H1 s1 A.flatten:=a5;refine WL.seq (WL.seq (WL.reg ?_));refine OL.fd fo33_2 ?_;refine OL.l1 ty30 ?_;refine OL.bi (hQ.len ty30) ?_;refine OL.mv ?_;refine OL.nil (WL.block ?_);have hf1:Fresh H0 (n+1):=f0;refine WL.loop (k:=Q.length) (fun m L H M=>∃ (i:Nat) (s:Value),i≤Q.length∧m=Q.length-i∧Sub [(16,.int .i64 (i:Int)),(15,.int .i64 (Q.length:Int)),(14,vQ),(3,s),(1,ptrTo n)] L∧LO (n+1) H s (A.flatten ++ ((Q.take i).map List.flatten).flatten)∧Keep (n+1) H0 H∧n+1≤M∧Fresh H M) ?_
  ⟨0,s1,Nat.zero_le _,rfl,(by repeat (first|exact Sub.nil|refine Sub.cons rfl ?_)),by simpa using ow1,a2,a3,a4⟩
 rintro m L H M ⟨i,s,hi,rfl,hs,ow,kH,hM,fH⟩;refine WL.keep hs ?_;have kn:Keep n h H:=k0.trans (by omega) kH;have zn:H.get n=some (.cells [vN,vA,vQ,vU]):=by rw[kH n (by omega)];exact z0
 refine WL.seq (WL.reg ?_);by_cases c1:(i:Int)<(Q.length:Int)
 ·obtain⟨X,hX⟩:∃ X,Q[i]? =some X:=⟨_,ggE (by omega)⟩
  obtain⟨b,o,v,q1,q2,q3⟩:=(hQ.keep hf kn).at (E:=EE l) ty30 ty29 rfl rfl hX;have ht:(((Q.take (i+1)).map List.flatten).flatten:List Lnk)=((Q.take i).map List.flatten).flatten ++ X.flatten:=by rw[List.take_add_one,hX];simp
  have hle:(((Q.take (i+1)).map List.flatten).flatten:List Lnk).length≤(Q.map List.flatten).flatten.length:=by rw[List.map_take];exact take_flat_le _ _
  rw[ht,List.length_append] at hle;obtain⟨s2,H2,n2,b1,b2,b3,b4,b5⟩:=concat_cl hl fH q3 (by omega) (hb4 X (List.mem_of_getElem? hX));have ow2:LO (n+1) H2 s (A.flatten ++ ((Q.take i).map List.flatten).flatten):=OwnW.keep ow fun c hc=>b2 c (OwnW.lt ow fH hc)
  obtain⟨w,H3,n3,w1,w2,w3,w4,w5⟩:=ow2.app (l:=l) (xs:=X.flatten) (kH.trans hM b2) (by omega) b4 b5.isS b5.row (by rw[List.length_append];omega);refine OL.bT ?_;refine OL.nil (WL.seq (WL.condT rfl (WL.skip ?_)));refine WL.seq (WL.block (WL.seq (WL.reg ?_)));refine OL.ix q1 ?_;refine OL.ld q2 ?_;refine OL.asg ?_;refine OL.nil (WL.reg ?_);(iterate 2 refine OL.mv ?_);refine OL.cf fk98 b1 ?_;refine OL.bi w1 ?_;refine OL.asg ?_;refine OL.nil (WL.reg ?_);refine OL.ad1 ?_;refine OL.mv ?_;refine OL.nil ⟨Q.length-(i+1),by omega,i+1,w,by omega,rfl,(by repeat (first|exact Sub.nil|refine Sub.cons rfl ?_)),?_,w3,by omega,w5⟩;rw[ht,← List.append_assoc];exact w2
 ·have hi':i=Q.length:=by omega
  subst hi';rw[List.take_length] at ow;refine OL.bF ?_;refine OL.nil (WL.seq (WL.condF rfl (WL.exit ?_)));have hUH:=hU.keep hf kn;obtain⟨ub,uc,hue⟩:=hUH.isS;obtain⟨w,H3,n3,w1,w2,w3,w4,w5⟩:=ow.app (l:=l) (xs:=U) kH hM fH ⟨ub,uc,hue⟩ hUH.row (by rw[List.length_append];omega);refine WL.seq (WL.reg ?_);refine OL.mv ?_;refine OL.fd fo33_3 ?_;refine OL.l1 ty31 ?_;refine OL.bi w1 ?_;refine OL.asg ?_;refine OL.nil ?_;have kn3:Keep n h H3:=k0.trans (by omega) w3;have zn3:H3.get n=some (.cells [vN,vA,vQ,vU]):=by rw[w3 n (by omega)];exact z0
  refine WL.seq (WL.seq (WL.reg ?_));refine OL.fd fo33_0 ?_;refine OL.l1 ty28 ?_;refine OL.bi (hN.len ty28) ?_;refine OL.mv ?_;refine OL.nil (WL.block ?_);refine WL.loop (k:=N.length) (fun m L H M=>∃ (i:Nat) (s:Value),i≤N.length∧m=N.length-i∧Sub [(32,.int .i64 (i:Int)),(31,.int .i64 (N.length:Int)),(30,vN),(3,s)] L∧LO (n+1) H s (A.flatten ++ (Q.map List.flatten).flatten ++ U ++ (N.take i).flatten.map (·.2))∧Keep (n+1) H0 H∧n+1≤M∧Fresh H M) ?_
   ⟨0,w,Nat.zero_le _,rfl,(by repeat (first|exact Sub.nil|refine Sub.cons rfl ?_)),by simpa using w2,w3,by omega,w5⟩
  rintro m L H M ⟨i,s,hi,rfl,hs,ow,kH,hM,fH⟩;refine WL.keep hs ?_;have kn:Keep n h H:=k0.trans (by omega) kH;refine WL.seq (WL.reg ?_);by_cases c2:(i:Int)<(N.length:Int)
  ·obtain⟨X,hX⟩:∃ X,N[i]? =some X:=⟨_,ggE (by omega)⟩
   obtain⟨b,o,v,q1,q2,q3⟩:=hN.at' (E:=EE l) hf kn ty28 ty49 rfl rfl hX;have ht:=take_flat hX;have hle:=take_flat_le N (i+1);rw[ht,List.length_append] at hle;refine OL.bT ?_;refine OL.nil (WL.seq (WL.condT rfl (WL.skip ?_)));refine WL.seq (WL.block (WL.seq (WL.reg ?_)));refine OL.ix q1 ?_;refine OL.ld q2 ?_;refine OL.asg ?_;refine OL.nil (WL.seq (WL.reg ?_));refine OL.mv ?_;refine OL.bi (q3.len ty49) ?_;refine OL.mv ?_;refine OL.nil (WL.block ?_);refine WL.loop (k:=X.length) (fun m L H' M'=>∃ (j:Nat) (s:Value),j≤X.length∧m=X.length-j∧Sub [(38,.int .i64 (j:Int)),(37,.int .i64 (X.length:Int)),(36,v),(32,.int .i64 (i:Int)),(31,.int .i64 (N.length:Int)),(30,vN),(3,s)] L∧LO (n+1) H' s (A.flatten ++ (Q.map List.flatten).flatten ++ U ++ (N.take i).flatten.map (·.2) ++ (X.take j).map (·.2))∧Keep (n+1) H0 H'∧M≤M'∧Fresh H' M') ?_
    ⟨0,s,Nat.zero_le _,rfl,(by repeat (first|exact Sub.nil|refine Sub.cons rfl ?_)),by simpa using ow,kH,nlR _,fH⟩
   rintro m' L' H' M' ⟨j,s,hj,rfl,hs',ow',kH',hM',fH'⟩;refine WL.keep hs' ?_;refine WL.seq (WL.reg ?_);by_cases c3:(j:Int)<(X.length:Int)
   ·obtain⟨e,he⟩:∃ e,X[j]? =some e:=⟨_,ggE (by omega)⟩
    obtain⟨b2,o2,u1,u2,_⟩:=(q3.keep hf (k0.trans (Nat.le_succ n) kH')).at (E:=EE l) ty49 ty51 rfl rfl he;have htx:(X.take (j+1)).map (·.2)=(X.take j).map (·.2) ++ [e.2]:=by rw[List.take_add_one,he];simp
    have hjl:(X.take j).length≤X.length:=by rw[List.length_take];omega
    refine OL.bT ?_;refine OL.nil (WL.seq (WL.condT rfl (WL.skip ?_)));refine WL.seq (WL.block (WL.seq (WL.reg ?_)));refine OL.ix u1 ?_;refine OL.ld u2 ?_;refine OL.al ty51 ?_;refine OL.sn ty51 (T.gsE _ _ _) ?_;refine OL.nil ?_;refine WL.heap (fun Z=>Z.get M'=some (.cells (edgeL e))∧Fresh Z (M'+1)∧Keep M' H' Z) ⟨T.gsE _ _ _,(fH'.upd _).set (Nat.lt_succ_self _) _,((Keep.refl M' H').upd (nlR _) _).upd (nlR _) _⟩ ?_;rintro Z ⟨z1,fZ,kZ⟩;have fZ2:Fresh (Z.upd (some (.cells (linkL e.2))) (M'+1)) (M'+1+1):=fZ.upd _;have kZ2:Keep M' H' (Z.upd (some (.cells (linkL e.2))) (M'+1)):=kZ.upd (by omega) _;have owZ:=OwnW.keep (h':=Z.upd (some (.cells (linkL e.2))) (M'+1)) ow' fun c hc=>kZ2 c (OwnW.lt ow' fH' hc)
    obtain⟨w,H4,n4,w1,w2,w3,w4,w5⟩:=LO.app (l:=l) (v:= .slice (some ⟨M'+1,0,none⟩) 1 1) (xs:=[e.2]) owZ (kH'.trans (by omega) kZ2) (by omega) fZ2 ⟨_,_,rfl⟩ (by simp only[rowA,cells_of (T.gsE (some (Blk.cells (linkL e.2))) Z (M'+1))];rfl) (by
     simp only[List.length_append,List.length_map,List.length_cons,List.length_nil] at hle ⊢;have:(X.take j).length=j:=by rw[List.length_take];omega
     omega)
    refine WL.reg ?_;refine OL.mv ?_;refine OL.fd fo51_1 ?_;refine OL.la ty43 ?_;refine OL.bs (build_link e.2) ?_;refine OL.bi w1 ?_;refine OL.asg ?_;refine OL.nil (WL.reg ?_);have hXl:X.length≤1000000000:=by omega
    refine OL.ad1 ?_;refine OL.mv ?_;refine OL.nil ⟨X.length-(j+1),by omega,j+1,w,by omega,rfl,(by repeat (first|exact Sub.nil|refine Sub.cons rfl ?_)),?_,w3,by omega,w5⟩;rw[htx,← List.append_assoc];exact w2
   ·have hj':j=X.length:=by omega
    subst hj';rw[List.take_length] at ow';refine OL.bF ?_;refine OL.nil (WL.seq (WL.condF rfl (WL.exit ?_)));refine WL.reg ?_;refine OL.ad1 ?_;refine OL.mv ?_;refine OL.nil ⟨N.length-(i+1),by omega,i+1,s,by omega,rfl,(by repeat (first|exact Sub.nil|refine Sub.cons rfl ?_)),?_,kH',by omega,fH'⟩;rw[ht,List.map_append,← List.append_assoc];exact ow'
  ·have hi':i=N.length:=by omega
   subst hi';rw[List.take_length] at ow;refine OL.bF ?_;refine OL.nil (WL.seq (WL.condF rfl (WL.exit ?_)));refine WL.seq (WL.reg ?_);refine OL.mv ?_;refine OL.asg ?_;refine OL.nil (WL.ret ⟨fun id e=>(by cases e),[_],⟨rfl,rfl⟩,kn,by omega,fH,?_⟩);have ow3:OwnW 2 (n+1) H s _ _:=ow;rcases ow3 with h1|⟨b,W,all,h1,h2⟩
   ·exact .inl h1
   ·exact .inr ⟨b,W,all,by omega,h2⟩
end
def Kn(l:List (FuncId×List (Ct×Value)))(f:FuncId)(args:List Value)(v:Value)(h:T Blk)(n:Nat):Prop:=∀ H,Keep n h H→memoA (EE l) f args H=some v
theorem Kn.keep{l:List (FuncId×List (Ct×Value))}{f:FuncId}{args:List Value}{v:Value}{h H:T Blk}{n N:Nat}(k:Kn l f args v h n)(hk:Keep n h H)(hn:n≤N):Kn l f args v H N:=fun H' hk'=>k H' (hk.trans hn hk')
theorem Kn.cl{l:List (FuncId×List (Ct×Value))}{f:FuncId}{args:List Value}{v:Value}{h H:T Blk}{n:Nat}(k:Kn l f args v h n)(hk:Keep n h H)(N:Nat):Cl (EE l) f args H N (.ret v H N):=Cl.memo (k H hk)
abbrev SlT:=Option Addr×Nat×Nat
abbrev slV(s:SlT):Value:= .slice s.1 s.2.1 s.2.2
structure ClRow where
 mark:Int
 vars:Int
 hd:SlT
 gd:SlT
 bd:SlT
structure PrRow where
 name:ByteArray
 ar:Int
 cv:SlT
 cls:List ClRow
abbrev clL(c:ClRow):List Value:=[.int .i64 c.mark,.int .i64 c.vars,slV c.hd,slV c.gd,slV c.bd]
abbrev prL(p:PrRow):List Value:=[.string p.name,.int .i64 p.ar,slV p.cv]
def ProcsR(h:T Blk)(v:Value)(ps:List PrRow):Prop:=RowsS 3 prL h v ps∧∀ p∈ps,RowsS 5 clL h (slV p.cv) p.cls
theorem ProcsR.mono{h h':T Blk}{v:Value}{ps:List PrRow}(r:ProcsR h v ps)(hh:∀ b cs,cellsOf h b=some cs→cellsOf h' b=some cs):ProcsR h' v ps:=⟨r.1.mono hh,fun p hp=>(r.2 p hp).mono hh⟩
theorem ProcsR.keep{h h':T Blk}{n:Nat}{v:Value}{ps:List PrRow}(r:ProcsR h v ps)(hf:Fresh h n)(hk:Keep n h h'):ProcsR h' v ps:=r.mono fun _ _ hc=>hk.cells hf hc
def EqP(eqs:SlT→Int)(X:List (List Lnk))(cls:List ClRow):Prop:=X.length=cls.length∧∀ (i:Nat)(x:List Lnk)(c:ClRow),X[i]? =some x→cls[i]? =some c→(x.length:Int)=eqs c.bd
def ShP(eqs:SlT→Int)(ps:List PrRow)(g:SlT)(A:List (List Lnk))(Q:List (List (List Lnk)))(U:List Lnk):Prop :=
 A.length=ps.length∧Q.length=ps.length∧(U.length:Int)=eqs g∧∀ (i:Nat) (p:PrRow),ps[i]? =some p→(∃ X,Q[i]? =some X∧EqP eqs X p.cls)∧∃ a,A[i]? =some a∧(a.length:Int)=p.ar
section
variable {l:List (FuncId×List (Ct×Value))}(hl:MemoK l)
include hl
theorem shaped1_cl{eqs:SlT→Int}{xs:List Lnk}{v:Value}{c:ClRow}{h:T Blk}{n:Nat}(hf:Fresh h n)(hr:RowsS 2 linkL h v xs)(hk:Kn l 120 [slV c.bd] (.int .i64 (eqs c.bd:Int)) h n) :
 ∃ h' n',Cl (EE l) 122 [v,.agg ⟨clL c⟩] h n (.ret (.bool (decide ((xs.length:Int)=eqs c.bd))) h' n')∧Keep n h h'∧n≤n'∧Fresh h' n':=by
 have key:∃ w h' n',Cl (EE l) 122 [v,.agg ⟨clL c⟩] h n (.ret w h' n')∧w= .bool (decide ((xs.length:Int)=eqs c.bd))∧Keep n h h'∧n≤n'∧Fresh h' n':=by
  have k1:Keep n h (h.upd (some (.cells (clL c))) n):=(Keep.refl n h).upd (nlR _) _;refine Cl.wl (many:=11) (memo_no hl (by decide)) rfl fk122 rfl rfl rfl rfl ?_;refine WL.seq (WL.reg ?_);refine OL.bx ?_;refine OL.asg ?_;refine OL.nil (WL.seq (WL.reg ?_));refine OL.mv ?_;refine OL.bi (hr.len ty31) ?_;refine OL.fd fo67_4 ?_;refine OL.l1 ty25 ?_;refine OL.cf fk120 (hk.cl k1 _) ?_;by_cases hc:(xs.length:Int)=eqs c.bd
  ·refine OL.bT (hp:=show((xs.length:Int)=(eqs c.bd:Int)) by omega) ?_;refine OL.asg ?_;exact OL.nil (WL.ret ⟨fun id e=>(by cases e),[_],⟨rfl,rfl⟩,by rw[decide_eq_true hc];rfl,k1,Nat.le_succ n,hf.upd _⟩)
  ·refine OL.bF (hp:=show ¬ ((xs.length:Int)=(eqs c.bd:Int)) by omega) ?_;refine OL.asg ?_;exact OL.nil (WL.ret ⟨fun id e=>(by cases e),[_],⟨rfl,rfl⟩,by rw[decide_eq_false hc];rfl,k1,Nat.le_succ n,hf.upd _⟩)
 obtain⟨w,h',n',k1,rfl,k2⟩:=key;exact⟨h',n',k1,k2⟩
theorem eqfun_cl{eqs:SlT→Int}{X:List (List Lnk)}{cls:List ClRow}{v cv:Value}{h:T Blk}{n:Nat}(hf:Fresh h n)(hr:Rows2 2 linkL h v X)(hc:RowsS 5 clL h cv cls)(hk:∀ c∈cls,Kn l 120 [slV c.bd] (.int .i64 (eqs c.bd:Int)) h n)(hX:X.length≤1000000000) :
 ∃ b h' n',Cl (EE l) 121 [v,cv,.func (.func 122) #[] #[]] h n (.ret (.bool b) h' n')∧Keep n h h'∧n≤n'∧Fresh h' n'∧(b=true↔EqP eqs X cls):=by
 have key:∃ w h' n',Cl (EE l) 121 [v,cv,.func (.func 122) #[] #[]] h n (.ret w h' n')∧∃ b,w= .bool b∧Keep n h h'∧n≤n'∧Fresh h' n'∧(b=true↔EqP eqs X cls):=by
  refine Cl.wl (many:=32) (memo_no hl (by decide)) rfl fk121 rfl rfl rfl rfl ?_;refine WL.seq (WL.reg ?_);refine OL.asg ?_;refine OL.nil (WL.seq (WL.seq (WL.reg ?_)));refine OL.mv ?_;refine OL.bi (hr.len ty29) ?_;refine OL.mv ?_;refine OL.bi (hc.len ty68) ?_;by_cases hlen:X.length=cls.length
  ·refine OL.nF (hp:=show((X.length:Int)=(cls.length:Int)) by omega) ?_;refine OL.nil (WL.condF rfl (WL.skip ?_));refine WL.seq (WL.seq (WL.reg ?_));refine OL.mv ?_;refine OL.bi (hr.len ty29) ?_;refine OL.mv ?_;refine OL.nil (WL.block ?_);refine WL.loop (k:=X.length) (fun m L H N=>∃ i:Nat,i≤X.length∧m=X.length-i∧Sub [(17,.int .i64 (i:Int)),(16,.int .i64 (X.length:Int)),(15,v),(1,cv),(2,.func (.func 122) #[] #[])] L∧Keep n h H∧n≤N∧Fresh H N∧∀ (j:Nat) (x:List Lnk) (c:ClRow),j<i→X[j]? =some x→cls[j]? =some c→(x.length:Int)=eqs c.bd) ?_
    ⟨0,Nat.zero_le _,rfl,(by repeat (first|exact Sub.nil|refine Sub.cons rfl ?_)),Keep.refl n h,nlR _,hf,fun j x c hj=>absurd hj (Nat.not_lt_zero j)⟩
   rintro m L H N ⟨i,hi,rfl,hs,hkH,hn,hF,hall⟩;refine WL.keep hs ?_;refine WL.seq (WL.reg ?_);by_cases c1:(i:Int)<(X.length:Int)
   ·obtain⟨x,hx⟩:∃ x,X[i]? =some x:=⟨_,ggE (by omega)⟩
    obtain⟨c,hcx⟩:∃ c,cls[i]? =some c:=⟨_,ggE (by omega)⟩
    obtain⟨b,o,u,q1,q2,q3⟩:=hr.at' (E:=EE l) hf hkH ty29 ty31 rfl rfl hx;obtain⟨b2,o2,r1,r2,_⟩:=(hc.keep hf hkH).at (E:=EE l) ty68 ty67 rfl rfl hcx;refine OL.bT ?_;refine OL.nil (WL.seq (WL.condT rfl (WL.skip ?_)));refine WL.seq (WL.block (WL.seq (WL.reg ?_)));refine OL.mv ?_;refine OL.ix q1 ?_;refine OL.ld q2 ?_;(iterate 2 refine OL.asg ?_);refine OL.nil (WL.seq (WL.reg ?_));(iterate 2 refine OL.mv ?_);refine OL.ix r1 ?_;refine OL.ld r2 ?_;refine OL.al ty67 ?_;refine OL.sn ty67 (T.gsE _ _ _) ?_;refine OL.nil ?_;refine WL.heap (fun Z=>Z.get N=some (.cells (clL c))∧Fresh Z (N+1)∧Keep n h Z) ⟨T.gsE _ _ _,(hF.upd _).set (Nat.lt_succ_self _) _,(hkH.upd hn _).upd hn _⟩ ?_;rintro Z ⟨z1,fZ,kZ⟩;obtain⟨h3,n3,g1,g2,g3,g4⟩:=shaped1_cl (eqs:=eqs) hl (c:=c) fZ (q3.keep hf kZ) ((hk c (List.mem_of_getElem? hcx)).keep kZ (by omega));refine WL.seq (WL.reg ?_);(iterate 2 refine OL.mv ?_)
    refine OL.la ty67 ?_;refine OL.cv fk122 g1 ?_;by_cases hp:(x.length:Int)=eqs c.bd
    ·rw[decide_eq_true hp];refine OL.un ?_;refine OL.nil (WL.condF rfl (WL.skip (WL.reg ?_)));refine OL.ad1 ?_;refine OL.mv ?_;refine OL.nil ⟨X.length-(i+1),by omega,i+1,by omega,rfl,(by repeat (first|exact Sub.nil|refine Sub.cons rfl ?_)),kZ.trans (by omega) g2,by omega,g4,fun j y d hj hy hd=>?_⟩;rcases Nat.lt_or_ge j i with h1|h1
     ·exact hall j y d h1 hy hd
     ·have:j=i:=by omega
      subst this;rw[hx] at hy;rw[hcx] at hd;cases hy;cases hd;exact hp
    ·rw[decide_eq_false hp];refine OL.un ?_;refine OL.nil (WL.condT rfl (WL.seq (WL.reg ?_)));refine OL.asg ?_;exact OL.nil (WL.ret ⟨fun id e=>(by cases e),[_],⟨rfl,rfl⟩,false,rfl,kZ.trans (by omega) g2,by omega,g4,⟨fun e=>(by cases e),fun e=>absurd (e.2 i x c hx hcx) hp⟩⟩)
   ·refine OL.bF ?_;refine OL.nil (WL.seq (WL.condF rfl (WL.exit ?_)));refine WL.seq (WL.reg ?_);refine OL.asg ?_;refine OL.nil (WL.ret ⟨fun id e=>(by cases e),[_],⟨rfl,rfl⟩,true,rfl,hkH,hn,hF,⟨fun _=>⟨hlen,fun j x c hx hc=>hall j x c ?_ hx hc⟩,fun _=>rfl⟩⟩);have:=(gsI hx).1;omega
  ·refine OL.nT (hp:=show ¬ ((X.length:Int)=(cls.length:Int)) by omega) ?_;refine OL.nil (WL.condT rfl (WL.seq (WL.reg ?_)));refine OL.asg ?_;exact OL.nil (WL.ret ⟨fun id e=>(by cases e),[_],⟨rfl,rfl⟩,false,rfl,Keep.refl n h,nlR _,hf,⟨fun e=>(by cases e),fun e=>absurd e.1 hlen⟩⟩)
 obtain⟨w,h',n',k1,b,rfl,k2⟩:=key;exact⟨b,h',n',k1,k2⟩
end
section
variable {l:List (FuncId×List (Ct×Value))}(hl:MemoK l)
include hl
theorem shaped_cl{eqs:SlT→Int}{ps:List PrRow}{g:SlT}{qn:Int}{N:List (List Edg)}{A:List (List Lnk)}{Q:List (List (List Lnk))}{U:List Lnk}{vP vN vA vQ vU:Value}{h:T Blk}{n:Nat}(hf:Fresh h n)(hP:ProcsR h vP ps)(hA:Rows2 2 linkL h vA A)(hQ:Rows3 2 linkL h vQ Q)(hU:RowsS 2 linkL h vU U)
 (hk:∀ p∈ps,∀ c∈p.cls,Kn l 120 [slV c.bd] (.int .i64 (eqs c.bd:Int)) h n) (hkg:Kn l 120 [slV g] (.int .i64 (eqs g:Int)) h n) (hg:∀ k,n≤k→BelV k (slV g)) (hb1:A.length≤1000000000) (hb2:ps.length≤1000000000) (hb3:∀ X∈Q,X.length≤1000000000) :
 ∃ b h' n',Cl (EE l) 75 [.agg ⟨[vP]⟩,.agg ⟨[.int .i64 qn,slV g]⟩,.agg ⟨[vN,vA,vQ,vU]⟩] h n (.ret (.bool b) h' n')∧Keep n h h'∧n≤n'∧Fresh h' n'∧(b=true↔ShP eqs ps g A Q U):=by
 have key:∃ w h' n',Cl (EE l) 75 [.agg ⟨[vP]⟩,.agg ⟨[.int .i64 qn,slV g]⟩,.agg ⟨[vN,vA,vQ,vU]⟩] h n (.ret w h' n')∧∃ b,w= .bool b∧Keep n h h'∧n≤n'∧Fresh h' n'∧(b=true↔ShP eqs ps g A Q U):=by
  refine Cl.wl (many:=65) (memo_no hl (by decide)) rfl fk75 rfl rfl rfl rfl ?_;refine WL.seq (WL.reg ?_);(iterate 3 refine OL.bx ?_);refine OL.asg ?_;refine OL.nil ?_;refine WL.heap (fun H=>H.get n=some (.cells [vP])∧H.get (n+1)=some (.cells [.int .i64 qn,slV g])∧H.get (n+1+1)=some (.cells [vN,vA,vQ,vU])∧Fresh H (n+1+1+1)∧Keep n h H) ⟨?_,?_,T.gsE _ _ _,((hf.upd _).upd _).upd _,(((Keep.refl n h).upd (nlR _) _).upd (by omega) _).upd (by omega) _⟩ ?_
  ·rw[T.gnE _ _ (by omega),T.gnE _ _ (by omega)];exact T.gsE _ _ _
  ·rw[T.gnE _ _ (by omega)];exact T.gsE _ _ _
  rintro H0 ⟨z0,z1,z2,f0,k0⟩;have hbP:∀ k,n+1+1+1≤k→BelV k vP:=fun k hk=>hP.1.bel hf (by omega)
  have hbA:∀ k,n+1+1+1≤k→BelV k vA:=fun k hk=>by obtain⟨vs,r,_⟩:=hA;exact r.bel hf (by omega)
  have hbQ:∀ k,n+1+1+1≤k→BelV k vQ:=fun k hk=>by obtain⟨vs,r,_⟩:=hQ;exact r.bel hf (by omega)
  have hbU:∀ k,n+1+1+1≤k→BelV k vU:=fun k hk=>hU.bel hf (by omega)
  have hbg:∀ k,n+1+1+1≤k→BelV k (slV g):=fun k hk=>hg k (by omega)
  obtain⟨ub,uc,hue⟩:=hU.isS;have hUload:loadA (EE l) H0 31 (.pointer (some ⟨n+1+1,0+3,none⟩))=some vU:=load1 ty31 rfl (cells_of z2) rfl;have hsame:sameV 8 vU vU=true:=by
   rw[hue];cases ub with
   | none=>simp[sameV,beqT]
   | some a =>
     obtain⟨b',o',s'⟩:=a;obtain⟨eb,c,he,hb,_⟩:=hU;rw[hue] at he;cases he;have hs:=(hb _ rfl).1;have hs:s'=none:=hs;subst hs;simp[sameV,beqT]
  refine WL.seq (WL.seq (WL.regG [(18,22)] (by kernel_rfl) (by kernel_rfl) ?_));refine OG.fd fo33_1 ?_;refine OG.l1 ty29 ?_;refine OG.bi (hA.len ty29) ?_;refine OG.fd fo24_0 ?_;refine OG.l1 ty22 ?_;refine OG.bi (hP.1.len ty22) ?_;by_cases c1:A.length=ps.length
  ·refine OG.nF (hp:=show((A.length:Int)=(ps.length:Int)) by omega) ?_;refine OG.mv ?_;refine OG.fd fo33_2 ?_;refine OG.l1 ty30 ?_;refine OG.bi (hQ.len ty30) ?_;refine OG.fd fo24_0 ?_;refine OG.l1 ty22 ?_;refine OG.bi (hP.1.len ty22) ?_;by_cases c2:Q.length=ps.length
   ·refine OG.nF (hp:=show((Q.length:Int)=(ps.length:Int)) by omega) ?_;refine OG.pF ?_;refine OG.mv ?_;refine OG.fd fo33_3 ?_;refine OG.l1 ty31 ?_;refine OG.bi (hU.len ty31) ?_;refine OG.fd fo27_1 ?_;refine OG.l1 ty25 ?_;refine OG.cf fk120 (hkg.cl k0 _) ?_;by_cases c3:(U.length:Int)=eqs g
    ·refine OG.nF (hp:=show((U.length:Int)=(eqs g:Int)) by omega) ?_;refine OG.pF ?_;refine OG.nil ⟨FlOK.cons rfl rfl hUload hsame FlOK.nil,?_⟩;refine WL.condF rfl (WL.skip ?_);refine WL.seq (WL.seq (WL.reg ?_));refine OL.fd fo24_0 ?_;refine OL.l1 ty22 ?_;refine OL.bi (hP.1.len ty22) ?_;refine OL.mv ?_;refine OL.nil (WL.block ?_);refine WL.loop (k:=ps.length) (fun m L H M=>∃ i:Nat,i≤ps.length∧m=ps.length-i∧Sub [(38,.int .i64 (i:Int)),(37,.int .i64 (ps.length:Int)),(36,vP),(5,ptrTo (n+1+1))] L∧Keep (n+1+1+1) H0 H∧n+1+1+1≤M∧Fresh H M∧∀ (j:Nat) (p:PrRow),j<i→ps[j]? =some p→(∃ X,Q[j]? =some X∧EqP eqs X p.cls)∧∃ a,A[j]? =some a∧(a.length:Int)=p.ar) ?_
      ⟨0,Nat.zero_le _,rfl,(by repeat (first|exact Sub.nil|refine Sub.cons rfl ?_)),Keep.refl _ _,nlR _,f0,fun j p hj=>absurd hj (Nat.not_lt_zero j)⟩
     rintro m L H M ⟨i,hi,rfl,hs,kH,hM,fH,hall⟩;refine WL.keep hs ?_;have kn:Keep n h H:=k0.trans (by omega) kH;refine WL.seq (WL.reg ?_);by_cases c4:(i:Int)<(ps.length:Int)
     ·obtain⟨p,hp⟩:∃ p,ps[i]? =some p:=⟨_,ggE (by omega)⟩
      obtain⟨X,hX⟩:∃ X,Q[i]? =some X:=⟨_,ggE (by omega)⟩
      obtain⟨a,ha⟩:∃ a,A[i]? =some a:=⟨_,ggE (by omega)⟩
      have hpm:=List.mem_of_getElem? hp;obtain⟨b,o,q1,q2,_⟩:=(hP.1.keep hf kn).at (E:=EE l) ty22 ty70 rfl rfl hp;refine OL.bT ?_;refine OL.nil (WL.seq (WL.condT rfl (WL.skip ?_)));refine WL.seq (WL.block (WL.seq (WL.reg ?_)));refine OL.mv ?_;refine OL.ix q1 ?_;refine OL.ld q2 ?_;refine OL.al ty70 ?_;refine OL.asg ?_;refine OL.sn ty70 (T.gsE _ _ _) ?_;refine OL.nil ?_;refine WL.heap (fun Z=>Z.get M=some (.cells (prL p))∧Fresh Z (M+1)∧Keep (n+1+1+1) H0 Z) ⟨T.gsE _ _ _,(fH.upd _).set (Nat.lt_succ_self _) _,(kH.upd hM _).upd hM _⟩ ?_;rintro Z ⟨y1,fZ,kZ⟩;have knZ:Keep n h Z:=k0.trans (by omega) kZ;have zZ:Z.get (n+1+1)=some (.cells [vN,vA,vQ,vU]):=by rw[kZ _ (by omega)];exact z2
      obtain⟨b2,o2,v2,r1,r2,r3⟩:=hQ.at' (E:=EE l) hf knZ ty30 ty29 rfl rfl hX;obtain⟨bb,h3,n3,g1,g2,g3,g4,g5⟩:=eqfun_cl (eqs:=eqs) hl fZ (r3.keep hf knZ) ((hP.2 p hpm).keep hf knZ) (fun c hc=>(hk p hpm c hc).keep knZ (by omega)) (hb3 X (List.mem_of_getElem? hX));have hfn:∀ k,0≤k→BelV k (.func (.func 122) #[] #[]):=fun k _=>⟨rfl,rfl⟩
      have hbQ':∀ k,M+1≤k→BelV k vQ:=fun k hk=>hbQ k (by omega)
      have hbv2:∀ k,M+1≤k→BelV k v2:=fun k hk=>by obtain⟨vs,r,_⟩:=r3;exact r.bel hf (by omega)
      have hbc:∀ k,M+1≤k→BelV k (slV p.cv):=fun k hk=>(hP.2 p hpm).bel hf (by omega)
      have hb2:b2<M+1:=by
       apply Classical.byContradiction;intro hh;have hc:cellsOf Z b2=none:=by unfold cellsOf;rw[fZ b2 (by omega)]
       simp only[loadA,ty29,hc] at r2;cases r2
      refine WL.seq (WL.regD (by kernel_rfl) (by kernel_rfl) ?_);refine OD.fd fo33_2 ?_;refine OD.l1 ty30 ?_;refine OD.mv ?_;refine OD.ix r1 ?_;refine OD.ld r2 ?_;refine OD.fd fo70_2 ?_;refine OD.l1 ty68 ?_;refine OD.cf fk121 g1 ?_;refine OD.asg ?_;refine OD.nil ?_;have kn3:Keep n h h3:=knZ.trans (by omega) g2;have y3:h3.get M=some (.cells (prL p)):=by rw[g2 M (by omega)];exact y1
      have z3:h3.get (n+1+1)=some (.cells [vN,vA,vQ,vU]):=by rw[g2 _ (by omega)];exact zZ
      obtain⟨b4,o4,v4,s1,s2,s3⟩:=hA.at' (E:=EE l) hf kn3 ty29 ty31 rfl rfl ha;have hbA':∀ k,n3≤k→BelV k vA:=fun k hk=>hbA k (by omega)
      have hbv4:∀ k,n3≤k→BelV k v4:=fun k hk=>s3.bel hf (by omega)
      have hb4:b4<n3:=by
       apply Classical.byContradiction;intro hh;have hc:cellsOf h3 b4=none:=by unfold cellsOf;rw[g4 b4 (by omega)]
       simp only[loadA,ty31,hc] at s2;cases s2
      refine WL.seq (WL.regD (by kernel_rfl) (by kernel_rfl) ?_);refine OD.mv ?_;cases bb with
      | false =>
        (iterate 11 (first|refine OD.un ?_|refine OD.mv ?_|refine OD.ps ?_));refine OD.pT ?_;refine OD.nil (WL.condT rfl (WL.seq (WL.reg ?_)));refine OL.asg ?_;refine OL.nil (WL.ret ⟨fun id e=>(by cases e),[_],⟨rfl,rfl⟩,false,rfl,kn3,by omega,g4,⟨fun e=>(by cases e),fun e=>?_⟩⟩);obtain⟨⟨X',hX',he⟩,_⟩:=e.2.2.2 i p hp;rw[hX] at hX';cases hX';exact absurd (g5.2 he) (by simp)
      | true =>
        refine OD.un ?_;refine OD.mv ?_;refine OD.fd fo33_1 ?_;refine OD.l1 ty29 ?_;refine OD.mv ?_;refine OD.ix s1 ?_;refine OD.ld s2 ?_;refine OD.bi (s3.len ty31) ?_;refine OD.fd fo70_1 ?_;refine OD.l1 ty3 ?_;by_cases c5:(a.length:Int)=p.ar
        ·refine OD.nF (hp:=c5) ?_;refine OD.pF ?_;refine OD.nil (WL.condF rfl (WL.skip (WL.reg ?_)));refine OL.ad1 ?_;refine OL.mv ?_;refine OL.nil ⟨ps.length-(i+1),by omega,i+1,by omega,rfl,(by repeat (first|exact Sub.nil|refine Sub.cons rfl ?_)),kZ.trans (by omega) g2,by omega,g4,fun j p' hj hp'=>?_⟩;rcases Nat.lt_or_ge j i with h1|h1
         ·exact hall j p' h1 hp'
         ·have:j=i:=by omega
          subst this;rw[hp] at hp';cases hp';exact⟨⟨X,hX,g5.1 rfl⟩,a,ha,c5⟩
        ·refine OD.nT (hp:=c5) ?_;refine OD.pF ?_;refine OD.nil (WL.condT rfl (WL.seq (WL.reg ?_)));refine OL.asg ?_;refine OL.nil (WL.ret ⟨fun id e=>(by cases e),[_],⟨rfl,rfl⟩,false,rfl,kn3,by omega,g4,⟨fun e=>(by cases e),fun e=>?_⟩⟩);obtain⟨_,a',ha',he⟩:=e.2.2.2 i p hp;rw[ha] at ha';cases ha';exact absurd he c5
     ·refine OL.bF ?_;refine OL.nil (WL.seq (WL.condF rfl (WL.exit ?_)));refine WL.seq (WL.reg ?_);refine OL.asg ?_;refine OL.nil (WL.ret ⟨fun id e=>(by cases e),[_],⟨rfl,rfl⟩,true,rfl,kn,by omega,fH,⟨fun _=>⟨c1,c2,c3,fun j p hp=>hall j p ?_ hp⟩,fun _=>rfl⟩⟩);have:=(gsI hp).1;omega
    ·refine OG.nT (hp:=show ¬ ((U.length:Int)=(eqs g:Int)) by omega) ?_;refine OG.pF ?_;refine OG.nil ⟨FlOK.cons rfl rfl hUload hsame FlOK.nil,?_⟩;refine WL.condT rfl (WL.seq (WL.reg ?_));refine OL.asg ?_;exact OL.nil (WL.ret ⟨fun id e=>(by cases e),[_],⟨rfl,rfl⟩,false,rfl,k0,by omega,f0,⟨fun e=>(by cases e),fun e=>absurd e.2.2.1 c3⟩⟩)
   ·refine OG.nT (hp:=show ¬ ((Q.length:Int)=(ps.length:Int)) by omega) ?_;(iterate 9 (first|refine OG.pF ?_|refine OG.mv ?_|refine OG.ps ?_));refine OG.pT ?_;refine OG.nil ⟨FlOK.pass rfl rfl FlOK.nil,?_⟩;refine WL.condT rfl (WL.seq (WL.reg ?_));refine OL.asg ?_;exact OL.nil (WL.ret ⟨fun id e=>(by cases e),[_],⟨rfl,rfl⟩,false,rfl,k0,by omega,f0,⟨fun e=>(by cases e),fun e=>absurd e.2.1 c2⟩⟩)
  ·refine OG.nT (hp:=show ¬ ((A.length:Int)=(ps.length:Int)) by omega) ?_;(iterate 18 (first|refine OG.mv ?_|refine OG.ps ?_|refine OG.pT ?_));refine OG.nil ⟨FlOK.pass rfl rfl FlOK.nil,?_⟩;refine WL.condT rfl (WL.seq (WL.reg ?_));refine OL.asg ?_;exact OL.nil (WL.ret ⟨fun id e=>(by cases e),[_],⟨rfl,rfl⟩,false,rfl,k0,by omega,f0,⟨fun e=>(by cases e),fun e=>absurd e.1 c1⟩⟩)
 obtain⟨w,h',n',k1,b,rfl,k2⟩:=key;exact⟨b,h',n',k1,k2⟩
end
structure GraphP(isF:Ft→Bool)(eqs:SlT→Int)(ps:List PrRow)(g:SlT)(N:List (List Edg))(A:List (List Lnk))(Q:List (List (List Lnk)))(U:List Lnk):Prop where
 n1:1≤N.length
 n2:N.length≤4000
 n0:N[0]? =some []
 sh:ShP eqs ps g A Q U
 ft:∀ (i:Nat) (es:List Edg),N[i]? =some es→(∀ (j:Nat) (e:Edg),es[j]? =some e→isF e.1=true)∧SortedE es
 many:N.flatten.length≤20000
 lk:(allL N A Q U).any (fun k=>decide (k.1<0)||decide ((N.length:Int)≤k.1))=false
theorem seg5_at{cs:List Value}{o:Nat}{e:Edg}(h:seg cs o 5=some (edgeL e)):seg cs (o+0) 3=some (featL e.1):=seg_sub (k:=0) (m:=3) h (by omega)
section
variable {l:List (FuncId×List (Ct×Value))}(hl:MemoK l)
include hl
theorem out_cl{N:List (List Edg)}{vN vA vQ vU:Value}{k:Lnk}{p:Nat}{h:T Blk}{n:Nat}(hf:Fresh h n)(hp:h.get p=some (.cells [vN,vA,vQ,vU]))(hN:Rows2 5 edgeL h vN N) :
 ∃ h' n',Cl (EE l) 77 [linkV k,ptrTo p] h n (.ret (.bool (decide (k.1<0)||decide ((N.length:Int)≤k.1))) h' n')∧Keep n h h'∧n≤n'∧Fresh h' n':=by
 have key:∃ w h' n',Cl (EE l) 77 [linkV k,ptrTo p] h n (.ret w h' n')∧w= .bool (decide (k.1<0)||decide ((N.length:Int)≤k.1))∧Keep n h h'∧n≤n'∧Fresh h' n':=by
  have hpn:=hf.lt hp;have k1:Keep n h (h.upd (some (.cells (linkL k))) n):=(Keep.refl n h).upd (nlR _) _;have hp1:(h.upd (some (.cells (linkL k))) n).get p=some (.cells [vN,vA,vQ,vU]):=by rw[T.gnE _ _ (by omega)];exact hp
  refine Cl.wl (many:=15) (memo_no hl (by decide)) rfl fk77 rfl rfl rfl rfl ?_;refine WL.seq (WL.reg ?_);refine OL.bx ?_;refine OL.asg ?_;refine OL.nil (WL.seq (WL.reg ?_));refine OL.fd fo43_0 ?_;refine OL.l1 ty3 ?_;by_cases c1:k.1<0
  ·refine OL.bT (hp:=c1) ?_;(iterate 7 (first|refine OL.mv ?_|refine OL.ps ?_));refine OL.pT ?_;refine OL.asg ?_;exact OL.nil (WL.ret ⟨fun id e=>(by cases e),[_],⟨rfl,rfl⟩,by rw[decide_eq_true c1];rfl,k1,Nat.le_succ n,hf.upd _⟩)
  ·refine OL.bF (hp:=c1) ?_;refine OL.mv ?_;refine OL.fd fo43_0 ?_;refine OL.l1 ty3 ?_;refine OL.fd fo33_0 ?_;refine OL.l1 ty28 ?_;refine OL.bi (hN.len ty28) ?_;by_cases c2:(N.length:Int)≤k.1
   ·refine OL.bT (hp:=c2) ?_;refine OL.pF ?_;refine OL.asg ?_;exact OL.nil (WL.ret ⟨fun id e=>(by cases e),[_],⟨rfl,rfl⟩,by rw[decide_eq_false c1,decide_eq_true c2];rfl,k1,Nat.le_succ n,hf.upd _⟩)
   ·refine OL.bF (hp:=c2) ?_;refine OL.pF ?_;refine OL.asg ?_;exact OL.nil (WL.ret ⟨fun id e=>(by cases e),[_],⟨rfl,rfl⟩,by rw[decide_eq_false c1,decide_eq_false c2];rfl,k1,Nat.le_succ n,hf.upd _⟩)
 obtain⟨w,h',n',k1,rfl,k2⟩:=key;exact⟨h',n',k1,k2⟩
theorem graph_cl{isF:Ft→Bool}{eqs:SlT→Int}{ps:List PrRow}{g:SlT}{qn:Int}{N:List (List Edg)}{A:List (List Lnk)}{Q:List (List (List Lnk))}{U:List Lnk}{vP vN vA vQ vU:Value}{h:T Blk}{n:Nat}(hf:Fresh h n)(hP:ProcsR h vP ps)(hN:Rows2 5 edgeL h vN N)(hA:Rows2 2 linkL h vA A)(hQ:Rows3 2 linkL h vQ Q)(hU:RowsS 2 linkL h vU U)
 (hk:∀ p∈ps,∀ c∈p.cls,Kn l 120 [slV c.bd] (.int .i64 (eqs c.bd:Int)) h n) (hkg:Kn l 120 [slV g] (.int .i64 (eqs g:Int)) h n) (hg:∀ k,n≤k→BelV k (slV g)) (hb1:A.length≤1000000000) (hb2:ps.length≤1000000000) (hb3:∀ X∈Q,X.length≤1000000000)
 (hkF:∀ es∈N,∀ e∈es,Kn l 37 [featV e.1] (.bool (isF e.1)) h n) (hb4:(allL N A Q U).length≤1000000000) (hb5:N.length≤1000000000) (hb6:Q.length≤1000000000) :
 ∃ b h' n',Cl (EE l) 40 [.agg ⟨[vP]⟩,.agg ⟨[.int .i64 qn,slV g]⟩,.agg ⟨[vN,vA,vQ,vU]⟩] h n (.ret (.bool b) h' n')∧Keep n h h'∧n≤n'∧Fresh h' n'∧(b=true↔GraphP isF eqs ps g N A Q U):=by
 have key:∃ w h' n',Cl (EE l) 40 [.agg ⟨[vP]⟩,.agg ⟨[.int .i64 qn,slV g]⟩,.agg ⟨[vN,vA,vQ,vU]⟩] h n (.ret w h' n')∧∃ b,w= .bool b∧Keep n h h'∧n≤n'∧Fresh h' n'∧(b=true↔GraphP isF eqs ps g N A Q U):=by
  have hNf:N.flatten.length≤1000000000:=by have:=hb4;unfold allL at this;simp only[List.length_append,List.length_map] at this;omega
  refine Cl.wl (many:=86) (memo_no hl (by decide)) rfl fk40 rfl rfl rfl rfl ?_;refine WL.seq (WL.reg ?_);(iterate 3 refine OL.bx ?_);refine OL.asg ?_;refine OL.nil ?_;refine WL.heap (fun H=>H.get n=some (.cells [vP])∧H.get (n+1)=some (.cells [.int .i64 qn,slV g])∧H.get (n+1+1)=some (.cells [vN,vA,vQ,vU])∧Fresh H (n+1+1+1)∧Keep n h H) ⟨?_,?_,T.gsE _ _ _,((hf.upd _).upd _).upd _,(((Keep.refl n h).upd (nlR _) _).upd (by omega) _).upd (by omega) _⟩ ?_
  ·rw[T.gnE _ _ (by omega),T.gnE _ _ (by omega)];exact T.gsE _ _ _
  ·rw[T.gnE _ _ (by omega)];exact T.gsE _ _ _
  rintro H0 ⟨z0,z1,z2,f0,k0⟩;refine WL.seq (WL.seq (WL.reg ?_));refine OL.fd fo33_0 ?_;refine OL.l1 ty28 ?_;refine OL.bi (hN.len ty28) ?_;by_cases c1:(N.length:Int)<1
  ·refine OL.bT (hp:=c1) ?_;(iterate 21 (first|refine OL.mv ?_|refine OL.ps ?_|refine OL.pT ?_));refine OL.nil (WL.condT rfl (WL.seq (WL.reg ?_)));refine OL.asg ?_;refine OL.nil (WL.ret ⟨fun id e=>(by cases e),[_],⟨rfl,rfl⟩,false,rfl,k0,by omega,f0,⟨fun e=>(by cases e),fun e=>?_⟩⟩);have:=e.n1;omega
  refine OL.bF (hp:=c1) ?_;refine OL.mv ?_;refine OL.fd fo33_0 ?_;refine OL.l1 ty28 ?_;refine OL.bi (hN.len ty28) ?_;by_cases c2:(4000:Int)<(N.length:Int)
  ·refine OL.bT (hp:=c2) ?_;(iterate 16 (first|refine OL.pF ?_|refine OL.mv ?_|refine OL.ps ?_|refine OL.pT ?_));refine OL.nil (WL.condT rfl (WL.seq (WL.reg ?_)));refine OL.asg ?_;refine OL.nil (WL.ret ⟨fun id e=>(by cases e),[_],⟨rfl,rfl⟩,false,rfl,k0,by omega,f0,⟨fun e=>(by cases e),fun e=>?_⟩⟩);have:=e.n2;omega
  refine OL.bF (hp:=c2) ?_;refine OL.pF ?_;refine OL.mv ?_;obtain⟨es0,he0⟩:∃ es0,N[0]? =some es0:=⟨_,ggE (by omega)⟩
  obtain⟨b0,o0,v0,q1,q2,q3⟩:=hN.at' (E:=EE l) hf k0 ty28 ty49 rfl rfl he0;refine OL.fd fo33_0 ?_;refine OL.l1 ty28 ?_;refine OL.ix q1 ?_;refine OL.ld q2 ?_;refine OL.bi (q3.len ty49) ?_;by_cases c3:(0:Int)<(es0.length:Int)
  ·refine OL.bT (hp:=c3) ?_;(iterate 7 (first|refine OL.pF ?_|refine OL.mv ?_|refine OL.ps ?_));refine OL.pT ?_;refine OL.nil (WL.condT rfl (WL.seq (WL.reg ?_)));refine OL.asg ?_;refine OL.nil (WL.ret ⟨fun id e=>(by cases e),[_],⟨rfl,rfl⟩,false,rfl,k0,by omega,f0,⟨fun e=>(by cases e),fun e=>?_⟩⟩);have:=e.n0;rw[he0] at this;cases this;simp at c3
  refine OL.bF (hp:=c3) ?_;refine OL.pF ?_;refine OL.mv ?_;have hes0:es0=[]:=List.eq_nil_of_length_eq_zero (by omega);subst hes0;obtain⟨bs,h1,n1,g1,g2,g3,g4,g5⟩:=shaped_cl (N:=N) (eqs:=eqs) (qn:=qn) (vN:=vN) hl f0 (hP.keep hf k0) (hA.keep hf k0) (hQ.keep hf k0) (hU.keep hf k0) (fun p hp c hc=>(hk p hp c hc).keep k0 (by omega)) (hkg.keep k0 (by omega)) (fun k hk=>hg k (by omega)) hb1 hb2 hb3;have kn1:Keep n h h1:=k0.trans (by omega) g2;have z2':h1.get (n+1+1)=some (.cells [vN,vA,vQ,vU]):=by rw[g2 _ (by omega)];exact z2
  refine OL.la ty24 ?_;refine OL.la ty27 ?_;refine OL.la ty33 ?_;refine OL.cf fk75 g1 ?_;cases bs with
  | false =>
    refine OL.un ?_;refine OL.pF ?_;refine OL.nil (WL.condT rfl (WL.seq (WL.reg ?_)));refine OL.asg ?_;exact OL.nil (WL.ret ⟨fun id e=>(by cases e),[_],⟨rfl,rfl⟩,false,rfl,kn1,by omega,g4,⟨fun e=>(by cases e),fun e=>by have:=g5.2 e.sh;cases this⟩⟩)
  | true =>
    have hsh:=g5.1 rfl;refine OL.un ?_;refine OL.pF ?_;refine OL.nil (WL.condF rfl (WL.skip ?_));refine WL.seq (WL.reg ?_);refine OL.asg ?_;refine OL.nil (WL.seq (WL.seq (WL.reg ?_)));refine OL.fd fo33_0 ?_;refine OL.l1 ty28 ?_;refine OL.bi (hN.len ty28) ?_;refine OL.mv ?_;refine OL.nil (WL.block ?_);refine WL.loop (k:=N.length) (fun m L H M=>∃ i:Nat,i≤N.length∧m=N.length-i∧Sub [(40,.int .i64 (i:Int)),(39,.int .i64 (N.length:Int)),(38,vN),(5,ptrTo (n+1+1)),(7,.int .i64 ((N.take i).flatten.length:Int))] L∧Keep n1 h1 H∧n1≤M∧Fresh H M∧∀ (j:Nat) (es:List Edg),j<i→N[j]? =some es→(∀ (k:Nat) (e:Edg),es[k]? =some e→isF e.1=true)∧SortedE es) ?_
     ⟨0,Nat.zero_le _,rfl,(by repeat (first|exact Sub.nil|refine Sub.cons rfl ?_)),Keep.refl _ _,nlR _,g4,fun j es hj=>absurd hj (Nat.not_lt_zero j)⟩
    rintro m L H M ⟨i,hi,rfl,hs,kH,hM,fH,hall⟩;refine WL.keep hs ?_;have knH:Keep n h H:=kn1.trans (by omega) kH;refine WL.seq (WL.reg ?_);by_cases c4:(i:Int)<(N.length:Int)
    ·obtain⟨es,hes⟩:∃ es,N[i]? =some es:=⟨_,ggE (by omega)⟩
     have hesm:=List.mem_of_getElem? hes;obtain⟨b,o,v,r1,r2,r3⟩:=hN.at' (E:=EE l) hf knH ty28 ty49 rfl rfl hes;have ht:=take_flat hes;have hle:=take_flat_le N (i+1);rw[ht,List.length_append] at hle;refine OL.bT (hp:=c4) ?_;refine OL.nil (WL.seq (WL.condT rfl (WL.skip ?_)));refine WL.seq (WL.block (WL.seq (WL.reg ?_)));refine OL.ix r1 ?_;refine OL.ld r2 ?_;refine OL.asg ?_;refine OL.nil (WL.seq (WL.reg ?_));(iterate 2 refine OL.mv ?_);refine OL.bi (r3.len ty49) ?_;refine OL.ad ?_;refine OL.asg ?_;have e7:((N.take i).flatten.length:Int)+(es.length:Int)=(((N.take (i+1)).flatten.length:Nat):Int):=by rw[ht,List.length_append];omega
     rw[e7];refine OL.nil (WL.seq (WL.reg ?_));refine OL.mv ?_;refine OL.bi (r3.len ty49) ?_;refine OL.mv ?_;refine OL.nil (WL.block ?_);refine WL.loop (k:=es.length) (fun m L H' M'=>∃ j:Nat,j≤es.length∧m=es.length-j∧Sub [(50,.int .i64 (j:Int)),(49,.int .i64 (es.length:Int)),(48,v),(9,v),(40,.int .i64 (i:Int)),(39,.int .i64 (N.length:Int)),(38,vN),(5,ptrTo (n+1+1)),(7,.int .i64 ((N.take (i+1)).flatten.length:Int))] L∧Keep n1 h1 H'∧n1≤M'∧Fresh H' M'∧(∀ (k:Nat) (e:Edg),k<j→es[k]? =some e→isF e.1=true)∧(∀ (k:Nat) (a c:Edg),k+1<j→es[k]? =some a→es[k+1]? =some c→cmpF a.1 c.1<0)) ?_
      ⟨0,Nat.zero_le _,rfl,(by repeat (first|exact Sub.nil|refine Sub.cons rfl ?_)),kH,hM,fH,fun k e hk=>absurd hk (Nat.not_lt_zero k),fun k a c hk=>absurd hk (Nat.not_lt_zero _)⟩
     rintro m' L' H' M' ⟨j,hj,rfl,hs',kH',hM',fH',ha1,ha2⟩;refine WL.keep hs' ?_;have knH':Keep n h H':=kn1.trans (by omega) kH';refine WL.seq (WL.reg ?_);by_cases c5:(j:Int)<(es.length:Int)
     ·obtain⟨e,he⟩:∃ e,es[j]? =some e:=⟨_,ggE (by omega)⟩
      obtain⟨b2,o2,u1,u2,_⟩:=(r3.keep hf knH').at (E:=EE l) ty49 ty51 rfl rfl he;refine OL.bT (hp:=c5) ?_;refine OL.nil (WL.seq (WL.condT rfl (WL.skip ?_)));refine WL.seq (WL.block (WL.seq (WL.reg ?_)));refine OL.mv ?_;refine OL.ix u1 ?_;refine OL.ld u2 ?_;refine OL.al ty51 ?_;refine OL.asg ?_;refine OL.sn ty51 (T.gsE _ _ _) ?_;refine OL.nil ?_;refine WL.heap (fun Z=>Z.get M'=some (.cells (edgeL e))∧Fresh Z (M'+1)∧Keep n1 h1 Z) ⟨T.gsE _ _ _,(fH'.upd _).set (Nat.lt_succ_self _) _,(kH'.upd hM' _).upd hM' _⟩ ?_;rintro Z ⟨y1,fZ,kZ⟩;have knZ:Keep n h Z:=kn1.trans (by omega) kZ;have kF:=hkF es hesm e (List.mem_of_getElem? he);refine WL.seq (WL.regD (by kernel_rfl) (by kernel_rfl) ?_);refine OD.fd fo51_0 ?_;refine OD.la ty40 ?_;refine OD.cf fk37 (kF.cl knZ _) ?_;cases hF:isF e.1 with
      | false =>
        (iterate 16 (first|refine OD.un ?_|refine OD.mv ?_|refine OD.ps ?_));refine OD.pT ?_;refine OD.nil (WL.condT rfl (WL.seq (WL.reg ?_)));refine OL.asg ?_;refine OL.nil (WL.ret ⟨fun id e=>(by cases e),[_],⟨rfl,rfl⟩,false,rfl,knZ,by omega,fZ,⟨fun e=>(by cases e),fun e'=>?_⟩⟩);have:=(e'.ft i es hes).1 j e he;rw[hF] at this;cases this
      | true =>
        refine OD.un ?_;(iterate 2 refine OD.mv ?_);by_cases c6:(0:Int)<(j:Int)
        ·obtain⟨j',rfl⟩:∃ j',j=j'+1:=⟨j-1,by omega⟩
         obtain⟨e1,he1⟩:∃ e1,es[j']? =some e1:=⟨_,ggE (by omega)⟩
         obtain⟨b3,o3,w1,w2,cs3,w3,w4⟩:=(r3.keep hf knZ).at (E:=EE l) ty49 ty51 rfl rfl he1;have hb3':b3<M'+1:=by apply Classical.byContradiction;intro hh;unfold cellsOf at w3;rw[fZ b3 (by omega)] at w3;cases w3
         have hbv:∀ k,M'+1≤k→BelV k v:=fun k hk=>r3.bel hf (by omega)
         obtain⟨h4,t1,t2,t3⟩:=compare_cl hl e1.1 e.1 fZ;refine OD.bT (hp:=c6) ?_;(iterate 3 refine OD.mv ?_);refine OD.sb (a:=((j'+1:Nat):Int)) (b:=1) ?_;have ej:((j'+1:Nat):Int)-1=(j':Int):=by omega
         rw[ej];refine OD.ix w1 ?_;refine OD.fd fo51_0 ?_;refine OD.ld (loadN ty40 rfl w3 (seg5_at w4)) ?_;refine OD.fd fo51_0 ?_;refine OD.la ty40 ?_;refine OD.cf fk71 t1 ?_;by_cases c7:(0:Int)≤cmpF e1.1 e.1
         ·refine OD.bT (hp:=c7) ?_;refine OD.pT ?_;refine OD.pF ?_;refine OD.nil (WL.condT rfl (WL.seq (WL.reg ?_)));refine OL.asg ?_;refine OL.nil (WL.ret ⟨fun id e=>(by cases e),[_],⟨rfl,rfl⟩,false,rfl,knZ.trans (by omega) t2,by omega,t3,⟨fun e=>(by cases e),fun e'=>?_⟩⟩);have:=(e'.ft i es hes).2 j' e1 e he1 he;omega
         ·refine OD.bF (hp:=c7) ?_;refine OD.pT ?_;refine OD.pF ?_;refine OD.nil (WL.condF rfl (WL.skip (WL.reg ?_)));refine OL.ad1 ?_;refine OL.mv ?_;refine OL.nil ⟨es.length-(j'+1+1),by omega,j'+1+1,by omega,rfl,(by repeat (first|exact Sub.nil|refine Sub.cons rfl ?_)),kZ.trans (by omega) t2,by omega,t3,fun k c hk hc=>?_,fun k a c hk ha hc=>?_⟩
          ·rcases Nat.lt_or_ge k (j'+1) with h1|h1
           ·exact ha1 k c h1 hc
           ·have:k=j'+1:=by omega
            subst this;rw[he] at hc;cases hc;exact hF
          ·rcases Nat.lt_or_ge (k+1) (j'+1) with h1|h1
           ·exact ha2 k a c h1 ha hc
           ·have:k=j':=by omega
            subst this;rw[he1] at ha;rw[he] at hc;cases ha;cases hc;omega
        ·have hj0:j=0:=by omega
         subst hj0;refine OD.bF (hp:=c6) ?_;(iterate 13 (first|refine OD.mv ?_|refine OD.ps ?_|refine OD.pF ?_));refine OD.nil (WL.condF rfl (WL.skip (WL.reg ?_)));refine OL.ad1 ?_;refine OL.mv ?_;refine OL.nil ⟨es.length-(0+1),by omega,0+1,by omega,rfl,(by repeat (first|exact Sub.nil|refine Sub.cons rfl ?_)),kZ,by omega,fZ,fun k c hk hc=>?_,fun k a c hk=>by omega⟩;have:k=0:=by omega
         subst this;rw[he] at hc;cases hc;exact hF
     ·have hj':j=es.length:=by omega
      subst hj';refine OL.bF (hp:=c5) ?_;refine OL.nil (WL.seq (WL.condF rfl (WL.exit ?_)));refine WL.reg ?_;refine OL.ad1 ?_;refine OL.mv ?_;refine OL.nil ⟨N.length-(i+1),by omega,i+1,by omega,rfl,(by repeat (first|exact Sub.nil|refine Sub.cons rfl ?_)),kH',hM',fH',fun k es' hk hes'=>?_⟩;rcases Nat.lt_or_ge k i with h1|h1
      ·exact hall k es' h1 hes'
      ·have:k=i:=by omega
       subst this;rw[hes] at hes';cases hes';exact⟨fun k e hk=>ha1 k e (gsI hk).1 hk,fun k a c ha hc=>ha2 k a c (gsI hc).1 ha hc⟩
    ·have hi':i=N.length:=by omega
     subst hi';rw[List.take_length];refine OL.bF (hp:=c4) ?_;refine OL.nil (WL.seq (WL.condF rfl (WL.exit ?_)));have hft:∀ (i:Nat) (es:List Edg),N[i]? =some es→(∀ (j:Nat) (e:Edg),es[j]? =some e→isF e.1=true)∧SortedE es:=fun i es h=>hall i es (gsI h).1 h
     have zH:H.get (n+1+1)=some (.cells [vN,vA,vQ,vU]):=by rw[kH _ (by omega)];exact z2'
     refine WL.seq (WL.reg ?_);refine OL.mv ?_;by_cases c8:(N.flatten.length:Int)≤20000
     ·obtain⟨s,h5,n5,p1,p2,p3,p4,p5⟩:=links_cl hl fH (hN.keep hf knH) (hA.keep hf knH) (hQ.keep hf knH) (hU.keep hf knH) hb4 hb5 hb1 hb6 hb3;have knH5:Keep n h h5:=knH.trans (by omega) p2;have hrow:RowsS 2 linkL h5 s (allL N A Q U):=OwnW.rows (fun _=>rfl) p5 rfl rfl;have zH5:h5.get (n+1+1)=some (.cells [vN,vA,vQ,vU]):=by rw[p2 _ (by omega)];exact zH
      obtain⟨h6,n6,s1,s2,s3,s4⟩:=con49_cl hl (p:=fun k=>decide (k.1<0)||decide ((N.length:Int)≤k.1)) (g:=77) (cs:=[ptrTo (n+1+1)]) fk77 p4 hrow hb4 (fun k hk H N' hn hF hkk=>out_cl hl hF (by rw[hkk _ (by omega)];exact zH5) (hN.keep hf (knH5.trans (by omega) hkk)));refine OL.bT (hp:=c8) ?_;refine OL.mv ?_;refine OL.la ty33 ?_;refine OL.cf fk76 p1 ?_;refine OL.val (by first|rfl|exact WantL.yes rfl rfl rfl) (D.makeFunc rfl rfl rfl) rfl rfl ?_;refine OL.cf fk49 s1 ?_;refine OL.un ?_;refine OL.pT ?_;refine OL.asg ?_;refine OL.nil (WL.ret ⟨fun id e=>(by cases e),[_],⟨rfl,rfl⟩,_,rfl,knH5.trans (by omega) s2,by omega,s4,⟨fun e=>⟨by omega,by omega,he0,hsh,hft,by omega,?_⟩,fun e=>?_⟩⟩)
      ·cases hx:(allL N A Q U).any fun k=>decide (k.1<0)||decide ((N.length:Int)≤k.1) with
       | false=>rfl
       | true=>rw[hx] at e;cases e
      ·rw[e.lk];rfl
     ·refine OL.bF (hp:=c8) ?_;(iterate 6 (first|refine OL.mv ?_|refine OL.ps ?_));refine OL.pF ?_;refine OL.asg ?_;refine OL.nil (WL.ret ⟨fun id e=>(by cases e),[_],⟨rfl,rfl⟩,false,rfl,knH,by omega,fH,⟨fun e=>(by cases e),fun e=>?_⟩⟩);have:=e.many;omega
 obtain⟨w,h',n',k1,b,rfl,k2⟩:=key;exact⟨b,h',n',k1,k2⟩
end
def stepL(N:List (List Edg))(k:Lnk)(f:Ft):Lnk:=partL ((N[k.1.toNat]?).getD []) k f
theorem build_zero{l:List (FuncId×List (Ct×Value))}:buildA (EE l) 43 []=some (linkV (0,false)):=by simp only[buildA,ty43,tLink,fillA];rfl
structure Given(l:List (FuncId×List (Ct×Value)))(isF:Ft→Bool)(eqs:SlT→Int)(e0:Int)(ps:List PrRow)(g:SlT)(qn:Int)(N:List (List Edg))(A:List (List Lnk))(Q:List (List (List Lnk)))(U:List Lnk)(vP vN vA vQ vU:Value)(h:T Blk)(n:Nat):Prop where
 hP:ProcsR h vP ps
 hN:Rows2 5 edgeL h vN N
 hA:Rows2 2 linkL h vA A
 hQ:Rows3 2 linkL h vQ Q
 hU:RowsS 2 linkL h vU U
 hk:∀ p∈ps,∀ c∈p.cls,Kn l 120 [slV c.bd] (.int .i64 (eqs c.bd:Int)) h n
 hkg:Kn l 120 [slV g] (.int .i64 (eqs g:Int)) h n
 hg:∀ k,n≤k→BelV k (slV g)
 hkF:∀ es∈N,∀ e∈es,Kn l 37 [featV e.1] (.bool (isF e.1)) h n
 hka:Kn l 39 [.agg ⟨[vP]⟩,.agg ⟨[.int .i64 qn,slV g]⟩,.slice none 0 0] (.int .i64 e0) h n
 b1:A.length≤1000000000
 b2:ps.length≤1000000000
 b3:∀ X∈Q,X.length≤1000000000
 b4:(allL N A Q U).length≤1000000000
 b5:N.length≤1000000000
 b6:Q.length≤1000000000
theorem Given.keep{l:List (FuncId×List (Ct×Value))}{isF:Ft→Bool}{eqs:SlT→Int}{e0:Int}{ps:List PrRow}{g:SlT}{qn:Int}{N:List (List Edg)}{A:List (List Lnk)}{Q:List (List (List Lnk))}{U:List Lnk}{vP vN vA vQ vU:Value}{h H:T Blk}{n M:Nat}
 (G:Given l isF eqs e0 ps g qn N A Q U vP vN vA vQ vU h n) (hf:Fresh h n) (hk:Keep n h H) (hn:n≤M):Given l isF eqs e0 ps g qn N A Q U vP vN vA vQ vU H M :=
 {G with hP:=G.hP.keep hf hk,hN:=G.hN.keep hf hk,hA:=G.hA.keep hf hk,hQ:=G.hQ.keep hf hk,hU:=G.hU.keep hf hk,hk:=fun p hp c hc=>(G.hk p hp c hc).keep hk hn,hkg:=G.hkg.keep hk hn,hg:=fun k hk'=>G.hg k (by omega),hkF:=fun es he e hee=>(G.hkF es he e hee).keep hk hn,hka:=G.hka.keep hk hn}
section
variable {l:List (FuncId×List (Ct×Value))}(hl:MemoK l)
include hl
theorem check_cl{isF:Ft→Bool}{eqs:SlT→Int}{e0:Int}{ps:List PrRow}{g:SlT}{qn:Int}{N:List (List Edg)}{A:List (List Lnk)}{Q:List (List (List Lnk))}{U:List Lnk}{vP vN vA vQ vU:Value}{h:T Blk}{n:Nat}(hf:Fresh h n)(G:Given l isF eqs e0 ps g qn N A Q U vP vN vA vQ vU h n) :
 ∃ r h' n',Cl (EE l) 14 [.agg ⟨[vP]⟩,.agg ⟨[.int .i64 qn,slV g]⟩,.agg ⟨[vN,vA,vQ,vU]⟩] h n (.ret (.int .i64 r) h' n')∧Keep n h h'∧n≤n'∧Fresh h' n'∧(e0≠0→r=e0)∧(e0=0→GraphP isF eqs ps g N A Q U→r=0)∧(e0=0→¬ GraphP isF eqs ps g N A Q U→r=100):=by
 have key:∃ w h' n',Cl (EE l) 14 [.agg ⟨[vP]⟩,.agg ⟨[.int .i64 qn,slV g]⟩,.agg ⟨[vN,vA,vQ,vU]⟩] h n (.ret w h' n')∧∃ r,w= .int .i64 r∧Keep n h h'∧n≤n'∧Fresh h' n'∧(e0≠0→r=e0)∧(e0=0→GraphP isF eqs ps g N A Q U→r=0)∧(e0=0→¬ GraphP isF eqs ps g N A Q U→r=100):=by
  refine Cl.wl (many:=19) (memo_no hl (by decide)) rfl fk14 rfl rfl rfl rfl ?_;refine WL.seq (WL.reg ?_);(iterate 3 refine OL.bx ?_);refine OL.asg ?_;refine OL.nil ?_;refine WL.heap (fun H=>H.get n=some (.cells [vP])∧H.get (n+1)=some (.cells [.int .i64 qn,slV g])∧H.get (n+1+1)=some (.cells [vN,vA,vQ,vU])∧Fresh H (n+1+1+1)∧Keep n h H) ⟨?_,?_,T.gsE _ _ _,((hf.upd _).upd _).upd _,(((Keep.refl n h).upd (nlR _) _).upd (by omega) _).upd (by omega) _⟩ ?_
  ·rw[T.gnE _ _ (by omega),T.gnE _ _ (by omega)];exact T.gsE _ _ _
  ·rw[T.gnE _ _ (by omega)];exact T.gsE _ _ _
  rintro H0 ⟨z0,z1,z2,f0,k0⟩;refine WL.seq (WL.seq (WL.reg ?_));refine OL.la ty24 ?_;refine OL.la ty27 ?_;refine OL.cf fk39 (G.hka.cl k0 _) ?_;refine OL.asg ?_;refine OL.nil (WL.seq (WL.reg ?_));refine OL.mv ?_;by_cases he:e0=0
  ·subst he;refine OL.nF (hp:=rfl) ?_;refine OL.nil (WL.condF rfl (WL.skip ?_));have G0:=G.keep hf k0 (show n≤n+1+1+1 by omega);obtain⟨b,h1,n1,g1,g2,g3,g4,g5⟩:=graph_cl (isF:=isF) (eqs:=eqs) (qn:=qn) hl f0 G0.hP G0.hN G0.hA G0.hQ G0.hU G0.hk G0.hkg G0.hg G0.b1 G0.b2 G0.b3 G0.hkF G0.b4 G0.b5 G0.b6;refine WL.seq (WL.seq (WL.reg ?_));refine OL.la ty24 ?_;refine OL.la ty27 ?_;refine OL.la ty33 ?_;refine OL.cf fk40 g1 ?_;cases b with
   | true =>
     refine OL.un ?_;refine OL.nil (WL.condF rfl (WL.skip ?_));refine WL.seq (WL.reg ?_);refine OL.asg ?_;exact OL.nil (WL.ret ⟨fun id e=>(by cases e),[_],⟨rfl,rfl⟩,0,rfl,k0.trans (by omega) g2,by omega,g4,fun e=>absurd rfl e,fun _ _=>rfl,fun _ hn=>absurd (g5.1 rfl) hn⟩)
   | false =>
     refine OL.un ?_;refine OL.nil (WL.condT rfl (WL.seq (WL.reg ?_)));refine OL.asg ?_;exact OL.nil (WL.ret ⟨fun id e=>(by cases e),[_],⟨rfl,rfl⟩,100,rfl,k0.trans (by omega) g2,by omega,g4,fun e=>absurd rfl e,fun _ hp=>absurd (g5.2 hp) (by simp),fun _ _=>rfl⟩)
  ·refine OL.nT (hp:=he) ?_;refine OL.nil (WL.condT rfl (WL.seq (WL.reg ?_)));refine OL.mv ?_;refine OL.asg ?_;exact OL.nil (WL.ret ⟨fun id e=>(by cases e),[_],⟨rfl,rfl⟩,e0,rfl,k0,by omega,f0,fun _=>rfl,fun e=>absurd e he,fun e=>absurd e he⟩)
 obtain⟨w,h',n',k1,r,rfl,k2⟩:=key;exact⟨r,h',n',k1,k2⟩
theorem at1_cl{isF:Ft→Bool}{f:Ft}{h:T Blk}{n:Nat}(hf:Fresh h n)(hk:Kn l 37 [featV f] (.bool (isF f)) h n):∃ h' n',Cl (EE l) 36 [featV f] h n (.ret (.bool (!isF f)) h' n')∧Keep n h h'∧n≤n'∧Fresh h' n':=by
 have key:∃ w h' n',Cl (EE l) 36 [featV f] h n (.ret w h' n')∧w= .bool (!isF f)∧Keep n h h'∧n≤n'∧Fresh h' n':=by have k1:Keep n h (h.upd (some (.cells (featL f))) n):=(Keep.refl n h).upd (nlR _) _;refine Cl.wl (many:=6) (memo_no hl (by decide)) rfl fk36 rfl rfl rfl rfl ?_;refine WL.seq (WL.reg ?_);refine OL.bx ?_;refine OL.asg ?_;refine OL.nil (WL.seq (WL.reg ?_));refine OL.la ty40 ?_;refine OL.cf fk37 (hk.cl k1 _) ?_;refine OL.un ?_;refine OL.asg ?_;exact OL.nil (WL.ret ⟨fun id e=>(by cases e),[_],⟨rfl,rfl⟩,rfl,k1,Nat.le_succ n,hf.upd _⟩)
 obtain⟨w,h',n',k1,rfl,k2⟩:=key;exact⟨h',n',k1,k2⟩
end
theorem GraphP.inR{isF:Ft→Bool}{eqs:SlT→Int}{ps:List PrRow}{g:SlT}{N:List (List Edg)}{A:List (List Lnk)}{Q:List (List (List Lnk))}{U:List Lnk}(G:GraphP isF eqs ps g N A Q U){k:Lnk}(hk:k∈allL N A Q U):∃ i:Nat,k.1=(i:Int)∧i<N.length:=by
 have:=G.lk;have h1:(decide (k.1<0)||decide ((N.length:Int)≤k.1))=false:=by
  cases hx:(decide (k.1<0)||decide ((N.length:Int)≤k.1)) with
  | false=>rfl
  | true=>rw[List.any_eq_true.2 ⟨k,hk,hx⟩] at this;cases this
 simp only[Bool.or_eq_false_iff,decide_eq_false_iff_not] at h1;exact⟨k.1.toNat,by omega,by omega⟩
theorem partL_cases(es:List Edg)(k:Lnk)(f:Ft):partL es k f=k∨∃ e∈es,(partL es k f).1=e.2.1:=by
 unfold partL;cases hx:es.find? (fun e=>decide (e.1=f)) with
 | none=>exact .inl rfl
 | some e=>exact .inr ⟨e,List.mem_of_find?_eq_some hx,rfl⟩
theorem GraphP.step{isF:Ft→Bool}{eqs:SlT→Int}{ps:List PrRow}{g:SlT}{N:List (List Edg)}{A:List (List Lnk)}{Q:List (List (List Lnk))}{U:List Lnk}(G:GraphP isF eqs ps g N A Q U){k:Lnk}{f:Ft}(hk:∃ i:Nat,k.1=(i:Int)∧i<N.length):∃ i:Nat,(stepL N k f).1=(i:Int)∧i<N.length:=by
 rcases partL_cases ((N[k.1.toNat]?).getD []) k f with h|⟨e,he,h⟩
 ·unfold stepL;rw[h];exact hk
 ·unfold stepL;rw[h];obtain⟨i,hi,hlt⟩:=hk;have hN:N[k.1.toNat]? =some (N[i]'hlt):=by
   rw[hi];simp[hlt]
  rw[hN] at he;have hm:e.2∈allL N A Q U:=by unfold allL;refine List.mem_append_right _ (List.mem_map.2 ⟨e,?_,rfl⟩);exact List.mem_flatten.2 ⟨_,List.getElem_mem hlt,he⟩
  exact G.inR hm
def ArgOK(ps:List PrRow)(proc arg:Int):Prop:=∃ (i:Nat)(p:PrRow),proc=(i:Int)∧ps[i]? =some p∧0≤arg∧arg<p.ar
def BadA(isF:Ft→Bool)(ps:List PrRow)(proc arg:Int)(fs:List Ft):Prop:=fs.any (fun f=> !isF f)=true∨¬ ArgOK ps proc arg
def AtR(isF:Ft→Bool)(eqs:SlT→Int)(e0:Int)(ps:List PrRow)(g:SlT)(N:List (List Edg))(A:List (List Lnk))(Q:List (List (List Lnk)))(U:List Lnk)(proc arg:Int)(fs:List Ft)(r:Lnk)(e:Int):Prop :=
 (e0≠0→r=(0,false)∧e=e0)∧(e0=0→¬ GraphP isF eqs ps g N A Q U→r=(0,false)∧e=100) ∧
 (e0=0→GraphP isF eqs ps g N A Q U→(BadA isF ps proc arg fs→r=(0,false)∧e=1)∧(¬ BadA isF ps proc arg fs→∃ a k0,A[proc.toNat]? =some a∧a[arg.toNat]? =some k0∧e=0∧r=fs.foldl (stepL N) k0))
section
variable {l:List (FuncId×List (Ct×Value))}(hl:MemoK l)
include hl
theorem at_cl{isF:Ft→Bool}{eqs:SlT→Int}{e0:Int}{ps:List PrRow}{g:SlT}{qn:Int}{N:List (List Edg)}{A:List (List Lnk)}{Q:List (List (List Lnk))}{U:List Lnk}{vP vN vA vQ vU vF:Value}{proc arg:Int}{fs:List Ft}{h:T Blk}{n:Nat}(hf:Fresh h n)(G:Given l isF eqs e0 ps g qn N A Q U vP vN vA vQ vU h n)
 (hF:RowsS 3 featL h vF fs) (hkF:∀ f∈fs,Kn l 37 [featV f] (.bool (isF f)) h n) (hbF:fs.length≤1000000000) :
 ∃ r e h' n',Cl (EE l) 10 [.agg ⟨[vP]⟩,.agg ⟨[.int .i64 qn,slV g]⟩,.agg ⟨[vN,vA,vQ,vU]⟩,.int .i64 proc,.int .i64 arg,vF] h n (.ret (.tuple ⟨[linkV r,.int .i64 e]⟩) h' n')∧Keep n h h'∧n≤n'∧Fresh h' n'∧AtR isF eqs e0 ps g N A Q U proc arg fs r e:=by
 have key:∃ w h' n',Cl (EE l) 10 [.agg ⟨[vP]⟩,.agg ⟨[.int .i64 qn,slV g]⟩,.agg ⟨[vN,vA,vQ,vU]⟩,.int .i64 proc,.int .i64 arg,vF] h n (.ret w h' n')∧∃ r e,w= .tuple ⟨[linkV r,.int .i64 e]⟩∧Keep n h h'∧n≤n'∧Fresh h' n'∧AtR isF eqs e0 ps g N A Q U proc arg fs r e:=by
  refine Cl.wl (many:=77) (memo_no hl (by decide)) rfl fk10 rfl rfl rfl rfl ?_;refine WL.seq (WL.reg ?_);(iterate 3 refine OL.bx ?_);refine OL.al ty43 ?_;refine OL.asg ?_;refine OL.nil ?_;refine WL.heap (fun H=>H.get n=some (.cells [vP])∧H.get (n+1)=some (.cells [.int .i64 qn,slV g])∧H.get (n+1+1)=some (.cells [vN,vA,vQ,vU])∧H.get (n+1+1+1)=some (.cells [.int .i64 0,.bool false])∧Fresh H (n+1+1+1+1)∧Keep n h H) ⟨?_,?_,?_,T.gsE _ _ _,(((hf.upd _).upd _).upd _).upd _,((((Keep.refl n h).upd (nlR _) _).upd (by omega) _).upd (by omega) _).upd (by omega) _⟩ ?_
  ·rw[T.gnE _ _ (by omega),T.gnE _ _ (by omega),T.gnE _ _ (by omega)];exact T.gsE _ _ _
  ·rw[T.gnE _ _ (by omega),T.gnE _ _ (by omega)];exact T.gsE _ _ _
  ·rw[T.gnE _ _ (by omega)];exact T.gsE _ _ _
  rintro H0 ⟨z0,z1,z2,z3,f0,k0⟩;obtain⟨r,h1,n1,g1,g2,g3,g4,g5,g6,g7⟩:=check_cl hl f0 (G.keep hf k0 (show n≤n+1+1+1+1 by omega));have kn1:Keep n h h1:=k0.trans (by omega) g2;have y0:h1.get n=some (.cells [vP]):=by rw[g2 _ (by omega)];exact z0
  have y2:h1.get (n+1+1)=some (.cells [vN,vA,vQ,vU]):=by rw[g2 _ (by omega)];exact z2
  have y3:h1.get (n+1+1+1)=some (.cells [.int .i64 0,.bool false]):=by rw[g2 _ (by omega)];exact z3
  refine WL.seq (WL.seq (WL.reg ?_));refine OL.la ty24 ?_;refine OL.la ty27 ?_;refine OL.la ty33 ?_;refine OL.cf fk14 g1 ?_;refine OL.asg ?_;refine OL.nil (WL.seq (WL.reg ?_));refine OL.mv ?_;by_cases hr0:r=0
  case neg =>
   refine OL.nT (hp:=hr0) ?_;refine OL.nil (WL.condT rfl (WL.seq (WL.reg ?_)));refine OL.bd build_zero ?_;refine OL.mv ?_;refine OL.sn (b:=n+1+1+1) (old:=[.int .i64 0,.bool false]) ty43 y3 ?_;refine OL.asg ?_;refine OL.nil (WL.ret ⟨fun id e=>(by cases e),[_,_],⟨_,rfl,loadN ty43 rfl (cells_of (T.gsE _ _ _)) rfl,rfl,rfl⟩,(0,false),r,rfl,kn1.upd (by omega) _,by omega,g4.set (by omega) _,fun e=>⟨rfl,g5 e⟩,fun e1 e2=>⟨rfl,g7 e1 e2⟩,fun e1 e2=>absurd (g6 e1 e2) hr0⟩)
  have he:e0=0:=by apply Classical.byContradiction;intro hh;exact hh (by rw[←g5 hh];exact hr0)
  have hG:GraphP isF eqs ps g N A Q U:=by apply Classical.byContradiction;intro hh;have:=g7 he hh;omega
  refine OL.nF (hp:=hr0) ?_;refine OL.nil (WL.condF rfl (WL.skip ?_));obtain⟨h2,n2,s1,s2,s3,s4⟩:=con8_cl hl (p:=fun f=> !isF f) (g:=36) (cs:=[]) fk36 g4 (hF.keep hf kn1) hbF (fun f hfm H M hM hFM hkM=>at1_cl hl hFM ((hkF f hfm).keep (kn1.trans (by omega) hkM) (by omega)));have kn2:Keep n h h2:=kn1.trans (by omega) s2;have f2:Fresh h2 n2:=s4;have x0:h2.get n=some (.cells [vP]):=by rw[s2 _ (by omega)];exact y0
  have x2:h2.get (n+1+1)=some (.cells [vN,vA,vQ,vU]):=by rw[s2 _ (by omega)];exact y2
  have x3:h2.get (n+1+1+1)=some (.cells [.int .i64 0,.bool false]):=by rw[s2 _ (by omega)];exact y3
  refine WL.seq (WL.reg ?_);refine OL.mv ?_;refine OL.cf fk8 s1 ?_;refine OL.asg ?_;refine OL.nil (WL.seq (WL.seq (WL.reg ?_)));refine OL.mv ?_;by_cases c1:proc<0
  ·refine OL.bT (hp:=c1) ?_;(iterate 24 (first|refine OL.mv ?_|refine OL.ps ?_|refine OL.pT ?_));refine OL.nil (WL.condT rfl (WL.seq (WL.reg ?_)));refine OL.bd build_zero ?_;refine OL.sn (b:=n+1+1+1) (old:=[.int .i64 0,.bool false]) ty43 (by assumption) ?_;refine OL.asg ?_;refine OL.nil (WL.ret ⟨fun id e=>(by cases e),[_,_],⟨_,rfl,loadN ty43 rfl (cells_of (T.gsE _ _ _)) rfl,rfl,rfl⟩,(0,false),1,rfl,kn2.upd (by omega) _,by omega,f2.set (by omega) _,fun e=>absurd he e,fun _ e=>absurd hG e,fun _ _=>⟨fun _=>⟨rfl,rfl⟩,fun e=>absurd (Or.inr fun⟨i,p,h1,h2,_⟩=>by omega) e⟩⟩)
  refine OL.bF (hp:=c1) ?_;(iterate 2 refine OL.mv ?_);refine OL.fd fo24_0 ?_;refine OL.l1 ty22 ?_;refine OL.bi (G.hP.1.len ty22) ?_;by_cases c2:(ps.length:Int)≤proc
  ·refine OL.bT (hp:=c2) ?_;(iterate 18 (first|refine OL.pF ?_|refine OL.mv ?_|refine OL.ps ?_|refine OL.pT ?_));refine OL.nil (WL.condT rfl (WL.seq (WL.reg ?_)));refine OL.bd build_zero ?_;refine OL.sn (b:=n+1+1+1) (old:=[.int .i64 0,.bool false]) ty43 (by assumption) ?_;refine OL.asg ?_;refine OL.nil (WL.ret ⟨fun id e=>(by cases e),[_,_],⟨_,rfl,loadN ty43 rfl (cells_of (T.gsE _ _ _)) rfl,rfl,rfl⟩,(0,false),1,rfl,kn2.upd (by omega) _,by omega,f2.set (by omega) _,fun e=>absurd he e,fun _ e=>absurd hG e,fun _ _=>⟨fun _=>⟨rfl,rfl⟩,fun e=>absurd (Or.inr fun⟨i,p,h1,h2,_⟩=>by have:=(gsI h2).1;omega) e⟩⟩)
  refine OL.bF (hp:=c2) ?_;refine OL.pF ?_;(iterate 2 refine OL.mv ?_);obtain⟨i,rfl⟩:∃ i:Nat,proc=(i:Int):=⟨proc.toNat,by omega⟩
  obtain⟨p,hp⟩:∃ p,ps[i]? =some p:=⟨_,ggE (by omega)⟩
  by_cases c3:arg<0
  ·refine OL.bT (hp:=c3) ?_;(iterate 14 (first|refine OL.pF ?_|refine OL.mv ?_|refine OL.ps ?_|refine OL.pT ?_));refine OL.nil (WL.condT rfl (WL.seq (WL.reg ?_)));refine OL.bd build_zero ?_;refine OL.sn (b:=n+1+1+1) (old:=[.int .i64 0,.bool false]) ty43 (by assumption) ?_;refine OL.asg ?_;refine OL.nil (WL.ret ⟨fun id e=>(by cases e),[_,_],⟨_,rfl,loadN ty43 rfl (cells_of (T.gsE _ _ _)) rfl,rfl,rfl⟩,(0,false),1,rfl,kn2.upd (by omega) _,by omega,f2.set (by omega) _,fun e=>absurd he e,fun _ e=>absurd hG e,fun _ _=>⟨fun _=>⟨rfl,rfl⟩,fun e=>absurd (Or.inr fun⟨i,p,h1,h2,h3,_⟩=>by omega) e⟩⟩)
  refine OL.bF (hp:=c3) ?_;(iterate 6 (first|refine OL.pF ?_|refine OL.mv ?_|refine OL.fd fo24_0 ?_|refine OL.l1 ty22 ?_));obtain⟨b,o,q1,q2,cs,q3,q4⟩:=(G.hP.1.keep hf kn2).at (E:=EE l) ty22 ty70 rfl rfl hp;refine OL.ix q1 ?_;refine OL.fd fo70_1 ?_;have har:cs[o+1]? =some (.int .i64 p.ar):=by have:=seg_at q4 (i:=1) (by omega);rw[this];rfl
  refine OL.ld (load1 ty3 rfl q3 har) ?_;by_cases c4:p.ar≤arg
  ·refine OL.bT (hp:=c4) ?_;refine OL.pF ?_;refine OL.mv ?_;refine OL.ps ?_;refine OL.pT ?_;refine OL.nil (WL.condT rfl (WL.seq (WL.reg ?_)));refine OL.bd build_zero ?_;refine OL.sn (b:=n+1+1+1) (old:=[.int .i64 0,.bool false]) ty43 (by assumption) ?_;refine OL.asg ?_;refine OL.nil (WL.ret ⟨fun id e=>(by cases e),[_,_],⟨_,rfl,loadN ty43 rfl (cells_of (T.gsE _ _ _)) rfl,rfl,rfl⟩,(0,false),1,rfl,kn2.upd (by omega) _,by omega,f2.set (by omega) _,fun e=>absurd he e,fun _ e=>absurd hG e,fun _ _=>⟨fun _=>⟨rfl,rfl⟩,fun e=>absurd (Or.inr fun⟨i2,p2,h1,h2,h3,h4⟩=>absurd h4 (by rw[show i2=i by omega,hp] at h2;cases h2;omega)) e⟩⟩)
  refine OL.bF (hp:=c4) ?_;(iterate 4 (first|refine OL.pF ?_|refine OL.mv ?_));have hok:ArgOK ps (i:Int) arg:=⟨i,p,rfl,hp,by omega,by omega⟩
  cases hw:fs.any (fun f=> !isF f) with
  | true =>
    refine OL.nil (WL.condT rfl (WL.seq (WL.reg ?_)));refine OL.bd build_zero ?_;refine OL.sn (b:=n+1+1+1) (old:=[.int .i64 0,.bool false]) ty43 (by assumption) ?_;refine OL.asg ?_;refine OL.nil (WL.ret ⟨fun id e=>(by cases e),[_,_],⟨_,rfl,loadN ty43 rfl (cells_of (T.gsE _ _ _)) rfl,rfl,rfl⟩,(0,false),1,rfl,kn2.upd (by omega) _,by omega,f2.set (by omega) _,fun e=>absurd he e,fun _ e=>absurd hG e,fun _ _=>⟨fun _=>⟨rfl,rfl⟩,fun e=>absurd (Or.inl hw) e⟩⟩)
  | false =>
  have hgood:¬ BadA isF ps (i:Int) arg fs:=fun hb=>hb.elim (fun e=>by rw[hw] at e;cases e) (fun e=>e hok)
  refine OL.nil (WL.condF rfl (WL.skip ?_));obtain⟨j,rfl⟩:∃ j:Nat,arg=(j:Int):=⟨arg.toNat,by omega⟩
  obtain⟨_,a,ha,hal⟩:=hG.sh.2.2.2 i p hp;obtain⟨kl,hkl⟩:∃ kl,a[j]? =some kl:=⟨_,ggE (by omega)⟩
  obtain⟨b4,o4,v4,u1,u2,u3⟩:=G.hA.at' (E:=EE l) hf kn2 ty29 ty31 rfl rfl ha;obtain⟨b5,o5,w1,w2,_⟩:=(u3.keep hf kn2).at (E:=EE l) ty31 ty43 rfl rfl hkl;have hin0:∃ i:Nat,kl.1=(i:Int)∧i<N.length:=hG.inR (by unfold allL;exact List.mem_append_left _ (List.mem_append_left _ (List.mem_append_left _ (List.mem_flatten.2 ⟨a,List.mem_of_getElem? ha,List.mem_of_getElem? hkl⟩))))
  refine WL.seq (WL.reg ?_);refine OL.fd fo33_1 ?_;refine OL.l1 ty29 ?_;refine OL.mv ?_;refine OL.ix u1 ?_;refine OL.ld u2 ?_;refine OL.mv ?_;refine OL.ix w1 ?_;refine OL.ld w2 ?_;refine OL.al ty43 ?_;refine OL.sn ty43 (T.gsE _ _ _) ?_;refine OL.nil ?_;refine WL.heap (fun Z=>Z.get n2=some (.cells (linkL kl))∧Fresh Z (n2+1)∧Keep n2 h2 Z) ⟨T.gsE _ _ _,(f2.upd _).set (Nat.lt_succ_self _) _,((Keep.refl n2 h2).upd (nlR _) _).upd (nlR _) _⟩ ?_;rintro Z0 ⟨t0,fZ,kZ⟩;refine WL.seq (WL.seq (WL.reg ?_));refine OL.mv ?_;refine OL.bi (hF.len ty34) ?_;refine OL.mv ?_;refine OL.nil (WL.block ?_)
  refine WL.loop (k:=fs.length) (fun m L H M=>∃ c:Nat,c≤fs.length∧m=fs.length-c∧Sub [(66,.int .i64 (c:Int)),(65,.int .i64 (fs.length:Int)),(64,vF),(8,ptrTo (n+1+1)),(16,ptrTo n2),(12,ptrTo (n+1+1+1))] L∧Keep n2 h2 H∧n2+1≤M∧Fresh H M∧H.get n2=some (.cells (linkL ((fs.take c).foldl (stepL N) kl)))∧∃ i:Nat,((fs.take c).foldl (stepL N) kl).1=(i:Int)∧i<N.length) ?_
   ⟨0,Nat.zero_le _,rfl,(by repeat (first|exact Sub.nil|refine Sub.cons rfl ?_)),kZ,nlR _,fZ,t0,hin0⟩
  rintro m L H M ⟨c,hc,rfl,hs,kH,hM,fH,hcur,hin⟩;refine WL.keep hs ?_;have knH:Keep n h H:=kn2.trans (by omega) kH;have xH2:H.get (n+1+1)=some (.cells [vN,vA,vQ,vU]):=by rw[kH _ (by omega)];exact x2
  have xH3:H.get (n+1+1+1)=some (.cells [.int .i64 0,.bool false]):=by rw[kH _ (by omega)];exact x3
  refine WL.seq (WL.reg ?_);by_cases c5:(c:Int)<(fs.length:Int)
  ·obtain⟨f,hfc⟩:∃ f,fs[c]? =some f:=⟨_,ggE (by omega)⟩
   obtain⟨b6,o6,r1,r2,_⟩:=(hF.keep hf knH).at (E:=EE l) ty34 ty40 rfl rfl hfc;have htk:(fs.take (c+1)).foldl (stepL N) kl=stepL N ((fs.take c).foldl (stepL N) kl) f:=by rw[List.take_add_one,hfc];simp
   generalize hcu:(fs.take c).foldl (stepL N) kl=cur at hcur hin htk;obtain⟨ci,hci,hclt⟩:=hin;obtain⟨es,hes⟩:∃ es,N[ci]? =some es:=⟨_,ggE hclt⟩
   have hst:stepL N cur f=partL es cur f:=by unfold stepL;rw[hci,Int.toNat_natCast,hes];rfl
   refine OL.bT (hp:=c5) ?_;refine OL.nil (WL.seq (WL.condT rfl (WL.skip ?_)));refine WL.seq (WL.block (WL.seq (WL.reg ?_)));refine OL.ix r1 ?_;refine OL.ld r2 ?_;refine OL.al ty40 ?_;refine OL.sn ty40 (T.gsE _ _ _) ?_;refine OL.nil ?_;refine WL.heap (fun Z=>Z.get M=some (.cells (featL f))∧Fresh Z (M+1)∧Keep M H Z) ⟨T.gsE _ _ _,(fH.upd _).set (Nat.lt_succ_self _) _,((Keep.refl M H).upd (nlR _) _).upd (nlR _) _⟩ ?_;rintro Z ⟨e1,fZ1,kZ1⟩;have hcur':Z.get n2=some (.cells (linkL cur)):=by rw[kZ1 _ (by omega)];exact hcur
   have zZ2:Z.get (n+1+1)=some (.cells [vN,vA,vQ,vU]):=by rw[kZ1 _ (by omega)];exact xH2
   have knZ:Keep n h Z:=knH.trans (by omega) kZ1;have hbm:∀ k,n≤k→BelV k (.agg ⟨[vN,vA,vQ,vU]⟩):=fun k hk=>BelV.agg fun v hv=>by
    simp only[List.mem_cons,List.not_mem_nil,or_false] at hv;rcases hv with rfl|rfl|rfl|rfl
    ·obtain⟨vs,r,_⟩:=G.hN;obtain⟨eb,c,hh,_⟩:=r;exact⟨by obtain⟨vs,r,_⟩:=G.hN;exact r.bel hf hk,_,_,_,hh⟩
    ·obtain⟨vs,r,_⟩:=G.hA;obtain⟨eb,c,hh,_⟩:=r;exact⟨by obtain⟨vs,r,_⟩:=G.hA;exact r.bel hf hk,_,_,_,hh⟩
    ·obtain⟨vs,r,_⟩:=G.hQ;obtain⟨eb,c,hh,_⟩:=r;exact⟨by obtain⟨vs,r,_⟩:=G.hQ;exact r.bel hf hk,_,_,_,hh⟩
    ·obtain⟨eb,c,hh,_⟩:=G.hU;exact⟨G.hU.bel hf hk,_,_,_,hh⟩
   have kP:Keep (M+1) Z (Z.upd (some (.cells [vN,vA,vQ,vU])) (M+1)):=(Keep.refl _ _).upd (nlR _) _;have fP:Fresh (Z.upd (some (.cells [vN,vA,vQ,vU])) (M+1)) (M+1+1):=fZ1.upd _;obtain⟨h7,n7,p1,p2,p3,p4⟩:=part_cl hl (N:=N) (k:=cur) (f:=f) (p:=M+1) fP (T.gsE _ _ _) (G.hN.keep hf (knZ.trans (by omega) kP)) hci hes (hG.ft ci es hes).2 (by
    have h1:=hG.many;have h2:es.length≤N.flatten.length:=by have h3:=take_flat_le N (ci+1);rw[take_flat hes,List.length_append] at h3;omega
    omega)
   have hfn:∀ k,M+1+1≤k→BelV k (.func (.func 68) ⟨[]⟩ ⟨[ptrTo (M+1)]⟩):=fun k hk=>BelV.fn1 (by omega)
   have hc7:h7.get n2=some (.cells (linkL cur)):=by rw[p2 _ (by omega),T.gnE _ _ (by omega)];exact hcur'
   refine WL.regG [(2,1),(3,1)] (by kernel_rfl) (by kernel_rfl) ?_;refine OG.la ty33 ?_;refine OG.cf fk38 (parts_cl hl vN vA vQ vU _ _) ?_;refine OG.la ty43 ?_;refine OG.la ty40 ?_;refine OG.cv fk68 p1 ?_;refine OG.st (storeN (b:=n2) (o:=0) (old:=linkL cur) (new:=linkL (partL es cur f)) ty43 hc7 rfl rfl rfl) ?_;refine OG.nil ⟨FlOK.cons rfl rfl (loadN ty43 rfl (cells_of hcur') rfl) (sameAgg (by simp[sameV.sameL,sameV,kindEq,bytesEq_refl])) (FlOK.cons rfl rfl (loadN ty40 rfl (cells_of e1) rfl) (sameAgg (by simp[sameV.sameL,sameV,kindEq,bytesEq_refl])) FlOK.nil),?_⟩;refine WL.reg ?_;refine OL.ad1 ?_;refine OL.mv ?_;have kU:Keep n2 h2 ((h7.upd (some (.cells (linkL (partL es cur f)))) n2)):=fun d hd=>by rw[T.gnE _ _ (by omega),p2 d (by omega),T.gnE _ _ (by omega),kZ1 d (by omega)];exact kH d hd
   refine OL.nil ⟨fs.length-(c+1),by omega,c+1,by omega,rfl,(by repeat (first|exact Sub.nil|refine Sub.cons rfl ?_)),kU,by omega,p4.set (by omega) _,?_,?_⟩
   ·rw[htk,hst];exact T.gsE _ _ _
   ·rw[htk];exact hG.step ⟨ci,hci,hclt⟩
  ·have hc':c=fs.length:=by omega
   subst hc';rw[List.take_length] at hcur hin;refine OL.bF (hp:=c5) ?_;refine OL.nil (WL.seq (WL.condF rfl (WL.exit ?_)));refine WL.seq (WL.reg ?_);refine OL.la ty43 ?_;refine OL.sn (b:=n+1+1+1) (old:=[.int .i64 0,.bool false]) ty43 xH3 ?_;refine OL.asg ?_;refine OL.nil (WL.ret ⟨fun id e=>(by cases e),[_,_],⟨_,rfl,loadN ty43 rfl (cells_of (T.gsE _ _ _)) rfl,rfl,rfl⟩,fs.foldl (stepL N) kl,0,rfl,knH.upd (by omega) _,by omega,fH.set (by omega) _,fun e=>absurd he e,fun _ e=>absurd hG e,fun _ _=>⟨fun e=>absurd e hgood,fun _=>⟨a,kl,?_,?_,rfl,rfl⟩⟩⟩)
   ·rw[Int.toNat_natCast];exact ha
   ·rw[Int.toNat_natCast];exact hkl
 obtain⟨w,h',n',k1,r,e,rfl,k2⟩:=key;exact⟨r,e,h',n',k1,k2⟩
end
theorem el29{l:List (FuncId×List (Ct×Value))}:ElT (EE l) 29 31 (tSl 43):=⟨ty29,ty31,rfl,rfl,rfl,rfl,rfl⟩
theorem slices_cells:∀ vs:List Value,(∀ v∈vs,∃ b l c,v= .slice b l c)→allCells vs=true
 | [],_=>rfl
 | v :: vs,h=>by obtain⟨b,l,c,rfl⟩:=h v (mcS ..);simp only[allCells,isCell,cond_true];exact slices_cells vs fun v hv=>h v (mcM _ hv)
theorem flat_one(vs:List Value):vs.flatMap (fun v=>[v])=vs:=by simp
theorem noB{l:List (FuncId×List (Ct×Value))}(ty:TypeId){e:TypeId}(hty:(EE l).ty.get ty=some (tSl e))(a:Addr)(n c:Nat){k:Bool}:binA (EE l) .eql ty k (.slice (some a) n c) (.slice none 0 0)=some (.bool false):=by show(match eqA (EE l) ty k (.slice (some a) n c) (.slice none 0 0) with|some b=>some (Value.bool b)|none=>none)=_;simp only[eqA,hty,tSl]
theorem len9{l:List (FuncId×List (Ct×Value))}(s:ByteArray){h:T Blk}{n:Nat}:builtinA (EE l) .len [9] [.string s] h n= .val (.int .i64 (s.size:Int)) h n:=by simp only[builtinA,lenA,ty9,tK9,val?]
section
variable {l:List (FuncId×List (Ct×Value))}(hl:MemoK l)
include hl
end
def FtOK(f:Ft):Prop:=f.1.size≤16000000∧R64 f.2.1∧R64 f.2.2
set_option maxHeartbeats 8000000
theorem eqB{l:List (FuncId×List (Ct×Value))}(a b:Bool){c:Bool}:binA (EE l) .eql 4 c (.bool a) (.bool b)=some (.bool (a == b)):=by show(match eqA (EE l) 4 c (.bool a) (.bool b) with|some b=>some (Value.bool b)|none=>none)=_;simp only[eqA,ty4,tBool]
structure LawS(h:T Blk)(n:Nat)(vP:Value)(qn:Int)(g:SlT)(vN vA vQ vU:Value)(p13 p17 c d:Nat)(A1:Value)(vs:List Value)(at':List Lnk)(H:T Blk)(M:Nat)(cur:Lnk):Prop where
 fr:Fresh H M
 kn:Keep n h H
 l2:n+1+1<M
 l13:p13<M
 l17:p17<M
 lc:c<M
 ld:d<M
 n13:n+1+1<p13
 n17:p13<p17
 nc:p13<c
 nd:p13<d
 g0:H.get n=some (.cells [vP])
 g1:H.get (n+1)=some (.cells [.int .i64 qn,slV g])
 g2:H.get (n+1+1)=some (.cells [vN,vA,vQ,vU])
 g13:H.get p13=some (.cells (linkL cur))
 g17:H.get p17=some (.cells [vN,A1,vQ,vU])
 gc:H.get c=some (.cells vs)
 gd:H.get d=some (.cells (at'.flatMap linkL))
end Go.Sx
