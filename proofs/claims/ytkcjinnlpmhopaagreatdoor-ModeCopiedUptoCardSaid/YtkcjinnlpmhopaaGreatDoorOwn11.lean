/- RxB: the seat's units: shown. -/
import Derived.Test.YtkcjinnlpmhopaaGreatDoorOwn10
import Derived.Maps.RangeRun
namespace Go.Sx
open Go.Proofs
set_option maxRecDepth 100000
set_option maxHeartbeats 2000000
theorem fn46:EV.fn.get 46=some Tryz.f46:=by kernel_rfl
theorem el71:ElT EV 71 77 tUnit:=⟨ty71,ty77,rfl,rfl,rfl,rfl,rfl⟩
theorem build_unit(a b:Int):buildSliceA EV 71 1 [(0,.agg ⟨[.int .i64 a,.int .i64 b]⟩)]=some [.int .i64 a,.int .i64 b]:=by simp only[buildSliceA,ty71,tSl,ty77,tUnit];rfl
theorem unit_v(a b:Int):buildA EV 77 [(0,.int .i64 a),(1,.int .i64 b)]=some (.agg ⟨[.int .i64 a,.int .i64 b]⟩):=by simp only[buildA,ty77,tUnit,fillA,fieldPlaces,nth,ty3,tInt];rfl
theorem unit_q:buildA EV 77 [(0,.int .i64 (-1))]=some (.agg ⟨[.int .i64 (-1),.int .i64 0]⟩):=by simp only[buildA,ty77,tUnit,fillA,fieldPlaces,nth,ty3,tInt];rfl
theorem sum3(f:Nat→Nat)(i:Nat):Az.sumF f ((i+1) * 3)=Az.sumF f (i * 3)+f (i * 3)+f (i * 3+1)+f (i * 3+2):=by rw[show(i+1) * 3=i * 3+1+1+1 by omega];rfl
theorem sumF_mono(f:Nat→Nat){a b:Nat}(h:a≤b):Az.sumF f a≤Az.sumF f b:=by
 induction b with
 | zero =>
   have:a=0:=by omega
   subst this;exact nlR _
 | succ b ih =>
   rcases Nat.lt_or_ge a (b+1) with h1|h1
   ·have:=ih (by omega);show _≤Az.sumF f b+f b;omega
   ·have:a=b+1:=by omega
    subst this;exact nlR _
def UI(h:T Blk)(n:Nat)(s:Value)(len:Nat)(H:T Blk)(N:Nat):Prop:=(∃ cs,OwnS 2 n H s len cs∧AllI cs)∧Fresh H N∧Keep n h H∧n≤N
theorem UI.add{h:T Blk}{n:Nat}{s:Value}{len:Nat}{H:T Blk}{N:Nat}(u:UI h n s len H N){a b:Int}(ha:R64 a)(hb:R64 b)(hl:len≤1000000) :
 ∃ w H',builtinA EV .append [71,71] [s,.slice (some ⟨N,0,none⟩) 1 1] (H.upd (some (.cells [.int .i64 a,.int .i64 b])) N) (N+1)= .val w H' (N+1+1)∧UI h n w (len+1) H' (N+1+1):=by
 obtain⟨⟨cs,o,hc⟩,hf,hk,hn⟩:=u;have o2:OwnS tUnit.size n (H.upd (some (.cells [.int .i64 a,.int .i64 b])) N) s len cs:=o.keep fun c hc=>T.gnE _ _ (Nat.ne_of_lt (hf.lt (o.blk hc).2))
 obtain⟨w,H',q1,q2,q3,q4,q5⟩:=o2.append (x:= .slice (some ⟨N,0,none⟩) 1 1) (new:=[.int .i64 a,.int .i64 b]) el71 (hf.upd _) (by omega) ⟨_,_,rfl⟩ (by simp only[rowA,cells_of (T.gsE (some (Blk.cells [.int .i64 a,.int .i64 b])) H N)];rfl) Nat.zero_lt_one (by omega) rfl (by omega);refine⟨w,H',appendB q1,⟨_,q5,fun v hv=>?_⟩,q2,fun c hc=>?_,by omega⟩
 ·rcases List.mem_append.1 hv with hv|hv
  ·exact hc v hv
  ·simp only[List.mem_cons,List.not_mem_nil,or_false] at hv;rcases hv with rfl|rfl
   ·exact⟨a,rfl,ha⟩
   ·exact⟨b,rfl,hb⟩
 ·rw[q3 c (by omega) fun e=>by have:=(o.blk e).1;omega,T.gnE _ _ (by omega)];exact hk c hc
theorem units_cl{lim r:Nat}{b:Option Addr}{len c:Nat}{h:T Blk}{n:Nat}(hlim:lim≤900000)(hf:Fresh h n)(hd:Az.D Az.Γ0 lim h r (.sl 0) (.slice b len c)) :
 ∃ v h' n',Cl EV 46 [.agg ⟨[.slice b len c]⟩] h n (.ret v h' n')∧∃ m,m≤lim+1∧UI h n v m h' n':=by
 obtain⟨f,hs,hr,hrow⟩:=hd.rows (cts:=[.str,.int .i64,.sl 1]) rfl;have hs:Az.sumF f (len * 3)+len≤r:=hs;have hlen:len≤lim:=by
  rcases Nat.eq_zero_or_pos len with h0|h0
  ·omega
  ·have:=hr (by omega);omega
 have hsum:Az.sumF f (len * 3)≤lim:=by
  rcases Nat.eq_zero_or_pos len with h0|h0
  ·subst h0;exact Nat.zero_le _
  ·have:=hr (by omega);omega
 refine Cl.wl (many:=33) rfl rfl fn46 rfl rfl rfl rfl ?_;refine WL.seq (WL.reg ?_);refine OL.bx ?_;refine OL.asg ?_;refine OL.nil (WL.seq (WL.reg ?_));refine OL.asg ?_;refine OL.nil (WL.seq (WL.seq (WL.reg ?_)));refine OL.fd fo24_0 ?_;refine OL.l1 ty22 ?_;refine OL.bi (lenA_slice ty22) ?_;refine OL.mv ?_;refine OL.nil (WL.block ?_);have hno:∀ H,Fresh H (n+1)→Keep n h H→UI h n (.slice none 0 0) 0 H (n+1):=fun H h1 h2=>⟨⟨[],.inl ⟨rfl,rfl,rfl⟩,fun v hv=>by cases hv⟩,h1,h2,by omega⟩
 refine WL.loop (k:=len) (fun m L H N=>∃ (i l:Nat) (s:Value),i≤len∧m=len-i∧Sub [(10,.int .i64 (i:Int)),(9,.int .i64 (len:Int)),(8,.slice b len c),(3,s)] L∧UI h n s l H N∧l≤Az.sumF f (i * 3)) ?_
  ⟨0,0,.slice none 0 0,Nat.zero_le _,rfl,(by repeat (first|exact Sub.nil|refine Sub.cons rfl ?_)),hno _ (hf.upd _) ((Keep.refl n h).upd (nlR _) _),Nat.zero_le _⟩
 rintro m L H N ⟨i,l,s,hi,rfl,hsub,u,hl⟩;refine WL.keep hsub ?_;refine WL.seq (WL.reg ?_);by_cases c1:(i:Int)<(len:Int)
 ·have hi':i<len:=by omega
  refine OL.bT ?_;refine OL.nil (WL.seq (WL.condT rfl (WL.skip ?_)));rcases hrow with h0|⟨d,o,cs,rfl,hd1,hd2,hd3⟩
  ·omega
  have hd2:o+len * 3≤cs.length:=hd2;have get:∀ k,k<3→∃ x,cs[o+i * 3+k]? =some x:=fun k hk=>⟨_,ggE (by omega)⟩
  obtain⟨x0,k0⟩:=get 0 (by omega);obtain⟨x1,k1⟩:=get 1 (by omega);obtain⟨x2,k2⟩:=get 2 (by omega);obtain⟨z,rfl,_⟩:=D_str (hd3 i 0 x0 _ hi' (by decide) k0 rfl);obtain⟨y,rfl,_⟩:=D_int (hd3 i 1 x1 _ hi' (by decide) k1 rfl);have dcl:=hd3 i 2 x2 _ hi' (by decide) k2 rfl;obtain⟨e,lc,cc,rfl⟩:=D_slice dcl;obtain⟨f2,s2,_,_⟩:=dcl.rows (cts:=[.int .i64,.int .i64,.sl 2,.sl 2,.sl 2]) rfl;have hlc:lc≤f (i * 3+2):=by have:Az.sumF f2 (lc * 5)+lc≤f (i * 3+2):=s2;omega
  have hH:cellsOf H d=some cs:=cells_ro (by rw[u.2.2.1 d (hf.lt hd1)];exact hd1);have hseg:seg cs (o+i * 3) 3=some [.string z,.int .i64 y,.slice e lc cc]:=seg3 k0 k1 k2;refine WL.seq (WL.block (WL.seq (WL.reg ?_)));refine OL.mv ?_;refine OL.ix (idx_slice ty22 ty70 hi') ?_;refine OL.ld (loadN ty70 rfl hH hseg) ?_;refine OL.al ty70 ?_;refine OL.asg ?_;refine OL.sn ty70 (T.gsE _ _ _) ?_;refine OL.nil (WL.seq (WL.reg ?_));refine OL.fd fo70_2 ?_;refine OL.l1 ty68 ?_;refine OL.bi (lenA_slice ty68) ?_;refine OL.mv ?_;refine OL.nil (WL.block ?_);have u1:UI h n s l ((H.upd (some (.cells tProc.zero)) N).upd (some (.cells [.string z,.int .i64 y,.slice e lc cc])) N) (N+1):=by obtain⟨⟨cs',q1,q2⟩,q3,q4,q5⟩:=u;exact⟨⟨cs',q1.keep fun b hb=>by have:=q3.lt (q1.blk hb).2;rw[T.gnE _ _ (by omega),T.gnE _ _ (by omega)],q2⟩,(q3.upd _).set (by omega) _,(q4.upd q5 _).upd q5 _,by omega⟩
  have hsn:=sum3 f i;have hsm:=sumF_mono f (show(i+1) * 3≤len * 3 by omega);refine WL.loop (k:=lc) (fun m' L' H' N'=>∃ (j:Nat) (s':Value),j≤lc∧m'=lc-j∧Sub [(18,.int .i64 (j:Int)),(17,.int .i64 (lc:Int)),(4,.int .i64 (i:Int)),(10,.int .i64 (i:Int)),(9,.int .i64 (len:Int)),(8,.slice (some ⟨d,o,none⟩) len c),(3,s')] L'∧UI h n s' (l+j) H' N') ?_
   ⟨0,s,Nat.zero_le _,rfl,(by repeat (first|exact Sub.nil|refine Sub.cons rfl ?_)),u1⟩
  rintro m' L' H' N' ⟨j,s',hj,rfl,hsub',u'⟩;refine WL.keep hsub' ?_;refine WL.seq (WL.reg ?_);by_cases c2:(j:Int)<(lc:Int)
  ·refine OL.bT ?_;refine OL.nil (WL.seq (WL.condT rfl (WL.skip ?_)));refine WL.seq (WL.block (WL.seq (WL.reg ?_)));refine OL.mv ?_;refine OL.asg ?_;refine OL.nil (WL.reg ?_);refine OL.mv ?_;refine OL.mv ?_;refine OL.mv ?_;refine OL.bd (unit_v _ _) ?_;refine OL.bs (build_unit _ _) ?_;obtain⟨w,H2,g1,g2⟩:=u'.add (a:=(i:Int)) (b:=(j:Int)) ⟨by omega,by omega⟩ ⟨by omega,by omega⟩ (by omega);refine OL.bi g1 ?_;refine OL.asg ?_;refine OL.nil (WL.reg ?_);refine OL.ad1 ?_;refine OL.mv ?_;exact OL.nil ⟨lc-(j+1),by omega,j+1,w,by omega,rfl,(by repeat (first|exact Sub.nil|refine Sub.cons rfl ?_)),g2⟩
  ·have:j=lc:=by omega
   subst this;refine OL.bF ?_;refine OL.nil (WL.seq (WL.condF rfl (WL.exit ?_)));refine WL.reg ?_;refine OL.ad1 ?_;refine OL.mv ?_;exact OL.nil ⟨len-(i+1),by omega,i+1,l+j,s',by omega,rfl,(by repeat (first|exact Sub.nil|refine Sub.cons rfl ?_)),u',by omega⟩
 ·have hi':i=len:=by omega
  subst hi';refine OL.bF ?_;refine OL.nil (WL.seq (WL.condF rfl (WL.exit ?_)));refine WL.seq (WL.reg ?_);refine OL.mv ?_;refine OL.bd unit_q ?_;refine OL.bs (build_unit _ _) ?_;obtain⟨w,H2,g1,g2⟩:=u.add (a:= -1) (b:=0) ⟨by omega,by omega⟩ ⟨by omega,by omega⟩ (by omega);refine OL.bi g1 ?_;refine OL.asg ?_;exact OL.nil (WL.ret ⟨fun id e=>(by cases e),[_],⟨rfl,rfl⟩,l+1,by omega,g2⟩)
theorem rows_int2{N:Nat}{cs:List Value}{h:T Blk}(ha:AllI cs):Az.Rows Az.C0 N h .top [.int .i64,.int .i64] cs:=by
 intro i x ct hx hct;have hmem:x∈cs:=List.mem_of_getElem? (by rw[←nth_eq];exact hx);obtain⟨y,rfl,h1,h2⟩:=ha x hmem;have:i % 2=0∨i % 2=1:=by omega
 have hct:nth [Az.CT.int .i64,.int .i64] (i % 2)=some ct:=hct;rcases this with e|e<;>(rw[e] at hct;cases hct;exact Az.D.int h1 h2)
end Go.Sx
namespace Go.Sx.Az
def s46:Spec:=⟨46,[.agg [.sl 0]],.fresh 13 5000⟩
theorem t46:Shown [s46]:=fun sp hm=>by
 simp only[List.mem_cons,List.not_mem_nil,or_false] at hm;subst hm;refine⟨rfl,fun N h n vs hf hg ha=>?_⟩;cases ha with
 | cons ha hl =>
   cases hl;cases ha with
   | agg ha =>
     cases ha with
     | cons ha hl =>
       cases hl;cases ha with
       | @sl q r v hr hd =>
         obtain⟨b,len,c,rfl⟩:=D_slice hd;obtain⟨v,h',n',q1,m,hm,⟨cs,o,hc⟩,q3,q4,q5⟩:=units_cl (by show(4400:Nat)≤_;omega) hf hd;refine⟨v,h',n',q1,q4,q5,q3,?_⟩;have hm:m≤4401:=hm;rcases o with⟨rfl,_,_⟩|⟨d,h1,rfl,h3,h4⟩
         ·exact⟨[],.nil (cts:=[.int .i64,.int .i64]) rfl (by decide),List.nodup_nil⟩
         ·exact⟨[d],.fresh (W:=m) (cts:=[.int .i64,.int .i64]) h1 (q3.lt h3) h3 rfl (by decide) h4 (nlR _) (by omega) (.inl rfl) (rows_int2 hc) (by omega),by simp⟩
set_option maxRecDepth 1000000
theorem t39:Shown [s39]:= .one (.cons t73' (.cons t57' t46)) (fuel:=80) rfl (by kernel_rfl)
end Go.Sx.Az
namespace Go.Sx
noncomputable section
structure It where
 blk:Nat
 m:Option Nat
 es:List (Value×Value)
 left:List (Value×Value)
 cur:Option (Value×Value)
structure NS where
 t:T Value
 h:T Blk
 n:Nat
 it:Option It
abbrev NRun:=Code→Nat→NS→Option (List (Ex×NS))
def picks{α:Type}:List α→List (α×List α)
 | []=>[]
 | a :: l=>(a,l) :: (picks l).map fun x=>(x.1,a :: x.2)
def bindO{α β:Type}(f:α→Option (List β)):List α→Option (List β)
 | []=>some []
 | a :: l =>
   match f a with
   | some x=>(match bindO f l with|some y=>some (x ++ y)|none=>none)
   | none=>none
def itAt(s:NS)(v:Option Value):Option It :=
 match v,s.it with
 | some (.pointer (some ⟨b,0,none⟩)),some it=>bif Nat.beq b it.blk then some it else none
 | _,_=>none
def isMapT:TypeDesc→Bool
 | .map _ _=>true
 | _=>false
def entN(E:Env)(NC:Nat→Bool)(s:NS)(o:Oper):Option (FuncId×List Value) :=
 match opA E s.t s.h s.n o with
 | .enter f args=>bif NC f then some (f,args) else none
 | _=>none
abbrev NCall:=FuncId→List Value→T Blk→Nat→Option (List (Value×T Blk×Nat))
def opNn(E:Env)(ih:Run)(NC:Nat→Bool)(call:NCall)(s:NS)(o:Oper):Option (List (Value×NS)) :=
 match o.op with
 | .range ty x =>
   (match E.ty.get ty,evA E s.t x,s.it with
    | some i,some (.map none),none =>
      bif isMapT i.d then some [(ptrTo s.n,{s with n:=s.n+1,it:=some ⟨s.n,none,[],[],none⟩})] else none
    | some i,some (.map (some r)),none =>
      bif isMapT i.d then
       (match s.h.get r with
        | some (.map es)=>some [(ptrTo s.n,{s with h:=s.h.upd none r,n:=s.n+1,it:=some ⟨s.n,some r,es,es,none⟩})]
        | _=>none)
      else none
    | _,_,_=>none)
 | .next x false =>
   (match itAt s (evA E s.t x) with
    | some it =>
      (match it.left with
       | []=>some [(.tuple #[.bool false],{s with h:=(match it.m with|some r=>s.h.upd (some (.map it.es)) r|none=>s.h),it:=none})]
       | e :: l=>bif (e :: l).all (fun p=>lit 6 p.1) then some ((picks (e :: l)).map fun p=>(.tuple #[.bool true,p.1.1,p.1.2],{s with it:=some {it with left:=p.2,cur:=some p.1}})) else none)
    | none=>none)
 | .entry x =>
   (match itAt s (evA E s.t x) with
    | some it=>(match it.cur with|some e=>bif lit 6 e.1 then some [(.tuple #[e.1,e.2],s)] else none|none=>none)
    | none=>none)
 | _ =>
   (match entN E NC s o with
    | some (f,args) =>
      (match s.it with
       | none=>(match call f args s.h s.n with|some l=>some (l.map fun r=>(r.1,{s with h:=r.2.1,n:=r.2.2}))|none=>none)
       | some _=>none)
    | none =>
      (match opC E ih none s.t [] s.h s.n o with
       | .inl (some (v,[],h',n'))=>some [(v,{s with h:=h',n:=n'})]
       | _=>none))
def opsNn(E:Env)(ih:Run)(NC:Nat→Bool)(call:NCall)(many:Nat)(all:List Oper):List Oper→NS→Option (List NS)
 | [],s=>some [s]
 | o :: l,s =>
   match wantedA all s.t o with
   | some true =>
     (match opNn E ih NC call s o with
      | some outs=>bindO (fun r=>match putT many o.dst r.1 s.t with|some t'=>opsNn E ih NC call many all l {r.2 with t:=t'}|none=>none) outs
      | none=>none)
   | some false=>(match putT many o.dst undefV s.t with|some t'=>opsNn E ih NC call many all l {s with t:=t'}|none=>none)
   | none=>none
def callN(E:Env)(jh:NRun):NCall:=fun f args h n =>
 match E.fn.get f with
 | some fn =>
   (match fn.body with
    | some c =>
      bif Nat.ble args.length fn.ntmps then
       (match jh c fn.ntmps ⟨argsT args 0 .leaf,h,n,none⟩ with
        | some outs=>bindO (fun r=>match r.1,r.2.it with
         | .exit _,_=>none
         | _,some _=>none
         | _,none=>(match resA E fn r.2.t r.2.h with|some v=>some [(v,r.2.h,r.2.n)]|none=>none)) outs
        | none=>none)
      else none
    | none=>none)
 | none=>none
def nextN(jh:Code→NS→Option (List (Ex×NS)))(c:Code)(r:Ex×NS):Option (List (Ex×NS)) :=
 match r.1 with
 | .normal=>jh c r.2
 | e=>some [(e,r.2)]
def outOf(id:Nat):Ex→Ex
 | .exit i=>bif Nat.beq i id then .normal else .exit i
 | e=>e
def stepN(E:Env)(ih:Run)(NC:Nat→Bool)(jh:NRun):NRun:=fun c many s =>
 match c with
 | .skip=>some [(.normal,s)]
 | .label _=>some [(.normal,s)]
 | .exit id=>some [(.exit id,s)]
 | .ret=>some [(.ret,s)]
 | .seq a b=>(match jh a many s with|some outs=>bindO (nextN (fun c s=>jh c many s) b) outs|none=>none)
 | .loop b=>(match jh b many s with|some outs=>bindO (nextN (fun c s=>jh c many s) (.loop b)) outs|none=>none)
 | .cond x a b =>
   (match evA E s.t x with
    | some (.bool true)=>jh a many s
    | some (.bool false)=>jh b many s
    | _=>none)
 | .block id b=>(match jh b many s with|some outs=>some (outs.map fun r=>(outOf id r.1,r.2))|none=>none)
 | .region _ ops false=>(match opsNn E ih NC (callN E jh) many ops.toList ops.toList s with|some l=>some (l.map fun s=>(.normal,s))|none=>none)
 | .region _ ops true =>
   (match regD E ih none many ops.toList s.t [] s.h s.n with
    | .ok .normal t [] h n=>some [(.normal,{s with t:=t,h:=h,n:=n})]
    | _=>none)
 | _=>none
def execN(E:Env)(ih:Run)(NC:Nat→Bool):Nat→NRun
 | 0=>fun _ _ _=>none
 | k+1=>stepN E ih NC (execN E ih NC k)
end
theorem bindO_mem{α β:Type}{f:α→Option (List β)}:∀ {l:List α}{out:List β},bindO f l=some out→∀ a∈l,∃ x,f a=some x∧∀ b∈x,b∈out
 | [],_,_,a,h=>by cases h
 | a :: l,out,hx,c,hc=>by
   simp only[bindO] at hx;split at hx
   ·rename_i x hf;split at hx
    ·rename_i y hy;cases hx;rcases List.mem_cons.1 hc with rfl|hc
     ·exact⟨x,hf,fun b hb=>List.mem_append_left _ hb⟩
     ·obtain⟨z,h1,h2⟩:=bindO_mem hy c hc;exact⟨z,h1,fun b hb=>List.mem_append_right _ (h2 b hb)⟩
    ·cases hx
   ·cases hx
theorem picks_mem{α:Type}:∀ {a b:List α}{x:α},(x,a ++ b)∈picks (a ++ x :: b)
 | [],b,x=>mcS ..
 | c :: a,b,x=>by
   show _∈(c,a ++ x :: b) :: (picks (a ++ x :: b)).map fun y=>(y.1,c :: y.2)
   exact mcM _ (List.mem_map.2 ⟨(x,a ++ b),picks_mem,rfl⟩)
def Gh.but(G:Gh)(w:World)(X:Nat→Prop):Gh:={heap:=w.heap,own:=fun r=>(G.own r∨G.heap.size≤r)∧¬ X r,ng:=G.ng,oo:=G.oo}
section
variable {G:Gh}{ρ ρ' ρ0:Ren}{h h' h0 h2:T Blk}{n n' n0:Nat}{w w':World}{X:Nat→Prop}
theorem St.narrow(H:St G ρ h n w)(hX:∀ b L k,ρ b=some L→h.get b=some k→¬ X L.blk):St (G.but w X) ρ h n w :=
 ⟨⟨H.wr.blk,H.wr.apart,fun b L k h1 h2 hr=> .inl ⟨H.wr.own b L k h1 h2 hr,hX b L k h1 h2⟩,fun _ _ _=>rfl,nlR _,H.wr.glob,H.wr.out⟩,H.fr,H.hb⟩
theorem Stp.widen(H:St G ρ h n w)(hX:∀ b L k,ρ b=some L→h.get b=some k→¬ X L.blk)(hXs:∀ r,X r→r<w.heap.size)(s:Stp (G.but w X) ρ h n ρ' h' n' w') :
 Stp G ρ h n ρ' h' n' w'∧(∀ r,X r→w'.heap[r]? =w.heap[r]?)∧(∀ b L k,ρ' b=some L→h'.get b=some k→¬ X L.blk):=by
 have up:∀ r,((G.but w X).own r∨(G.but w X).heap.size≤r)→G.own r∨G.heap.size≤r:=by
  intro r hr;rcases hr with h1|h1
  ·exact h1.1
  ·exact .inr (Nat.le_trans H.wr.size h1)
 have noX:∀ r,((G.but w X).own r∨(G.but w X).heap.size≤r)→¬ X r:=by
  intro r hr hx;rcases hr with h1|h1
  ·exact h1.2 hx
  ·have h2:w.heap.size≤r:=h1;have:=hXs r hx;omega
 refine⟨⟨⟨⟨s.st.wr.blk,s.st.wr.apart,fun b L k h1 h2 hr=>up _ (s.st.wr.own b L k h1 h2 hr),fun r hr ho=>?_,Nat.le_trans H.wr.size s.st.wr.size,s.st.wr.glob,s.st.wr.out⟩,s.st.fr,s.st.hb⟩,
  s.ext,s.new,fun b L h1 h2=>up _ (s.newOwn b L h1 h2),s.dead,s.tot,s.afr,s.le⟩,fun r hr=>s.st.wr.frame r (hXs r hr) (fun h=>h.2 hr),fun b L k h1 h2=>?_⟩
 ·rw[s.st.wr.frame r (Nat.lt_of_lt_of_le hr H.wr.size) (fun h=>h.1.elim ho (fun h=>by omega))];exact H.wr.frame r hr ho
 ·cases hb:ρ b with
  | none=>exact noX _ (s.newOwn b L hb h1)
  | some L0 =>
    have:=s.ext b L0 hb;rw[h1] at this;cases this;have hbn:b<n:=by
     rcases Nat.lt_or_ge b n with h3|h3
     ·exact h3
     ·rw[H.fr b h3] at hb;cases hb
    cases hk:h.get b with
    | none=>rw[s.dead b hbn hk] at h2;cases h2
    | some k0=>exact hX b L k0 hb hk
theorem St.sub(H:St G ρ h n w)(hs:∀ b k,h2.get b=some k→h.get b=some k):St G ρ h2 n w :=
 ⟨⟨fun b L k h1 h2=>H.wr.blk b L k h1 (hs b k h2),fun b b' L L' k k' hne h1 h1' h2 h2'=>H.wr.apart b b' L L' k k' hne h1 h1' (hs b k h2) (hs b' k' h2'),
   fun b L k h1 h2=>H.wr.own b L k h1 (hs b k h2),H.wr.frame,H.wr.size,H.wr.glob,H.wr.out⟩,H.fr,fun b hb=>by
    cases hk:h2.get b with
    | none=>rfl
    | some k=>rw[←hs b k hk,H.hb b hb]⟩
theorem Stp.congr(s:Stp G ρ h n ρ' h' n' w')(hs:∀ b,h2.get b=h'.get b):Stp G ρ h n ρ' h2 n' w' :=
 ⟨s.st.sub fun b k hk=>by rw[←hs];exact hk,s.ext,s.new,s.newOwn,fun b hb hn=>by rw[hs];exact s.dead b hb hn,fun b k hb hk=>s.tot b k hb (by rw[←hs];exact hk),fun b hb hn=>by rw[hs];exact s.afr b hb hn,s.le⟩
theorem St.back(H:St G ρ h n w){m:Nat}{L:Pl}{bl:Blk}(hm:ρ m=some L)(hbl:BRel ρ L bl w.heap[L.blk]?)(hap:∀ b M k,ρ b=some M→h.get b=some k→M.blk≠L.blk)(hown:G.own L.blk∨G.heap.size≤L.blk) :
 St G ρ (h.upd (some bl) m) n w:=by
 refine⟨⟨fun b M k h1 h2=>?_,fun b b' M M' k k' hne h1 h1' h2 h2' hr=>?_,fun b M k h1 h2 hr=>?_,H.wr.frame,H.wr.size,H.wr.glob,H.wr.out⟩,H.fr,fun b hb=>?_⟩
 ·rw[T.get_upd] at h2;split at h2
  ·rename_i e;subst e;rw[hm] at h1;cases h1;cases h2;exact hbl
  ·exact H.wr.blk b M k h1 h2
 ·rw[T.get_upd] at h2 h2';split at h2
  ·rename_i e;subst e;rw[hm] at h1;cases h1;rw[if_neg (Ne.symm hne)] at h2';exact(hap b' M' k' h1' h2').symm
  ·split at h2'
   ·rename_i e;subst e;rw[hm] at h1';cases h1';exact hap b M k h1 h2
   ·exact H.wr.apart b b' M M' k k' hne h1 h1' h2 h2' hr
 ·rw[T.get_upd] at h2;split at h2
  ·rename_i e;subst e;rw[hm] at h1;cases h1;exact hown
  ·exact H.wr.own b M k h1 h2 hr
 ·rw[T.gnE]
  ·exact H.hb b hb
  ·intro e;rw[←e,H.fr b hb] at hm;cases hm
theorem Stp.over{m:Nat}{bl:Blk}{L:Pl}(a:Stp G ρ0 h0 n0 ρ (h.upd (some bl) m) n w)(hρ:ρ m=some L)(b:Stp G ρ h n ρ' h' n' w')(hst:St G ρ' (h'.upd (some bl) m) n' w'):Stp G ρ0 h0 n0 ρ' (h'.upd (some bl) m) n' w':=by
 refine⟨hst,a.ext.trans b.ext,fun c hc hn=>b.new c (Nat.lt_of_lt_of_le hc a.le) (a.new c hc hn),fun c M h1 h2=>?_,fun c hc hn=>?_,fun c k hc hk=>?_,fun c hc hn=>?_,Nat.le_trans a.le b.le⟩
 ·cases hc:ρ c with
  | none=>exact b.newOwn c M hc h2
  | some N =>
    have:=b.ext c N hc;rw[h2] at this;cases this;exact a.newOwn c M h1 hc
 ·have h1:=a.dead c hc hn;rw[T.get_upd] at h1 ⊢;split at h1
  ·cases h1
  ·rename_i hne;rw[if_neg hne];exact b.dead c (Nat.lt_of_lt_of_le hc a.le) h1
 ·rw[T.get_upd] at hk;split at hk
  ·rename_i e;subst e;exact⟨L,b.ext _ _ hρ⟩
  ·rename_i hne;by_cases hcn:n≤c
   ·exact b.tot c k hcn hk
   ·cases hh:h.get c with
    | none=>rw[b.dead c (by omega) hh] at hk;cases hk
    | some k1 =>
      obtain⟨M,hM⟩:=a.tot c k1 hc (by rw[T.gnE _ _ hne];exact hh);exact⟨M,b.ext c M hM⟩
 ·have hne:c≠m:=fun e=>by rw[e] at hn hc;rw[a.new m hc hn] at hρ;cases hρ
  have h1:=a.afr c hc hn;rw[T.gnE _ _ hne] at h1 ⊢;rw[b.afr c (Nat.lt_of_lt_of_le hc a.le) (a.new c hc hn)];exact h1
theorem St.lay(H:St G ρ h n w){o:Obj}{L:Pl}(hL:L.blk=w.heap.size)(hw:HPush w o w'):Stp G ρ h n (ρ.add n L) h (n+1) w':=by
 have hx:Ext ρ (ρ.add n L):=Ext.add L (H.fr n (nlR n));have key:∀ b M k,(ρ.add n L) b=some M→h.get b=some k→ρ b=some M∧b≠n:=by
  intro b M k h1 h2;by_cases hb:b=n
  ·subst hb;rw[H.hb b (nlR b)] at h2;cases h2
  ·rw[Ren.add_ne _ _ hb] at h1;exact⟨h1,hb⟩
 refine⟨⟨⟨fun b M k h1 h2=>?_,fun b b' M M' k k' hne h1 h1' h2 h2' hr=>H.wr.apart b b' M M' k k' hne (key b M k h1 h2).1 (key b' M' k' h1' h2').1 h2 h2' hr,fun b M k h1 h2 hr=>H.wr.own b M k (key b M k h1 h2).1 h2 hr,fun r hr ho=>?_,?_,fun g hg=>?_,hw.out.trans H.wr.out⟩,
  fun b hb=>?_,fun b hb=>H.hb b (by omega)⟩,hx,fun b hb hn=>?_,fun b M h1 h2=>?_,fun _ _ h=>h,fun b k hb hk=>?_,fun _ _ _=>rfl,Nat.le_succ n⟩
 ·have h3:=(key b M k h1 h2).1;rw[hw.rest _ (Nat.ne_of_lt (H.wr.lt h3 h2))];exact(H.wr.blk b M k h3 h2).mono hx
 ·rw[hw.rest r (Nat.ne_of_lt (Nat.lt_of_lt_of_le hr H.wr.size))];exact H.wr.frame r hr ho
 ·rw[hw.size];exact Nat.le_succ_of_le H.wr.size
 ·obtain⟨s,hs⟩:=H.wr.glob g hg;exact⟨s,hx _ _ hs⟩
 ·rw[Ren.add_ne _ _ (by omega)];exact H.fr b (by omega)
 ·rw[Ren.add_ne _ _ (by omega)];exact hn
 ·by_cases hbn:b=n
  ·subst hbn;rw[Ren.add_same] at h2;cases h2;rw[hL];exact .inr H.wr.size
  ·rw[Ren.add_ne _ _ hbn,h1] at h2;cases h2
 ·rw[H.hb b hb] at hk;cases hk
theorem Stp.far(s:Stp G ρ0 h0 n0 ρ h n w){I:Nat}{o:Obj}(hI:G.heap.size≤I)(hno:∀ b L k,ρ b=some L→h.get b=some k→L.blk≠I)(hw:HSet w I o w'):Stp G ρ0 h0 n0 ρ h n w' :=
 ⟨⟨⟨fun b L k h1 h2=>by rw[hw.rest _ (hno b L k h1 h2)];exact s.st.wr.blk b L k h1 h2,s.st.wr.apart,s.st.wr.own,fun r hr ho=>by rw[hw.rest r (by omega)];exact s.st.wr.frame r hr ho,by rw[hw.size];exact s.st.wr.size,s.st.wr.glob,hw.out.trans s.st.wr.out⟩,s.st.fr,s.st.hb⟩,
   s.ext,s.new,s.newOwn,s.dead,s.tot,s.afr,s.le⟩
end
def LeftR(ρ:Ren)(l:List (Value×Value))(es:List MapEntry):Prop:=∃ l':List (Value×Value),l'.Perm l∧l'.map (·.1)=es.map (·.key)∧LRel ρ (l'.map (·.2)) (es.map (·.val))
theorem LeftR.mono{ρ ρ':Ren}(e:Ext ρ ρ'){l:List (Value×Value)}{es:List MapEntry}(h:LeftR ρ l es):LeftR ρ' l es:=by obtain⟨l',h1,h2,h3⟩:=h;exact⟨l',h1,h2,h3.mono e⟩
theorem LeftR.length{ρ:Ren}{l:List (Value×Value)}{es:List MapEntry}(h:LeftR ρ l es):l.length=es.length:=by obtain⟨l',h1,h2,_⟩:=h;have:=congrArg List.length h2;simp only[List.length_map] at this;rw[←h1.length_eq,this]
theorem LeftR.pick{ρ:Ren}{l:List (Value×Value)}{c d:List MapEntry}{e:MapEntry}(h:LeftR ρ l (c ++ e :: d)) :
 ∃ x r,(x,r)∈picks l∧x.1=e.key∧VRel ρ x.2 e.val∧LeftR ρ r (c ++ d):=by
 obtain⟨l',h1,h2,h3⟩:=h;have hlen:=congrArg List.length h2;simp only[List.length_map,List.length_append,List.length_cons] at hlen;obtain⟨a,x,b,rfl,hal⟩:∃ a x b,l'=a ++ x :: b∧a.length=c.length:=by
  have hlt:c.length<l'.length:=by omega
  refine⟨l'.take c.length,l'[c.length],l'.drop (c.length+1),?_,by simp;omega⟩;rw[←List.drop_eq_getElem_cons hlt,List.take_append_drop]
 simp only[List.map_append,List.map_cons] at h2 h3;obtain⟨k1,k2⟩:=List.append_inj h2 (by simp[hal]);obtain⟨k3,k4⟩:=List.cons.inj k2;have hx:VRel ρ x.2 e.val:=by
  refine h3.2 c.length x.2 e.val ?_ ?_
  ·rw[List.getElem?_append_right (by simp[hal])];simp[hal]
  ·rw[List.getElem?_append_right (by simp)];simp
 have hrest:LRel ρ (a.map (·.2) ++ b.map (·.2)) (c.map (·.val) ++ d.map (·.val)):=by
  have hl1:=h3.1;simp only[List.length_append,List.length_map,List.length_cons] at hl1;refine .append (.of (by simp[hal]) fun i v hi=>?_) (.of (by simp;omega) fun i v hi=>?_)
  ·have hlt:=(gsI hi).1;obtain⟨y,y1,y2⟩:=h3.get (i:=i) (x:=v) (by rw[List.getElem?_append_left hlt];exact hi);refine⟨y,?_,y2⟩;rw[List.getElem?_append_left (by simp at hlt ⊢;omega)] at y1;exact y1
  ·obtain⟨y,y1,y2⟩:=h3.get (i:=c.length+1+i) (x:=v) (by
    rw[List.getElem?_append_right (by simp;omega)];rw[show c.length+1+i-(a.map (·.2)).length=i+1 by simp;omega];exact hi)
   refine⟨y,?_,y2⟩;rw[List.getElem?_append_right (by simp;omega)] at y1;rw[show c.length+1+i-(c.map (·.val)).length=i+1 by simp;omega] at y1;exact y1
 obtain⟨p,q,rfl⟩:=List.append_of_mem (h1.mem_iff.1 (List.mem_append_right a (mcS ..)):x∈l);refine⟨x,p ++ q,picks_mem,k3,hx,a ++ b,?_,?_,?_⟩
 ·have h4:=(List.perm_middle (a:=x) (l₁ :=a) (l₂ :=b)).symm.trans (h1.trans (List.perm_middle (a:=x) (l₁ :=p) (l₂ :=q)));exact List.Perm.cons_inv h4
 ·simp only[List.map_append,k1,k4]
 ·simpa only[List.map_append] using hrest
theorem left_push{es:List MapEntry}{seen:Array Nat}{c d:List MapEntry}{e:MapEntry}(hn:(es.map (·.born)).Nodup)(h:(es.filter fun e=> !seen.contains e.born)=c ++ e :: d) :
 (es.filter fun x=> !(seen.push e.born).contains x.born)=c ++ d:=by
 have hf:(es.filter fun x=> !(seen.push e.born).contains x.born)=(es.filter fun e=> !seen.contains e.born).filter fun x=>x.born != e.born:=by
  rw[List.filter_filter];refine List.filter_congr fun x _=>?_
  rw[contains_push];cases seen.contains x.born<;>cases hx:(x.born == e.born)<;>simp[hx,bne]
 have hnd:((c ++ e :: d).map (·.born)).Nodup:=by rw[←h];exact(List.filter_sublist.map _).nodup hn
 rw[hf,h];simp only[List.map_append,List.map_cons] at hnd;obtain⟨n1,n2,n3⟩:=List.nodup_append.1 hnd;obtain⟨n4,n5⟩:=List.nodup_cons.1 n2;rw[List.filter_append,List.filter_cons];simp only[bne_self_eq_false,Bool.false_eq_true,if_false];rw[List.filter_eq_self.2,List.filter_eq_self.2]
 ·intro x hx;simp only[bne_iff_ne,ne_eq];intro he;exact n4 (List.mem_map.2 ⟨x,hx,he⟩)
 ·intro x hx;simp only[bne_iff_ne,ne_eq];intro he;exact n3 _ (List.mem_map.2 ⟨x,hx,rfl⟩) _ (mcS ..) he
structure ItR(G:Gh)(ρ:Ren)(it:It)(h:T Blk)(w:World)(I:Nat)(M:Option Nat):Prop where
 pt:∃ sz,ρ it.blk=some ⟨I,0,sz⟩
 new:G.heap.size≤I
 no:∀ b L k,ρ b=some L→h.get b=some k→L.blk≠I∧some L.blk≠M
 at_:∃ since seen stepped,w.heap[I]? =some (.mapIter M since seen stepped)∧(it.m=none→M=none∧it.left=[]∧it.cur=none) ∧
  ∀ r,it.m=some r→∃ L ents clock,ρ r=some L∧M=some L.blk∧(G.own L.blk∨G.heap.size≤L.blk)∧h.get r=none∧w.heap[L.blk]? =some (.map ents clock)∧MapRel ρ it.es ents.toList∧MapKept.Stamped ents clock ∧
    (∀ x∈ents.toList,x.born<since)∧since≤stepped∧since≤clock∧LeftR ρ it.left (leftOf ents seen).toList ∧
    ∀ e,it.cur=some e→stepped=clock∧∃ (seen0:Array Nat) (x:MapEntry),seen=seen0.push x.born∧x∈ents.toList∧x.key=e.1∧VRel ρ e.2 x.val
noncomputable def fullH(s:NS):T Blk :=
 match s.it with
 | some it=>(match it.m with|some r=>s.h.upd (some (.map it.es)) r|none=>s.h)
 | none=>s.h
def RN(G:Gh)(ρ0:Ren)(h0:T Blk)(n0 many:Nat)(s:NS)(a:Act)(w:World):Prop :=
 ∃ ρ,AOk ρ s.t many [] a∧Stp G ρ0 h0 n0 ρ (fullH s) s.n w∧∀ it,s.it=some it→∃ I M,ItR G ρ it s.h w I M
section
variable {G:Gh}{ρ ρ' ρ0:Ren}{h h' h0 h2:T Blk}{n n' n0 many:Nat}{w w':World}{s:NS}{a:Act}
theorem RN.run(H:RN G ρ0 h0 n0 many s a w):∃ G' ρ,G'.ng=G.ng∧St G' ρ s.h s.n w∧AOk ρ s.t many [] a ∧
 ∀ ρ' h' n' w',Stp G' ρ s.h s.n ρ' h' n' w'→∀ t' a',AOk ρ' t' many [] a'→RN G ρ0 h0 n0 many ⟨t',h',n',s.it⟩ a' w':=by
 obtain⟨ρ,ha,hs,hi⟩:=H;obtain⟨t,h,n,it⟩:=s;cases it with
 | none=>exact⟨G,ρ,rfl,hs.st,ha,fun ρ' h' n' w' s' t' a' ha'=>⟨ρ',ha',hs.trans s',fun it e=>by cases e⟩⟩
 | some it =>
   obtain⟨I,M,⟨sz,hpt⟩,hnew,hno,since,seen,stepped,hI,hm0,hm1⟩:=hi it rfl;have hXs:∀ r,(r=I∨some r=M)→r<w.heap.size:=by
    rintro r (rfl|hr)
    ·exact(Array.getElem?_eq_some_iff.1 hI).1
    ·cases hm:it.m with
     | none=>rw[(hm0 hm).1] at hr;cases hr
     | some m =>
       obtain⟨L,ents,clock,q1,q2,q3,q4,q5,_⟩:=hm1 m hm;rw[q2] at hr;cases hr;exact(Array.getElem?_eq_some_iff.1 q5).1
   have hX:∀ b L k,ρ b=some L→h.get b=some k→¬ (L.blk=I∨some L.blk=M):=fun b L k h1 h2 hx=>hx.elim (hno b L k h1 h2).1 (hno b L k h1 h2).2
   have hS:St G ρ h n w:=by
    refine hs.st.sub fun b k hk=>?_
    show(fullH ⟨t,h,n,some it⟩).get b=some k;unfold fullH;simp only;cases hm:it.m with
    | none=>exact hk
    | some m =>
      obtain⟨L,ents,clock,q1,q2,q3,q4,_⟩:=hm1 m hm;simp only;rw[T.gnE]
      ·exact hk
      ·intro e;rw[e,q4] at hk;cases hk
   refine⟨G.but w fun r=>r=I∨some r=M,ρ,rfl,hS.narrow hX,ha,fun ρ' h' n' w' s' t' a' ha'=>?_⟩;obtain⟨s1,s2,s3⟩:=Stp.widen hS hX hXs s';have hI':w'.heap[I]? =some (.mapIter M since seen stepped):=(s2 I (.inl rfl)).trans hI;have hno':∀ b L k,ρ' b=some L→h'.get b=some k→L.blk≠I∧some L.blk≠M:=fun b L k h1 h2=>⟨fun e=>s3 b L k h1 h2 (.inl e),fun e=>s3 b L k h1 h2 (.inr e)⟩
   refine⟨ρ',ha',?_,fun it' e=>?_⟩
   ·unfold fullH at hs ⊢;simp only at hs ⊢;cases hm:it.m with
    | none =>
      rw[hm] at hs;exact hs.trans s1
    | some m =>
      rw[hm] at hs;simp only at hs ⊢;obtain⟨L,ents,clock,q1,q2,q3,q4,q5,q6,q7,_⟩:=hm1 m hm;have hL':=s1.ext _ _ q1;refine Stp.over hs q1 s1 (s1.st.back hL' ⟨ents,clock,(s2 L.blk (.inr q2.symm)).trans q5,?_,q7⟩ (fun b N k h1 h2 e=>(hno' b N k h1 h2).2 (by rw[e,q2])) q3);obtain⟨r1,es',r2,r3,r4⟩:=q6;exact⟨r1,es',r2,r3,r4.mono s1.ext⟩
   ·cases e;refine⟨I,M,⟨sz,s1.ext _ _ hpt⟩,hnew,hno',since,seen,stepped,hI',hm0,fun m hm=>?_⟩;obtain⟨L,ents,clock,q1,q2,q3,q4,q5,q6,q7,q8,q9,q10,q11,q12⟩:=hm1 m hm;obtain⟨r1,es',r2,r3,r4⟩:=q6;have hmn:m<n:=by
     rcases Nat.lt_or_ge m n with h3|h3
     ·exact h3
     ·rw[hS.fr m h3] at q1;cases q1
    refine⟨L,ents,clock,s1.ext _ _ q1,q2,q3,s1.dead m hmn q4,(s2 L.blk (.inr q2.symm)).trans q5,⟨r1,es',r2,r3,r4.mono s1.ext⟩,q7,q8,q9,q10,q11.mono s1.ext,fun e he=>?_⟩;obtain⟨k1,seen0,x,k2,k3,k4,k5⟩:=q12 e he;exact⟨k1,seen0,x,k2,k3,k4,k5.mono s1.ext⟩
end
def OpR(G:Gh)(ρ0:Ren)(h0:T Blk)(n0 many:Nat)(s:NS)(dst:Option Tmp)(a:Act)(r:Value×NS)(y:Value)(w':World):Prop :=
 ∀ t',putT many dst r.1 s.t=some t'→RN G ρ0 h0 n0 many {r.2 with t:=t'} (a.put dst y) w'
def NCallOk(E:Env)(P:Program)(call:NCall):Prop :=
 ∀ f args h n l,call f args h n=some l→∀ (G:Gh) (ρ:Ren) (ys:Array Value) (w:World),E.glob≤G.ng→St G ρ h n w→LRel ρ args ys.toList →
   CallsIn Fence.wide 0 P f ys w fun e w'=>∃ r∈l,RetOk G ρ h n r.1 r.2.1 r.2.2 e w'
def PostN(G:Gh)(ρ0:Ren)(h0:T Blk)(n0 many:Nat)(outs:List (Ex×NS)):Exit→Act→World→Prop :=
 fun e' a' w'=>∃ r∈outs,ExR r.1 e'∧RN G ρ0 h0 n0 many r.2 a' w'
def NRunOk(E:Env)(P:Program)(jh:NRun):Prop :=
 ∀ c many s outs,jh c many s=some outs→∀ (G:Gh) (ρ0:Ren) (h0:T Blk) (n0:Nat) (a:Act) (w:World),E.glob≤G.ng→RN G ρ0 h0 n0 many s a w →
   c.wpIn (Fr none) 0 P (PostN G ρ0 h0 n0 many outs) a w
section
variable {E:Env}{P:Program}{ih:Run}{NC:Nat→Bool}{call:NCall}{G:Gh}{ρ0:Ren}{h0:T Blk}{n0 many:Nat}{s:NS}{a:Act}{w:World}
theorem fullH_none(hn:s.it=none):fullH s=s.h:=by unfold fullH;rw[hn]
theorem leftOf_nil(es:Array MapEntry):leftOf es #[]=es:=by unfold leftOf;rw[Array.filter_eq_self];intro e _;simp
theorem run_next_nil{r:Nat}{since stepped:Nat}{seen:Array Nat}{ty:TypeId}(hr:w.heap[r]? =some (.mapIter none since seen stepped)):(Instr.next (.pointer (some ⟨r,0,none⟩)) false ty).run P w= .ok (.tuple #[.bool false]) w:=by unfold Instr.next;simp only[Sem.run_bind,run_getObj (P:=P) hr (by simp),Result.andThen_ok];rfl
theorem itAt_some{v:Option Value}{it:It}(h:itAt s v=some it):s.it=some it∧v=some (.pointer (some ⟨it.blk,0,none⟩)):=by
 unfold itAt at h;split at h
 ·rename_i b it' e;rw[biE] at h;split at h
  ·rename_i hb;cases h;rw[beqT] at hb;subst hb;exact⟨e,rfl⟩
  ·cases h
 ·cases h
theorem rangeN_sim(K:EOk E P)(hg:E.glob≤G.ng)(H:RN G ρ0 h0 n0 many s a w)(hs:s.it=none){o:Oper}{ty:TypeId}{x:Operand}(ho:o.op= .range ty x){i:TyI}(hi:E.ty.get ty=some i)(hd:isMapT i.d=true)
 {m:Option Nat} (hx:evA E s.t x=some (.map m)) {h':T Blk} {it:It} (hit:it.blk=s.n∧it.cur=none∧it.left=it.es) (hm:(m=none∧it.m=none∧it.left=[]∧h'=s.h)∨∃ r es,m=some r∧it.m=some r∧s.h.get r=some (.map es)∧it.es=es∧h'=s.h.upd none r)
 {next:Act→World→Prop} {Q:Exit→Act→World→Prop} (hn:∀ y w',OpR G ρ0 h0 n0 many s o.dst a (ptrTo s.n,{s with h:=h',n:=s.n+1,it:=some it}) y w'→next (a.put o.dst y) w'):o.wpIn (Fr none) 0 P a w next Q:=by
 refine⟨fun f _=>fr_fn none f,?_⟩;rw[show o.semAt (Fr none).round a.eval=execOp a.eval o from rfl];obtain⟨ρ,ha,hst,_⟩:=H;rw[fullH_none hs] at hst;have hv:=ev_sim hst.st.wr hg ha.tr hx;obtain⟨ti,t1,t2,_⟩:=K.ty ty i hi;obtain⟨kt,et,hd⟩:∃ k e,i.d= .map k e:=by
  unfold isMapT at hd;split at hd
  ·exact⟨_,_,by assumption⟩
  ·cases hd
 rw[hd] at t2;cases o with
 | mk dst op ty0 pos after guard =>
 simp only at ho;subst ho;unfold execOp;dsimp only;generalize a.eval x=q at hv;cases hv with
 | map0 =>
   have hrun:=run_range_nilMap w ty kt et t2;simp only[Sem.run_bind,hrun,Result.andThen_ok];rcases hm with⟨_,m2,m3,rfl⟩|⟨r,es,m1,_⟩
   ·refine hn _ _ fun t' hp=>?_
    have hL:=hst.st.lay (o:= .mapIter none 0 #[] 0) (L:=⟨w.heap.size,0,0⟩) rfl (HPush.mk' w _);refine⟨ρ.add s.n ⟨w.heap.size,0,0⟩,(ha.mono hL.ext).put (.ptr (Ren.add_same ρ s.n _)) hp,?_,fun it' e=>?_⟩
    ·unfold fullH;simp only[m2];exact hst.trans hL
    ·cases e;refine⟨w.heap.size,none,⟨0,by rw[hit.1];exact Ren.add_same ρ s.n _⟩,hst.st.wr.size,fun b L k h1 h2=>⟨?_,by simp⟩,0,#[],0,(HPush.mk' w _).at_,fun _=>⟨rfl,m3,hit.2.1⟩,fun r e=>by rw[m2] at e;cases e⟩;by_cases hb:b=s.n
     ·subst hb;rw[hst.st.hb _ (nlR _)] at h2;cases h2
     ·rw[Ren.add_ne _ _ hb] at h1;exact Nat.ne_of_lt (hst.st.wr.lt h1 h2)
   ·cases m1
 | map hρ =>
   rename_i r L;rcases hm with⟨m1,_⟩|⟨r',es,m1,m2,m3,m4,rfl⟩
   ·cases m1
   ·cases m1;obtain⟨ents,clock,hh,hmr,hstm⟩:=hst.st.wr.blk r L _ hρ m3;have hrun:=run_range_map w ty kt et L.blk ents clock t2 hh;simp only[Sem.run_bind,hrun,Result.andThen_ok];refine hn _ _ fun t' hp=>?_
    have hL:=hst.st.lay (o:= .mapIter (some L.blk) clock #[] clock) (L:=⟨w.heap.size,0,0⟩) rfl (HPush.mk' w _);have hrn:r<s.n:=by
     rcases Nat.lt_or_ge r s.n with h3|h3
     ·exact h3
     ·rw[hst.st.fr r h3] at hρ;cases hρ
    have hr':=hL.ext _ _ hρ;refine⟨ρ.add s.n ⟨w.heap.size,0,0⟩,(ha.mono hL.ext).put (.ptr (Ren.add_same ρ s.n _)) hp,?_,fun it' e=>?_⟩
    ·unfold fullH;simp only[m2,m4];refine(hst.trans hL).congr fun b=>?_
     rw[T.get_upd];split
     ·rename_i e;subst e;exact m3.symm
     ·rename_i hne;exact T.gnE _ _ hne
    ·cases e;refine⟨w.heap.size,some L.blk,⟨0,by rw[hit.1];exact Ren.add_same ρ s.n _⟩,hst.st.wr.size,fun b M k h1 h2=>?_,clock,#[],clock,(HPush.mk' w _).at_,(fun e=>by rw[m2] at e;cases e),fun r' e=>?_⟩
     ·have hbr:b≠r:=by
       intro e;subst e;rw[show({s with h:=s.h.upd none b,n:=s.n+1,it:=some it}:NS).h=s.h.upd none b from rfl,T.gsE] at h2;cases h2
      have h2':s.h.get b=some k:=(T.gnE _ _ hbr).symm.trans h2;have hbn:b≠s.n:=fun e=>by rw[e,hst.st.hb _ (nlR _)] at h2';cases h2'
      rw[Ren.add_ne _ _ hbn] at h1;refine⟨Nat.ne_of_lt (hst.st.wr.lt h1 h2'),fun e=>?_⟩;exact hst.st.wr.apart b r M L k _ hbr h1 hρ h2' m3 (.inr rfl) (Option.some.inj e)
     ·rw[m2] at e;cases e;refine⟨L,ents,clock,hr',rfl,hst.st.wr.own r L _ hρ m3 rfl,T.gsE _ _ _,?_,?_,hstm,hstm.1,nlR _,nlR _,?_,fun e he=>by rw[hit.2.1] at he;cases he⟩
      ·exact((HPush.mk' w _).rest _ (Nat.ne_of_lt (hst.st.wr.lt hρ m3))).trans hh
      ·obtain⟨r1,es',r2,r3,r4⟩:=hmr;rw[m4];exact⟨r1,es',r2,r3,r4.mono hL.ext⟩
      ·rw[leftOf_nil,hit.2.2,m4];obtain⟨r1,es',r2,r3,r4⟩:=hmr;exact⟨es',r2,r3,r4.mono hL.ext⟩
theorem it_eval{ρ:Ren}{h:T Blk}{it:It}{x:Operand}(hg:E.glob≤G.ng)(hs:Stp G ρ0 h0 n0 ρ h s.n w)(ha:AOk ρ s.t many [] a)(hx:evA E s.t x=some (.pointer (some ⟨it.blk,0,none⟩))){I sz:Nat}(hpt:ρ it.blk=some ⟨I,0,sz⟩) :
 a.eval x= .pointer (some ⟨I,0,none⟩):=by
 have hv:=ev_sim hs.st.wr hg ha.tr hx;generalize a.eval x=q at hv;cases hv with
 | ptr h1=>rw[hpt] at h1;cases h1;rfl
theorem nextN_sim(hg:E.glob≤G.ng)(H:RN G ρ0 h0 n0 many s a w){o:Oper}{x:Operand}(ho:o.op= .next x false){it:It}(hit:itAt s (evA E s.t x)=some it){next:Act→World→Prop}{Q:Exit→Act→World→Prop}
 (hover:it.left=[]→∀ y w',OpR G ρ0 h0 n0 many s o.dst a (.tuple #[.bool false],{s with h:=(match it.m with|some r=>s.h.upd (some (.map it.es)) r|none=>s.h),it:=none}) y w'→next (a.put o.dst y) w')
 (hn:∀ p∈picks it.left,lit 6 p.1.1=true→∀ y w',OpR G ρ0 h0 n0 many s o.dst a (.tuple #[.bool true,p.1.1,p.1.2],{s with it:=some {it with left:=p.2,cur:=some p.1}}) y w'→next (a.put o.dst y) w')
 (hlit:it.left.all (fun p=>lit 6 p.1)=true):o.wpIn (Fr none) 0 P a w next Q:=by
 refine⟨fun f _=>fr_fn none f,?_⟩;rw[show o.semAt (Fr none).round a.eval=execOp a.eval o from rfl];obtain⟨hsi,hx⟩:=itAt_some hit;obtain⟨ρ,ha,hst,hi⟩:=H;obtain⟨I,M,⟨sz,hpt⟩,hnew,hno,since,seen,stepped,hI,hm0,hm1⟩:=hi it hsi;have hev:=it_eval hg hst ha hx hpt;cases o with
 | mk dst op ty0 pos after guard =>
 simp only at ho;subst ho;unfold execOp;dsimp only;rw[hev];have over:it.left=[]→(∀ y,(Instr.next (.pointer (some ⟨I,0,none⟩)) false ty0).run P w= .ok y w→y= .tuple #[.bool false])→(Instr.next (.pointer (some ⟨I,0,none⟩)) false ty0).run P w= .ok (.tuple #[.bool false]) w →
  Oper.uponIn (Fr none) 0 P {dst:=dst,op:= .next x false,type:=ty0,pos:=pos,after:=after,guard:=guard} a next Q ((do pure (.value (← Instr.next (.pointer (some ⟨I,0,none⟩)) false ty0)):Sem Next).run P w):=by
  intro hl _ hrun;simp only[Sem.run_bind,hrun,Result.andThen_ok];refine hover hl _ _ fun t' hp=>?_
  refine⟨ρ,ha.put (.mkTuple (.cons (.bool _) (.nil ρ))) hp,?_,fun it' e=>by cases e⟩;have:fullH s=(match it.m with|some r=>s.h.upd (some (.map it.es)) r|none=>s.h):=by unfold fullH;rw[hsi]<;>rfl
  rw[this] at hst;exact hst
 cases hm:it.m with
 | none =>
   obtain⟨rfl,hl,_⟩:=hm0 hm;have hrun:=run_next_nil (P:=P) (ty:=ty0) hI;exact over hl (fun y hy=>by rw[hrun] at hy;cases hy;rfl) hrun
 | some m =>
   obtain⟨L,ents,clock,q1,rfl,q3,q4,q5,q6,q7,q8,q9,q10,q11,q12⟩:=hm1 m hm;rcases run_next_at (P:=P) w ty0 I L.blk since stepped seen ents clock hI q5 q8 q9 with⟨h0',hrun⟩|⟨e,he,w1,hw1,hrun⟩
   ·refine over ?_ (fun y hy=>by rw[hrun] at hy;cases hy;rfl) hrun;have hlen:=q11.length;rw[Array.length_toList,h0'] at hlen;exact List.length_eq_zero_iff.1 hlen
   ·have hfl:(leftOf ents seen).toList=ents.toList.filter fun e=> !seen.contains e.born:=by unfold leftOf;rw[Array.toList_filter]
    obtain⟨c,d,hcd⟩:=List.append_of_mem he;rw[hcd] at q11;obtain⟨p,r,hp1,hp2,hp3,hp4⟩:=q11.pick;have hpl:lit 6 p.1=true:=by
     have:p∈it.left:=by
      have key:∀ {l:List (Value×Value)} {p:Value×Value} {r:List (Value×Value)},(p,r)∈picks l→p∈l:=by
       intro l
       induction l with
       | nil=>intro p r h;cases h
       | cons c l ih =>
         intro p r h;rcases List.mem_cons.1 h with e|h
         ·cases e;exact mcS ..
         ·obtain⟨y,hy,e⟩:=List.mem_map.1 h;cases e;exact mcM _ (ih hy)
      exact key hp1
     exact List.all_eq_true.1 hlit p this
    simp only[Sem.run_bind,hrun,Result.andThen_ok];refine hn (p,r) hp1 hpl _ _ fun t' hpt'=>?_
    have hlk:Lk w w1:=by rcases hw1 with rfl|rfl<;>exact⟨rfl,rfl⟩
    have hIlt:I<w1.heap.size:=by rw[hlk.1];exact(Array.getElem?_eq_some_iff.1 hI).1
    have hset:HSet w I (.mapIter (some L.blk) since (seen.push e.born) clock) (Go.ChangeMaps.setBlock w1 I (.mapIter (some L.blk) since (seen.push e.born) clock)):=by have r2:=HSet.mk' (w:=w1) (.mapIter (some L.blk) since (seen.push e.born) clock) hIlt;exact⟨by rw[←hlk.1];exact r2.size,r2.at_,fun r' hr'=>by rw[←hlk.1];exact r2.rest r' hr',r2.out.trans hlk.2⟩
    have hLI:L.blk≠I:=fun e=>by rw[e,hI] at q5;cases q5
    have hfull:fullH s=s.h.upd (some (.map it.es)) m:=by unfold fullH;rw[hsi];simp only[hm]
    have hnoF:∀ b N k,ρ b=some N→(fullH s).get b=some k→N.blk≠I:=by
     intro b N k h1 h2;rw[hfull,T.get_upd] at h2;split at h2
     ·rename_i e;subst e;rw[q1] at h1;cases h1;exact hLI
     ·exact(hno b N k h1 h2).1
    have hst':=hst.far hnew hnoF hset;refine⟨ρ,ha.put (.mkTuple (.cons (.bool _) (.cons ?_ (.cons hp3 (.nil ρ))))) hpt',?_,fun it' e'=>?_⟩
    ·rw[←hp2];exact lit_rel ρ 6 _ hpl
    ·have:fullH {t:=t',h:=s.h,n:=s.n,it:=some {it with left:=r,cur:=some p}}=fullH s:=by rw[hfull];unfold fullH;simp only[hm]
     show Stp G ρ0 h0 n0 ρ (fullH {t:=t',h:=s.h,n:=s.n,it:=some {it with left:=r,cur:=some p}}) s.n _;rw[this];exact hst'
    ·cases e';refine⟨I,some L.blk,⟨sz,hpt⟩,hnew,hno,since,seen.push e.born,clock,hset.at_,(fun e=>by rw[hm] at e;cases e),fun r' em=>?_⟩;have em:it.m=some r':=em;rw[hm] at em;cases em;refine⟨L,ents,clock,q1,rfl,q3,q4,(hset.rest _ hLI).trans q5,q6,q7,q8,q10,q10,?_,fun e2 he2=>?_⟩
     ·have:(leftOf ents (seen.push e.born)).toList=c ++ d:=by
       unfold leftOf;rw[Array.toList_filter];exact left_push ((MapKept.stamped_iff ents clock).1 q7).2.1 (hfl.symm.trans hcd)
      rw[this];exact hp4
     ·cases he2;have hmem:e∈ents.toList:=(mem_left he).1;exact⟨rfl,seen,e,rfl,hmem,hp2.symm,hp3⟩
theorem entryN_sim(hg:E.glob≤G.ng)(H:RN G ρ0 h0 n0 many s a w){o:Oper}{x:Operand}(ho:o.op= .entry x){it:It}(hit:itAt s (evA E s.t x)=some it){e:Value×Value}(he:it.cur=some e)(hlit:lit 6 e.1=true)
 {next:Act→World→Prop} {Q:Exit→Act→World→Prop} (hn:∀ y w',OpR G ρ0 h0 n0 many s o.dst a (.tuple #[e.1,e.2],s) y w'→next (a.put o.dst y) w'):o.wpIn (Fr none) 0 P a w next Q:=by
 refine⟨fun f _=>fr_fn none f,?_⟩;rw[show o.semAt (Fr none).round a.eval=execOp a.eval o from rfl];obtain⟨hsi,hx⟩:=itAt_some hit;obtain⟨ρ,ha,hst,hi⟩:=H;obtain⟨I,M,⟨sz,hpt⟩,hnew,hno,since,seen,stepped,hI,hm0,hm1⟩:=hi it hsi;have hev:=it_eval hg hst ha hx hpt;cases o with
 | mk dst op ty0 pos after guard =>
 simp only at ho;subst ho;unfold execOp;dsimp only;rw[hev];cases hm:it.m with
 | none =>
   rw[(hm0 hm).2.2] at he;cases he
 | some m =>
   obtain⟨L,ents,clock,q1,rfl,q3,q4,q5,q6,q7,q8,q9,q10,q11,q12⟩:=hm1 m hm;obtain⟨rfl,seen0,y,rfl,k3,k4,k5⟩:=q12 e he;have hrun:=run_entry_at (P:=P) w I L.blk since seen0 ents stepped y hI q5 k3 ((MapKept.stamped_iff ents stepped).1 q7).2.1;simp only[Sem.run_bind,hrun,Result.andThen_ok];refine hn _ _ fun t' hp=>⟨ρ,ha.put (.mkTuple (.cons ?_ (.cons k5 (.nil ρ)))) hp,hst,fun it' e'=>hi it' e'⟩
   rw[k4];exact lit_rel ρ 6 _ hlit
end
section
variable {E:Env}{P:Program}{ih:Run}{NC:Nat→Bool}{call:NCall}{G:Gh}{ρ0:Ren}{h0:T Blk}{n0 many:Nat}{s:NS}{a:Act}{w:World}
theorem entN_some{o:Oper}{f:FuncId}{args:List Value}(hx:entN E NC s o=some (f,args)):opA E s.t s.h s.n o= .enter f args:=by
 unfold entN at hx;split at hx
 ·rename_i f' args' ho;rw[biE] at hx;split at hx
  ·cases hx;exact ho
  ·cases hx
 ·cases hx
theorem opNn_sim(K:EOk E P)(hR:RunOk E P ih)(HN:NCallOk E P call)(hg:E.glob≤G.ng)(H:RN G ρ0 h0 n0 many s a w){o:Oper}{outs:List (Value×NS)}(hx:opNn E ih NC call s o=some outs)
 {next:Act→World→Prop} {Q:Exit→Act→World→Prop} (hn:∀ r∈outs,∀ y w',OpR G ρ0 h0 n0 many s o.dst a r y w'→next (a.put o.dst y) w'):o.wpIn (Fr none) 0 P a w next Q:=by
 unfold opNn at hx;split at hx
 ·rename_i ty x ho;split at hx
  ·rename_i i hi hv hit;rw[biE] at hx;split at hx
   ·rename_i hd;cases hx;exact rangeN_sim (it:=⟨s.n,none,[],[],none⟩) (h':=s.h) K hg H hit ho hi hd hv ⟨rfl,rfl,rfl⟩ (.inl ⟨rfl,rfl,rfl,rfl⟩) fun y w' hp=>hn _ (mcS ..) y w' hp
   ·cases hx
  ·rename_i i r hi hv hit;rw[biE] at hx;split at hx
   ·rename_i hd;split at hx
    ·rename_i es hes;cases hx;exact rangeN_sim (it:=⟨s.n,some r,es,es,none⟩) K hg H hit ho hi hd hv ⟨rfl,rfl,rfl⟩ (.inr ⟨r,es,rfl,rfl,hes,rfl,rfl⟩) fun y w' hp=>hn _ (mcS ..) y w' hp
    ·cases hx
   ·cases hx
  ·cases hx
 ·rename_i x ho;split at hx
  ·rename_i it hit;split at hx
   ·rename_i hl;cases hx;exact nextN_sim hg H ho hit (fun _ y w' hp=>hn _ (mcS ..) y w' hp) (fun p hp=>by rw[hl] at hp;cases hp) (by rw[hl];rfl)
   ·rename_i e l hl;rw[biE] at hx;split at hx
    ·rename_i hlit;cases hx;refine nextN_sim hg H ho hit (fun h0=>by rw[hl] at h0;cases h0) (fun p hp _ y w' hq=>hn _ (List.mem_map.2 ⟨p,by rw[←hl];exact hp,rfl⟩) y w' hq) (by rw[hl];exact hlit)
    ·cases hx
  ·cases hx
 ·rename_i x ho;split at hx
  ·rename_i it hit;split at hx
   ·rename_i e he;rw[biE] at hx;split at hx
    ·rename_i hlit;cases hx;exact entryN_sim hg H ho hit he hlit fun y w' hp=>hn _ (mcS ..) y w' hp
    ·cases hx
   ·cases hx
  ·cases hx
 ·split at hx
  ·rename_i f args hent;split at hx
   ·rename_i hit;split at hx
    ·rename_i l hcall;cases hx;obtain⟨G',ρ,e1,hst,ha,hback⟩:=H.run;refine⟨fun f _=>fr_fn none f,?_⟩;rw[show o.semAt (Fr none).round a.eval=execOp a.eval o from rfl];have hs:=op_sim (P:=P) K (by rw[e1];exact hg) hst ha.tr o;rw[entN_some hent] at hs;obtain⟨ys,r1,r2⟩:=hs;rw[r1];refine⟨(fun hd=>by rw[fr_depth] at hd;cases hd),?_⟩;refine CallsIn.mono (F:=Fence.wide) (HN f args s.h s.n l hcall G' ρ ys w (by rw[e1];exact hg) hst r2) fun e w' he=>?_
     obtain⟨r,hr,y,ρ',rfl,q1,q2⟩:=he;refine hn _ (List.mem_map.2 ⟨r,hr,rfl⟩) y w' fun t' hp=>?_
     have:=hback ρ' r.2.1 r.2.2 w' q2 t' (a.put o.dst y) ((ha.mono q2.ext).put q1 hp);exact this
    ·cases hx
   ·cases hx
  ·split at hx
   ·rename_i v h' n' hop;cases hx;obtain⟨G',ρ,e1,hst,ha,hback⟩:=H.run;refine opC_sim (rd:=none) (rd':=none) K (by rw[e1];exact hg) (callF_sim K hR) (roundF_sim hR) hst ha trivial hop fun y ρ' w' ds q1 q2 q3=>?_
    have hds:ds=[]:=q3.defs.nil_left;have had:a.defers=[]:=ha.defs.nil_left;subst hds;have hact:({a with defers:=[]}:Act)=a:=by cases a;simp only at had;subst had;rfl
    rw[hact] at q3 ⊢;exact hn _ (mcS ..) y w' fun t' hp=>hback ρ' h' n' w' q2 t' _ (q3.put q1 hp)
   ·cases hx
theorem opsNn_sim(K:EOk E P)(hR:RunOk E P ih)(HN:NCallOk E P call)(hg:E.glob≤G.ng){ops:Array Oper}{full:List (Ex×NS)} :
 ∀ (l:List Oper) (i:Nat) (s:NS) (a:Act) (w:World) (outs:List NS),ops.toList.drop i=l→opsNn E ih NC call many ops.toList l s=some outs→(∀ r∈outs,(Ex.normal,r)∈full)→RN G ρ0 h0 n0 many s a w →
   wpOpsIn (Fr none) 0 P ops (PostN G ρ0 h0 n0 many full) (List.range' i l.length) a w:=by
 intro l
 induction l with
 | nil =>
   intro i s a w outs _ hx hf H;simp only[opsNn] at hx;cases hx;exact⟨_,hf s (mcS ..),trivial,H⟩
 | cons o l ihl =>
   intro i s a w outs hl hx hf H;have hio:ops[i]? =some o:=by
    have:(ops.toList.drop i)[0]? =some o:=by rw[hl];rfl
    rw[List.getElem?_drop] at this;simpa using this
   have hl':ops.toList.drop (i+1)=l:=by rw[←List.drop_drop,hl];rfl
   rw[List.length_cons,List.range'_succ];simp only[wpOpsIn,hio];simp only[opsNn] at hx;obtain⟨ρ,ha,hst,hi⟩:=H;split at hx
   ·rename_i hw;rw[wanted_sim ha.tr hw];simp only[if_true];split at hx
    ·rename_i rs ho;refine opNn_sim K hR HN hg ⟨ρ,ha,hst,hi⟩ ho fun r hr y w' hp=>?_
     obtain⟨x,h1,h2⟩:=bindO_mem hx r hr;split at h1
     ·rename_i t' ht';exact ihl (i+1) _ _ w' x hl' h1 (fun q hq=>hf q (h2 q hq)) (hp t' ht')
     ·cases h1
    ·cases hx
   ·rename_i hw;rw[wanted_sim ha.tr hw];simp only[Bool.false_eq_true,if_false];split at hx
    ·rename_i t' hp;exact⟨fun f _=>fr_fn none f,ihl (i+1) _ _ w outs hl' hx hf ⟨ρ,ha.put (undef_rel ρ) hp,hst,hi⟩⟩
    ·cases hx
   ·cases hx
theorem callN_sim(K:EOk E P)(hR:RunOk E P ih){jh:NRun}(hJ:NRunOk E P jh):NCallOk E P (callN E jh):=by
 intro f args h n l hx G ρ ys w hg H hl;unfold callN at hx;split at hx
 ·rename_i fn hfn;obtain⟨p1,p2,p3⟩:=K.fn f fn hfn;split at hx
  ·rename_i c hbody;simp only[biE,bleT] at hx;split at hx
   ·rename_i hlen;obtain⟨e1,e2⟩:=enter_tmps hl hlen;refine callsIn_of_wp_marks p1 hbody trivial ?_;split at hx
    ·rename_i outs hj;have:=hJ c fn.ntmps _ outs hj G ρ h n {tmps:=ys ++ Array.replicate (fn.ntmps-ys.size) undef,defers:=[]} w hg ⟨ρ,⟨e1,e2,.nil ρ⟩,.refl H,fun it e=>by cases e⟩;refine wpIn_mono (F:=Fence.wide) this fun e' a' w' hp=>?_
     obtain⟨r,hr,q1,ρ',q2,q3,_⟩:=hp;obtain⟨x,h1,h2⟩:=bindO_mem hx r hr;obtain⟨e,s'⟩:=r;simp only at h1;have fin:(e= .normal∨e= .ret)→(match s'.it with|some _=>none|none=>(match resA E fn s'.t s'.h with|some v=>some [(v,s'.h,s'.n)]|none=>none))=some x →
      LeavesInM Fence.wide 0 P fn a'.tmps (fun e w'=>∃ r∈l,RetOk G ρ h n r.1 r.2.1 r.2.2 e w') a'.defers .returning w':=by
      intro _ h1;split at h1
      ·cases h1
      ·rename_i hit;split at h1
       ·rename_i v hres;cases h1;rw[fullH_none hit] at q3;rw[q2.defs.nil_left];obtain⟨y,r1,r2⟩:=resA_sim (P:=P) K q3.st.wr.blk q2.tr hres;exact⟨y,r1,_,h2 _ (mcS ..),y,ρ',rfl,r2,q3⟩
       ·cases h1
     cases e with
     | normal =>
       cases e'<;>first|exact q1.elim|skip
       exact fin (.inl rfl) (by cases hh:s'.it<;>rw[hh] at h1<;>exact h1)
     | ret =>
       cases e'<;>first|exact q1.elim|skip
       exact fin (.inr rfl) (by cases hh:s'.it<;>rw[hh] at h1<;>exact h1)
     | exit id=>cases h1
    ·cases hx
   ·cases hx
  ·cases hx
 ·cases hx
def LoopNOk(E:Env)(P:Program)(jh:NRun):Prop :=
 ∀ x many s outs,jh (.loop x) many s=some outs→∀ (G:Gh) (ρ0:Ren) (h0:T Blk) (n0:Nat) (a:Act) (w:World),E.glob≤G.ng→RN G ρ0 h0 n0 many s a w →
   ∀ (b:Frame) (k:List Item) (cs:List Frame),b.roundOf=(Fr none).round→(Fr none).fn b.fn→(Fr none).room (cs.length+1+0) →
     ∃ e' a' w',PostN G ρ0 h0 n0 many outs e' a' w'∧ArrivesIn (Machine.fenced P (Fr none)) P (lone (b.atR a (.code x :: .inLoop x :: k)) cs w) b k cs e' a' w'
theorem PostN.mono{outs outs':List (Ex×NS)}(h:∀ r∈outs,r∈outs'){e':Exit}{a':Act}{w':World}(hp:PostN G ρ0 h0 n0 many outs e' a' w'):PostN G ρ0 h0 n0 many outs' e' a' w':=by obtain⟨r,h1,h2⟩:=hp;exact⟨r,h r h1,h2⟩
theorem loopN_sim{jh:NRun}(hJ:NRunOk E P jh)(hL:LoopNOk E P jh):LoopNOk E P (stepN E ih NC jh):=by
 intro x many s outs hx G ρ0 h0 n0 a w hg H b k cs hro hb hroom;simp only[stepN] at hx;split at hx
 ·rename_i o1 h1;obtain⟨e',a1,w1,hq,harr⟩:=hJ x many s o1 h1 G ρ0 h0 n0 a w hg H b (.inLoop x :: k) cs hro hb hroom;obtain⟨r,hr,q1,q2⟩:=hq;obtain⟨y,k1,k2⟩:=bindO_mem hx r hr;obtain⟨e1,s1⟩:=r;cases e1 with
  | normal =>
    cases e'<;>first|exact q1.elim|skip
    obtain⟨e2,a2,w2,p1,p2⟩:=hL x many s1 y k1 G ρ0 h0 n0 a1 w1 hg q2 b k cs hro hb hroom;exact⟨e2,a2,w2,p1.mono k2,.of_steps (StepsIn.trans harr (.one (fenced_calm hb hroom rfl) stepR_inLoop)) p2⟩
  | exit id =>
    cases k1;cases e'<;>first|exact q1.elim|skip
    exact⟨_,a1,w1,⟨_,k2 _ (mcS ..),q1,q2⟩,.pass (x:= .inLoop x) rfl (fun _ _=> .inl (by simp)) harr⟩
  | ret =>
    cases k1;cases e'<;>first|exact q1.elim|skip
    exact⟨_,a1,w1,⟨_,k2 _ (mcS ..),q1,q2⟩,.pass (x:= .inLoop x) rfl (fun _ _=> .inl (by simp)) harr⟩
 ·cases hx
theorem stepN_sim(K:EOk E P)(hm:P.follows .mixedOrders=true)(hR:RunOk E P ih){jh:NRun}(hJ:NRunOk E P jh)(hL:LoopNOk E P jh):NRunOk E P (stepN E ih NC jh):=by
 intro c many s outs hx G ρ0 h0 n0 a w hg H;cases c with
 | skip=>simp only[stepN] at hx;cases hx;exact wpIn_skip ⟨_,mcS ..,trivial,H⟩
 | label l=>simp only[stepN] at hx;cases hx;exact wpIn_label ⟨_,mcS ..,trivial,H⟩
 | exit id=>simp only[stepN] at hx;cases hx;exact wpIn_exit ⟨_,mcS ..,rfl,H⟩
 | ret=>simp only[stepN] at hx;cases hx;exact wpIn_ret ⟨_,mcS ..,trivial,H⟩
 | goto l=>simp only[stepN] at hx;cases hx
 | refuse x=>simp only[stepN] at hx;cases hx
 | scope x=>simp only[stepN] at hx;cases hx
 | rangeFunc f p x y=>simp only[stepN] at hx;cases hx
 | seq x y =>
   simp only[stepN] at hx;refine wpIn_seq ?_;split at hx
   ·rename_i o1 h1;refine wpIn_mono (hJ x many s o1 h1 G ρ0 h0 n0 a w hg H) fun e' a' w' hp=>?_
    obtain⟨r,hr,q1,q2⟩:=hp;obtain⟨z,k1,k2⟩:=bindO_mem hx r hr;obtain⟨e1,s1⟩:=r;cases e1 with
    | normal =>
      cases e'<;>first|exact q1.elim|skip
      exact wpIn_mono (hJ y many s1 z k1 G ρ0 h0 n0 a' w' hg q2) fun e' a' w' hp=>hp.mono k2
    | exit id =>
      cases k1;cases e'<;>first|exact q1.elim|exact⟨_,k2 _ (mcS ..),q1,q2⟩
    | ret =>
      cases k1;cases e'<;>first|exact q1.elim|exact⟨_,k2 _ (mcS ..),q1,q2⟩
   ·cases hx
 | cond x y z =>
   simp only[stepN] at hx;obtain⟨G',ρ,e1,hst,ha,_⟩:=H.run;split at hx
   ·rename_i hb;exact wpIn_cond_true (ev_sim hst.wr (by rw[e1];exact hg) ha.tr hb).bool_inv (hJ y many s outs hx G ρ0 h0 n0 a w hg H)
   ·rename_i hb;exact wpIn_cond_false (ev_sim hst.wr (by rw[e1];exact hg) ha.tr hb).bool_inv (hJ z many s outs hx G ρ0 h0 n0 a w hg H)
   ·cases hx
 | block id x =>
   simp only[stepN] at hx;refine wpIn_block ?_;split at hx
   ·rename_i o1 h1;cases hx;refine wpIn_mono (hJ x many s o1 h1 G ρ0 h0 n0 a w hg H) fun e' a' w' hp=>?_
    obtain⟨r,hr,q1,q2⟩:=hp;obtain⟨e1,s1⟩:=r;have hmem:(outOf id e1,s1)∈o1.map fun r=>(outOf id r.1,r.2):=List.mem_map.2 ⟨_,hr,rfl⟩
    cases e1 with
    | normal=>cases e'<;>first|exact q1.elim|exact⟨_,hmem,trivial,q2⟩
    | ret=>cases e'<;>first|exact q1.elim|exact⟨_,hmem,trivial,q2⟩
    | exit i =>
      cases e'<;>first|exact q1.elim|skip
      rename_i j;have q1:i=j:=q1;subst q1;simp only[Exit.inBlock];have ho:outOf id (.exit i)=if i=id then .normal else .exit i:=by simp only[outOf,biE,beqT]
      rw[ho] at hmem;split
      ·rename_i hi;rw[if_pos hi] at hmem;exact⟨_,hmem,trivial,q2⟩
      ·rename_i hi;rw[if_neg hi] at hmem;exact⟨_,hmem,rfl,q2⟩
   ·cases hx
 | region id ops dr =>
   cases dr with
   | false =>
     simp only[stepN] at hx;refine wpIn_region ?_;rw[List.range_eq_range'];split at hx
     ·rename_i l hl;cases hx;have:=opsNn_sim (G:=G) (ρ0:=ρ0) (h0:=h0) (n0:=n0) K hR (callN_sim K hR hJ) hg (ops:=ops) (full:=l.map fun s=>(.normal,s)) ops.toList 0 s a w l rfl hl (fun r hr=>List.mem_map.2 ⟨r,hr,rfl⟩) H
      rwa [Array.length_toList] at this
     ·cases hx
   | true =>
     simp only[stepN] at hx;split at hx
     ·rename_i t' h' n' hd;cases hx;obtain⟨G',ρ,e1,hst,ha,hback⟩:=H.run;refine wpIn_mono (draw_ok K hm hR none many ops s.t [] s.h s.n .normal t' [] h' n' hd G' ρ none a w id (by rw[e1];exact hg) hst ha trivial) fun e' a' w' hp=>?_
      obtain⟨q1,ρ',q2,q3⟩:=hp;exact⟨_,mcS ..,q1,hback ρ' h' n' w' q3 t' a' q2⟩
     ·cases hx
 | loop x =>
   intro b k cs hro hb hroom;obtain⟨e',a1,w1,hq,harr⟩:=loopN_sim hJ hL x many s outs hx G ρ0 h0 n0 a w hg H b k cs hro hb hroom;exact⟨e',a1,w1,hq,.of_steps (.one (fenced_calm hb hroom rfl) stepR_loop) harr⟩
theorem execN_sim(K:EOk E P)(hm:P.follows .mixedOrders=true)(hR:RunOk E P ih):∀ f,NRunOk E P (execN E ih NC f)∧LoopNOk E P (execN E ih NC f)
 | 0=>⟨fun c many s outs hx=>by simp[execN] at hx,fun x many s outs hx=>by simp[execN] at hx⟩
 | f+1 =>
   have jh:=execN_sim K hm hR f
   ⟨stepN_sim K hm hR jh.1 jh.2,loopN_sim jh.1 jh.2⟩
theorem callN_ok(K:EOk E P)(hm:P.follows .mixedOrders=true)(hR:RunOk E P ih)(f:Nat):NCallOk E P (callN E (execN E ih NC f)):=callN_sim K hR (execN_sim K hm hR f).1
end
noncomputable section
def T.lft{α:Type}(t:T α):T α:=T.rec (motive:=fun _=>T α) .leaf (fun l _ _ _ _=>l) t
def T.rgt{α:Type}(t:T α):T α:=T.rec (motive:=fun _=>T α) .leaf (fun _ _ r _ _=>r) t
def T.top{α:Type}(t:T α):Option α:=T.rec (motive:=fun _=>Option α) none (fun _ v _ _ _=>v) t
def emptyT{α:Type}(t:T α):Bool:=T.rec (motive:=fun _=>Bool) true (fun _ v _ a b=>v.isNone&&(a&&b)) t
def chkT(p:Nat→Option Blk→Option Blk→Option Blk→Bool)(x:T Blk):Nat→Nat→T Blk→T Blk→Bool :=
 T.rec (motive:=fun _=>Nat→Nat→T Blk→T Blk→Bool) (fun _ _ y _=>emptyT y)
  (fun _ v _ il ir a b y z=>p b v y.top z.top&&(il (2 * a) (a+b) y.lft z.lft&&ir (2 * a) (2 * a+b) y.rgt z.rgt)) x
def sameP:List (Value×Value)→List (Value×Value)→Bool
 | [],[]=>true
 | a :: l,b :: m=>sameV 8 a.1 b.1&&sameV 8 a.2 b.2&&sameP l m
 | _,_=>false
def outP(a:Value×Value):List (Value×Value)→Option (List (Value×Value))
 | []=>none
 | b :: l=>bif sameV 8 a.1 b.1&&sameV 8 a.2 b.2 then some l else (match outP a l with|some r=>some (b :: r)|none=>none)
def permP:List (Value×Value)→List (Value×Value)→Bool
 | [],[]=>true
 | a :: l,m=>(match outP a m with|some r=>permP l r|none=>false)
 | _,_=>false
def sameB:Blk→Blk→Bool
 | .cells a,.cells b=>sameV.sameL 8 a b
 | .ro a,.ro b=>sameV.sameL 8 a b
 | .map a,.map b=>sameP a b
 | .iter a i,.iter b j=>bytesEq a.data.toList b.data.toList&&Nat.beq i j
 | .dfr a,.dfr b=>a == b
 | _,_=>false
def otherB(x z:Option Blk):Bool :=
 match x,z with
 | some (.map a),some (.map b)=> !Nat.beq a.length b.length
 | _,_=>false
def joinB(n b:Nat)(x y z:Option Blk):Bool :=
 match x,y with
 | none,none=>true
 | some _,none=>Nat.ble n b||otherB x z
 | some k,some k'=>sameB k k'||(match k,k' with| .map es,.map es'=>permP es' es&&(Nat.ble n b||otherB x z)|_,_=>false)
 | none,some _=>false
def comB(x y:Option Blk):Option Blk :=
 match x,y with
 | some k,some k'=>bif sameB k k' then x else (match k,k' with| .map es,.map es'=>bif permP es es' then x else none|_,_=>none)
 | _,_=>none
def comT(x:T Blk):T Blk→T Blk :=
 T.rec (motive:=fun _=>T Blk→T Blk) (fun _=> .leaf) (fun _ v _ il ir y=> .node (il y.lft) (comB v y.top) (ir y.rgt)) x
def joinC(h:T Blk)(n:Nat)(l:List (Value×T Blk×Nat)):Option (Value×T Blk×Nat) :=
 match l with
 | []=>none
 | [r]=>some r
 | r :: q :: rest =>
   (let hJ:=(q :: rest).foldl (fun x y=>comT x y.2.1) r.2.1
    let nJ:=(q :: rest).foldl (fun x y=>Nat.max x y.2.2) r.2.2
    bif (r :: q :: rest).all (fun y=>sameV 8 r.1 y.1&&(Nat.ble y.2.2 nJ&&chkT (joinB n) y.2.1 1 0 hJ h)) then some (r.1,hJ,nJ) else none)
end
theorem T.getP_lft{α:Type}(t:T α)(p:Pth):t.lft.getP p=t.getP (.l p):=by cases t<;>rfl
theorem T.getP_rgt{α:Type}(t:T α)(p:Pth):t.rgt.getP p=t.getP (.r p):=by cases t<;>rfl
theorem T.getP_top{α:Type}(t:T α):t.top=t.getP .z:=by cases t<;>rfl
theorem emptyT_spec{α:Type}:∀ {t:T α},emptyT t=true→∀ p,t.getP p=none
 | .leaf,_,_=>rfl
 | .node l v r,h,p=>by
   have h':(v.isNone&&(emptyT l&&emptyT r))=true:=h;simp only[baT,Option.isNone_iff_eq_none] at h';cases p with
   | z=>exact h'.1
   | l p=>exact emptyT_spec h'.2.1 p
   | r p=>exact emptyT_spec h'.2.2 p
theorem chkT_spec{q:Nat→Option Blk→Option Blk→Option Blk→Bool}:∀ {x:T Blk}{a b:Nat}{y z:T Blk},chkT q x a b y z=true→∀ p:Pth,q (a * p.val+b) (x.getP p) (y.getP p) (z.getP p)=true∨(x.getP p=none∧y.getP p=none)
 | .leaf,a,b,y,z,h,p=> .inr ⟨rfl,emptyT_spec h p⟩
 | .node l v r,a,b,y,z,h,p=>by
   have h':(q b v y.top z.top&&(chkT q l (2 * a) (a+b) y.lft z.lft&&chkT q r (2 * a) (2 * a+b) y.rgt z.rgt))=true:=h;simp only[baT] at h';obtain⟨h1,h2,h3⟩:=h';cases p with
   | z =>
     left;rw[T.getP_top,T.getP_top] at h1;have e:a * Pth.z.val+b=b:=by simp[Pth.val]
     rw[e];exact h1
   | l p =>
     have:=chkT_spec h2 p;rw[T.getP_lft,T.getP_lft] at this;have e:a * (Pth.l p).val+b=2 * a * p.val+(a+b):=by simp only[Pth.val];rw[Nat.mul_add,Nat.mul_one,← Nat.mul_assoc,Nat.mul_comm a 2];omega
     rw[e];exact this
   | r p =>
     have:=chkT_spec h3 p;rw[T.getP_rgt,T.getP_rgt] at this;have e:a * (Pth.r p).val+b=2 * a * p.val+(2 * a+b):=by simp only[Pth.val];rw[Nat.mul_add,← Nat.mul_assoc,Nat.mul_comm a 2];omega
     rw[e];exact this
theorem sameP_eq:∀ {x y:List (Value×Value)},sameP x y=true→x=y
 | [],[],_=>rfl
 | [],_ :: _,h=>by simp[sameP] at h
 | _ :: _,[],h=>by simp[sameP] at h
 | a :: l,b :: m,h=>by simp only[sameP,baT] at h;have e:a=b:=Prod.ext (sameV_eq 8 _ _ h.1.1) (sameV_eq 8 _ _ h.1.2);rw[e,sameP_eq h.2]
theorem outP_perm{a:Value×Value}:∀ {l r:List (Value×Value)},outP a l=some r→(a :: r).Perm l
 | [],r,h=>by simp[outP] at h
 | b :: l,r,h=>by
   simp only[outP,biE,baT] at h;split at h
   ·rename_i he;cases h;have e:a=b:=Prod.ext (sameV_eq 8 _ _ he.1) (sameV_eq 8 _ _ he.2);rw[e]
   ·split at h
    ·rename_i r' hr;cases h;exact(List.Perm.swap b a r').trans ((outP_perm hr).cons b)
    ·cases h
theorem permP_perm:∀ {l m:List (Value×Value)},permP l m=true→l.Perm m
 | [],[],_=> .refl _
 | [],_ :: _,h=>by simp[permP] at h
 | a :: l,m,h=>by
   simp only[permP] at h;split at h
   ·rename_i r hr;exact((permP_perm h).cons a).trans (outP_perm hr)
   ·cases h
theorem sameB_eq{x y:Blk}(h:sameB x y=true):x=y:=by
 unfold sameB at h;split at h
 ·rw[sameL_eq (sameV_eq 8) h]
 ·rw[sameL_eq (sameV_eq 8) h]
 ·rw[sameP_eq h]
 ·simp only[baT,bytesEq_iff,beqT] at h;rw[data_inj h.1,h.2]
 ·simp only[beq_iff_eq] at h;rw[h]
 ·cases h
theorem otherB_ne{x z:Option Blk}(h:otherB x z=true):x≠z:=by
 unfold otherB at h;split at h
 ·intro e;simp only[Option.some.injEq,Blk.map.injEq] at e;subst e;simp[beqT] at h
 ·cases h
theorem joinB_spec{n b:Nat}{x y z:Option Blk}(h:joinB n b x y z=true):(∀ k,y=some k→SameBlk x (some k))∧(b<n→x=z→y=x):=by
 unfold joinB at h;split at h
 ·exact⟨fun k e=>(by cases e),fun _ _=>rfl⟩
 ·simp only[Bool.or_eq_true,bleT] at h;refine⟨fun k e=>(by cases e),fun h1 h2=>?_⟩;rcases h with h|h
  ·omega
  ·exact absurd h2 (otherB_ne h)
 ·rename_i k k';simp only[Bool.or_eq_true] at h;rcases h with h|h
  ·have e:=sameB_eq h;subst e;exact⟨fun k2 e=>(by cases e;exact .inl rfl),fun _ _=>rfl⟩
  ·split at h
   ·rename_i es es';simp only[baT,Bool.or_eq_true,bleT] at h;refine⟨fun k2 e=>(by cases e;exact .inr ⟨es,es',rfl,rfl,permP_perm h.1⟩),fun h1 h2=>?_⟩;rcases h.2 with h3|h3
    ·omega
    ·exact absurd h2 (otherB_ne h3)
   ·cases h
 ·cases h
theorem join_stp{G:Gh}{ρ ρ':Ren}{h h' hJ:T Blk}{n n' nJ:Nat}{w':World}(s:Stp G ρ h n ρ' h' n' w')(hn:n'≤nJ)(hc:chkT (joinB n) h' 1 0 hJ h=true):Stp G ρ h n ρ' hJ nJ w':=by
 have sp:∀ b,(∀ k,hJ.get b=some k→SameBlk (h'.get b) (some k))∧(b<n→h'.get b=h.get b→hJ.get b=h'.get b):=by
  intro b;have:=chkT_spec hc (pth b);rw[Nat.one_mul,Nat.add_zero,show(pth b).val=b from pthF_val (b+1) b (by omega)] at this;rcases this with h1|⟨h1,h2⟩
  ·exact joinB_spec h1
  ·exact⟨fun k e=>(by rw[show hJ.get b=none from h2] at e;cases e),fun _ _=>by rw[show hJ.get b=none from h2,show h'.get b=none from h1]⟩
 have ex:∀ b k,hJ.get b=some k→∃ k',h'.get b=some k'∧isRo k'=isRo k:=fun b k hk=>((sp b).1 k hk).some rfl
 refine⟨⟨⟨fun b L k h1 h2=>((sp b).1 k h2).rel rfl fun k' hk'=>s.st.wr.blk b L k' h1 hk',fun b b' L L' k k' hne h1 h1' h2 h2' hr=>?_,fun b L k h1 h2 hr=>?_,s.st.wr.frame,s.st.wr.size,s.st.wr.glob,s.st.wr.out⟩,fun b hb=>s.st.fr b (by omega),fun b hb=>?_⟩,
  s.ext,s.new,s.newOwn,fun b hb hnone=>?_,fun b k hb hk=>?_,fun b hb hnone=>?_,Nat.le_trans s.le hn⟩
 ·obtain⟨c,c1,c2⟩:=ex b k h2;obtain⟨c',c1',c2'⟩:=ex b' k' h2';exact s.st.wr.apart b b' L L' c c' hne h1 h1' c1 c1' (by rw[c2,c2'];exact hr)
 ·obtain⟨c,c1,c2⟩:=ex b k h2;exact s.st.wr.own b L c h1 c1 (by rw[c2];exact hr)
 ·cases hk:hJ.get b with
  | none=>rfl
  | some k =>
    obtain⟨c,c1,_⟩:=ex b k hk;rw[s.st.hb b (by omega)] at c1;cases c1
 ·cases hk:hJ.get b with
  | none=>rfl
  | some k =>
    obtain⟨c,c1,_⟩:=ex b k hk;rw[s.dead b hb hnone] at c1;cases c1
 ·obtain⟨c,c1,_⟩:=ex b k hk;exact s.tot b c hb c1
 ·have:=s.afr b hb hnone;rw[(sp b).2 hb this];exact this
theorem joinC_ok{G:Gh}{ρ:Ren}{h:T Blk}{n:Nat}{l:List (Value×T Blk×Nat)}{r:Value×T Blk×Nat}(hj:joinC h n l=some r){q:Value×T Blk×Nat}(hq:q∈l){e:Ending}{w':World}(hr:RetOk G ρ h n q.1 q.2.1 q.2.2 e w') :
 RetOk G ρ h n r.1 r.2.1 r.2.2 e w':=by
 unfold joinC at hj;split at hj
 ·cases hj
 ·cases hj;cases List.mem_singleton.1 hq;exact hr
 ·rename_i r0 q0 rest;simp only[biE] at hj;split at hj
  ·rename_i hall;cases hj;have:=List.all_eq_true.1 hall q hq;simp only[baT,bleT] at this;obtain⟨h1,h2,h3⟩:=this;obtain⟨y,ρ',k1,k2,k3⟩:=hr;refine⟨y,ρ',k1,?_,join_stp k3 h2 h3⟩;rw[sameV_eq 8 _ _ h1];exact k2
  ·cases hj
noncomputable def extJ(E:Env)(ih:Run)(NC:Nat→Bool)(fuel:Nat)(f:FuncId)(args:List Value)(h:T Blk)(n:Nat):Option (Value×T Blk×Nat) :=
 match callN E (execN E ih NC fuel) f args h n with
 | some l=>joinC h n l
 | none=>none
theorem extJ_ok{E:Env}{P:Program}(K:EOk E P)(hm:P.follows .mixedOrders=true){ih:Run}(hR:RunOk E P ih){NC:Nat→Bool}{fuel:Nat}{f:FuncId}{args:List Value}{h:T Blk}{n:Nat}{r:Value×T Blk×Nat}(hx:extJ E ih NC fuel f args h n=some r)
 (G:Gh) (ρ:Ren) (ys:Array Value) (w:World) (hg:E.glob≤G.ng) (H:St G ρ h n w) (hl:LRel ρ args ys.toList) :
 CallsIn Fence.wide 0 P f ys w (fun e w'=>∃ y ρ',e= .returned y∧VRel ρ' r.1 y∧Stp G ρ h n ρ' r.2.1 r.2.2 w'):=by
 unfold extJ at hx;split at hx
 ·rename_i l hl';refine CallsIn.mono (F:=Fence.wide) (callN_ok K hm hR fuel f args h n l hl' G ρ ys w hg H hl) fun e w' he=>?_
  obtain⟨q,hq,hr⟩:=he;exact joinC_ok hx hq hr
 ·cases hx
end Go.Sx
