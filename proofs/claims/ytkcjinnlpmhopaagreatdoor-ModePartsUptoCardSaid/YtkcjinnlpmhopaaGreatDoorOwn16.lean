/- RqD: the law ModeParts on laid data: known calls, and the law. -/
import Derived.Test.YtkcjinnlpmhopaaGreatDoorOwn15
import Derived.ProofKit
import Derived.LaidLaws
import Derived.OpenShut
import Derived.Handed
import Derived.Test.YtkcjinnlpmhopaaGreatDoorTie
import Derived.Test.YtkcjinnlpmhopaaGreatDoorCards
import Derived.Deep.DeepHandedRow
namespace Go.Sx
open Go.Proofs
set_option maxRecDepth 100000
set_option maxHeartbeats 4000000
theorem find_of{h:T Blk}{args:List Value}:∀ {row:List (Ct×Value)},(∃ e∈row,hitC h e.1 args=some [])→∃ e∈row,findM h args row=some e.2
 | [],⟨e,he,_⟩=>by cases he
 | x :: row,⟨e,he,hh⟩=>by
   by_cases hx:hitC h x.1 args=some []
   · exact⟨x,mcS ..,by simp only[findM,hx]⟩
   · obtain⟨e',h1,h2⟩:=find_of (row:=row) ⟨e,by
      rcases List.mem_cons.1 he with rfl|he
      · exact absurd hh hx
      · exact he,hh⟩
     refine⟨e',mcM _ h1,?_⟩;rw[←h2];simp only[findM]
abbrev MOk(f:FuncId)(ct:Ct)(v:Value):Prop:=MemoOk Tryz.prog Tryz.prog.globals.size gro0 f ct v
theorem row_of{β:Type}{f:FuncId}{Ty:Value→Prop}{h:T Blk}(args:β→List Value):∀ (xs:List β),(∀ x∈xs,∃ ct v,Ty v∧MOk f ct v∧hitC h ct (args x)=some []) →
 ∃ row:List (Ct×Value),(∀ e∈row,MOk f e.1 e.2∧Ty e.2)∧∀ x∈xs,∃ e∈row,hitC h e.1 (args x)=some []
 | [],_=>⟨[],fun e he=>(by cases he),fun x hx=>(by cases hx)⟩
 | x :: xs,h1=>by
   obtain⟨row,r1,r2⟩:=row_of args xs fun y hy=>h1 y (mcM _ hy)
   obtain⟨ct,v,a1,a2,a3⟩:=h1 x (mcS ..);refine⟨(ct,v) :: row,fun e he=>?_,fun y hy=>?_⟩
   · rcases List.mem_cons.1 he with rfl|he
     · exact⟨a2,a1⟩
     · exact r1 e he
   · rcases List.mem_cons.1 hy with rfl|hy
     · exact⟨_,mcS ..,a3⟩
     · obtain⟨e,e1,e2⟩:=r2 y hy;exact⟨e,mcM _ e1,e2⟩
theorem EE0_ok:EOk (EE []) Tryz.prog:=EE_ok fun f r h=>by cases h
theorem C0_ok:EOk Az.C0.E Tryz.prog:=EE0_ok
theorem C1_ok:EOk Az.C1.E Tryz.prog:=EE0_ok
theorem glob1000:Tryz.prog.globals.size≤1000:=by have:=glob0;rw[bleT] at this;exact this
theorem entry0{sp:Az.Spec}(hs:∀ N,Az.SpecAt Az.C0 N sp)(hd:sp.args.all (Az.dataA 4)=true){h:T Blk}{N:Nat}{vs:List Value}(ha:Az.AOkL Az.C0 h N sp.args vs) :
 ∃ ct,hitC h ct vs=some []∧∃ v,(∃ h' n m bs,Az.ROk Az.C0 h' m n sp.res v bs)∧(lit 6 v=true→MOk sp.f ct v):=by
 obtain⟨ct,_,h2,v,h3,h4⟩:=Az.memo_spec C0_ok mixed0 glob1000 gro0_ok (by show(gro0.map (·.1)).Nodup;decide) hs hd ha;exact⟨ct,h2,v,h3,h4⟩
theorem entry1{sp:Az.Spec}(hs:∀ N,Az.SpecAt Az.C1 N sp)(hd:sp.args.all (Az.dataA 4)=true){h:T Blk}{N:Nat}{vs:List Value}(ha:Az.AOkL Az.C1 h N sp.args vs) :
 ∃ ct,hitC h ct vs=some []∧∃ v,(∃ h' n m bs,Az.ROk Az.C1 h' m n sp.res v bs)∧(lit 6 v=true→MOk sp.f ct v):=by
 obtain⟨ct,_,h2,v,h3,h4⟩:=Az.memo_spec C1_ok mixed0 glob1000 gro0_ok (by show(gro0.map (·.1)).Nodup;decide) hs hd ha;exact⟨ct,h2,v,h3,h4⟩
theorem r_int{C:Az.Cfg}{h:T Blk}{m n:Nat}{v:Value}{bs:List Nat}(r:Az.ROk C h m n (.int .i64) v bs):∃ x,v= .int .i64 x:=by
 cases r with
 | int=>exact⟨_,rfl⟩
theorem r_bool{C:Az.Cfg}{h:T Blk}{m n:Nat}{v:Value}{bs:List Nat}(r:Az.ROk C h m n .bool v bs):∃ x,v= .bool x:=by
 cases r with
 | bool=>exact⟨_,rfl⟩
abbrev L5(r7 r37 r39 r120:List (Ct×Value)):List (FuncId×List (Ct×Value)):=[(5,[(.nil,.bool true)]),(7,r7),(37,r37),(39,r39),(120,r120)]
theorem L5_ok(r7 r37 r39 r120:List (Ct×Value)):MemoK (L5 r7 r37 r39 r120):=fun x hx=>by simp only[List.mem_cons,List.not_mem_nil,or_false] at hx;rcases hx with rfl|rfl|rfl|rfl|rfl<;>simp
section
variable {r7 r37 r39 r120:List (Ct×Value)}{h:T Blk}{n:Nat}(hg:groOK h gro0=true)
include hg
theorem memo_at{f:FuncId}{args:List Value}{l:List (FuncId×List (Ct×Value))}{row:List (Ct×Value)}(hr:(memoT l).get f=some row):memoA (EE l) f args h=findM h args row:=by have e1:(EE l).memo.get f=some row:=hr;have e2:(EE l).gro=gro0:=rfl;simp only[memoA,e1,e2,hg,_root_.cond_true]
theorem memo5:memoA (EE (L5 r7 r37 r39 r120)) 5 [] h=some (.bool true):=by rw[memo_at hg (row:=[(.nil,.bool true)]) (by simp only[memoT];exact T.gsE _ _ _)];rfl
theorem memo7{args:List Value}:memoA (EE (L5 r7 r37 r39 r120)) 7 args h=findM h args r7 :=
 memo_at hg (by simp only[memoT];rw[T.gnE _ _ (by decide)];exact T.gsE _ _ _)
theorem memo37{args:List Value}:memoA (EE (L5 r7 r37 r39 r120)) 37 args h=findM h args r37 :=
 memo_at hg (by simp only[memoT];rw[T.gnE _ _ (by decide),T.gnE _ _ (by decide)];exact T.gsE _ _ _)
theorem memo39{args:List Value}:memoA (EE (L5 r7 r37 r39 r120)) 39 args h=findM h args r39 :=
 memo_at hg (by simp only[memoT];rw[T.gnE _ _ (by decide),T.gnE _ _ (by decide),T.gnE _ _ (by decide)];exact T.gsE _ _ _)
theorem memo120{args:List Value}:memoA (EE (L5 r7 r37 r39 r120)) 120 args h=findM h args r120 :=
 memo_at hg (by simp only[memoT];rw[T.gnE _ _ (by decide),T.gnE _ _ (by decide),T.gnE _ _ (by decide),T.gnE _ _ (by decide)];exact T.gsE _ _ _)
end
theorem ft_aok{f:Ft}(ho:FtOK f){h:T Blk}{N:Nat}:Az.AOkL Az.C0 h N Az.s37.args [featV f] :=
 .cons (.agg (.cons (.str ho.1) (.cons (.int ho.2.1.1 ho.2.1.2) (.cons (.int ho.2.2.1 ho.2.2.2) .nil)))) .nil
theorem CVal.feat{n:Nat}(f:Ft):∀ x∈ [featV f],CVal n x:=fun x hx=>by
 simp only[List.mem_cons,List.not_mem_nil,or_false] at hx;subst hx;refine .agg fun y hy=>?_
 simp only[List.mem_cons,List.not_mem_nil,or_false] at hy;rcases hy with rfl|rfl|rfl
 · exact .str _
 · exact .int _ _
 · exact .int _ _
theorem D_norm{Γ:List (List Az.CT)}{lim:Nat}{h:T Blk}{r q:Nat}{v:Value}(hd:Az.D Γ lim h r (.sl q) v):∃ r',r'≤lim∧Az.D Γ lim h r' (.sl q) v:=by
 cases hd with
 | nil=>exact⟨0,Nat.zero_le _,.nil⟩
 | sl f hb hq hp ho hs hl hc=>exact⟨_,hl,.sl f hb hq hp ho hs hl hc⟩
theorem cval_row{α:Type}{k:Nat}{enc:α→List Value}{h:T Blk}{n:Nat}{v:Value}{xs:List α}(hcl:CloH h n)(r:RowsS k enc h v xs){x:α}(hx:x∈xs):∀ y∈enc x,CVal n y:=by
 obtain⟨eb,c,rfl,_,h2⟩:=r;obtain⟨i,hi⟩:=List.getElem?_of_mem hx;obtain⟨b,o,cs,_,h3,h4⟩:=h2 i x hi;intro y hy;obtain⟨j,hj⟩:=List.getElem?_of_mem hy;have hlt:=(gsI hj).1;rw[(seg_some h4).1] at hlt;have:=((seg_some h4).2 j hlt).1;rw[hj] at this;have hm:=List.mem_of_getElem? this.symm;unfold cellsOf at h3;split at h3
 · rename_i hb;obtain⟨_,e,_⟩:=hcl b _ hb;cases e
 · rename_i hb;obtain⟨cs',e,e2⟩:=hcl b _ hb;cases e;cases h3;exact e2 y hm
 · cases h3
theorem parts_law{rP rg rN rA rQ rU:Nat}{vP vN vA vQ vU vF:Value}{qn proc arg:Int}{g:SlT}{fs:List Ft}{h:T Blk}{n:Nat}(hf:Fresh h n)(hcl:CloH h n)(hg:groOK h gro0=true)(hn:1≤n)(hqn:R64 qn)
 (dP:Az.D Az.Γ0 1100000 h rP (.sl 0) vP) (dg:Az.D Az.Γ0 1100000 h rg (.sl 2) (slV g)) (dN:Az.D Az.Γ0 1100000 h rN (.sl 12) vN) (dA:Az.D Az.Γ0 1100000 h rA (.sl 8) vA) (dQ:Az.D Az.Γ0 1100000 h rQ (.sl 9) vQ) (dU:Az.D Az.Γ0 1100000 h rU (.sl 7) vU)
 (kP:CVal n vP) (kg:CVal n (slV g)) (kN:CVal n vN) (kA:CVal n vA) (kQ:CVal n vQ) (kU:CVal n vU) (hb:rN≤1100000∧rA≤1100000∧rQ≤1100000∧rU≤1100000)
 (hF:RowsS 3 featL h vF fs) (hFo:∀ f∈fs,FtOK f) (hFl:fs.length≤1000000000) (hcap:∃ eb cap,vF= .slice eb fs.length cap∧fs.length≤cap∧cap<UNK) :
 ∃ l,EOk (EE l) Tryz.prog∧∃ v h' n',Cl (EE l) 3 [.agg ⟨[vP]⟩,.agg ⟨[.int .i64 qn,slV g]⟩,.agg ⟨[vN,vA,vQ,vU]⟩,.int .i64 proc,.int .i64 arg,vF] h n (.ret v h' n')∧v= .bool true:=by
 obtain⟨N,hN,bN,oN⟩:=rows2_of (α:=Edg) (P:=fun e=>FtOK e.1) dN rfl edges_of;obtain⟨A,hA,bA,_⟩:=rows2_of (α:=Lnk) (P:=fun _=>True) dA rfl links_of;obtain⟨Q,hQ,bQ1,bQ2,bQ3⟩:=rows3_of dQ rfl fun d=>by obtain⟨X,x1,x2,_⟩:=rows2_of (α:=Lnk) (P:=fun _=>True) d rfl links_of;exact⟨X,x1,x2⟩
 obtain⟨U,hU,bU,_⟩:=links_of dU;obtain⟨r37,q37,w37⟩:=row_of (f:=37) (Ty:=fun v=>∃ b,v= .bool b) (h:=h) (fun f:Ft=>[featV f]) (fs ++ N.flatten.map (·.1)) fun f hf'=>by
  have ho:FtOK f:=by
   rcases List.mem_append.1 hf' with h1|h1
   · exact hFo f h1
   · obtain⟨e,he,rfl⟩:=List.mem_map.1 h1;obtain⟨es,e1,e2⟩:=List.mem_flatten.1 he;exact oN es e1 e e2
  obtain⟨ct,a1,v,⟨_,_,_,_,a2⟩,a3⟩:=entry0 (Az.t37 _ (mcS ..)).2 rfl (ft_aok ho (h:=h) (N:=1));obtain⟨b,rfl⟩:=r_bool a2;exact⟨ct,_,⟨b,rfl⟩,a3 rfl,a1⟩
 obtain⟨ct7,a7,v7,⟨_,_,_,_,t7⟩,m7⟩:=entry1 (Az.t7 _ (mcS ..)).2 rfl (h:=h) (N:=rN+rA+rQ+rU+1) (vs:=[.agg ⟨[vN,vA,vQ,vU]⟩])
  (.cons (.agg (.cons (.sl (by omega) dN) (.cons (.sl (by omega) dA) (.cons (.sl (by omega) dQ) (.cons (.sl (by omega) dU) .nil))))) .nil)
 obtain⟨bl,rfl⟩:=r_bool t7;have m7:=m7 rfl
 let Good:Prop:=(∃ w,Az.D Az.Γ0 4400 h w (.sl 0) vP)∧∃ w,Az.D Az.Γ0 4400 h w (.sl 2) (slV g)
 have hgood:∃ (r39 r120:List (Ct×Value)) (ps:List PrRow) (e0:Int),(∀ e∈r39,MOk 39 e.1 e.2∧True)∧(∀ e∈r120,MOk 120 e.1 e.2∧∃ x,e.2= .int .i64 x) ∧
  (Good→ProcsR h vP ps∧ps.length≤1000000000∧findM h [.agg ⟨[vP]⟩,.agg ⟨[.int .i64 qn,slV g]⟩,.slice none 0 0] r39=some (.int .i64 e0)∧(∃ e∈r120,hitC h e.1 [slV g]=some [])∧∀ p∈ps,∀ c∈p.cls,(∃ e∈r120,hitC h e.1 [slV c.bd]=some [])∧CVal n (slV c.bd)):=by
  by_cases hG:Good
  · obtain⟨⟨w1,d1⟩,w2,d2⟩:=hG;obtain⟨w1,bw1,d1⟩:=D_norm d1;obtain⟨ps,p1,p2,p3⟩:=procs_of d1;obtain⟨ct39,a39,v39,⟨_,_,_,_,t39⟩,m39⟩:=entry0 (Az.t39 _ (mcS ..)).2 rfl (h:=h) (N:=w1+w2+1) (vs:=[.agg ⟨[vP]⟩,.agg ⟨[.int .i64 qn,slV g]⟩,.slice none 0 0])
     (.cons (.agg (.cons (.sl (by omega) d1) .nil)) (.cons (.agg (.cons (.int hqn.1 hqn.2) (.cons (.sl (by omega) d2) .nil))) (.cons (.sl (r:=0) (by omega) .nil) .nil)))
    obtain⟨e0,rfl⟩:=r_int t39;obtain⟨r120,q120,w120⟩:=row_of (f:=120) (Ty:=fun v=>∃ x,v= .int .i64 x) (h:=h) (fun s:SlT=>[slV s]) (g :: (ps.map (·.cls)).flatten.map (·.bd)) fun s hs=>by
     have hd:∃ w,Az.D Az.Γ0 4400 h w (.sl 2) (slV s):=by
      rcases List.mem_cons.1 hs with rfl|hs
      · exact⟨_,d2⟩
      · obtain⟨c,hc,rfl⟩:=List.mem_map.1 hs;obtain⟨cls,h1,h2⟩:=List.mem_flatten.1 hc;obtain⟨p,hp,rfl⟩:=List.mem_map.1 h1;obtain⟨u,_,hu⟩:=p3 p hp c h2;exact⟨u,hu⟩
     obtain⟨w,hd⟩:=hd;obtain⟨ct,a1,v,⟨_,_,_,_,a2⟩,a3⟩:=entry0 (Az.t120 _ (mcS ..)).2 rfl (h:=h) (N:=w+1) (vs:=[slV s]) (.cons (.sl (by omega) hd) .nil);obtain⟨x,rfl⟩:=r_int a2;exact⟨ct,_,⟨x,rfl⟩,a3 rfl,a1⟩
    refine⟨[(ct39,.int .i64 e0)],r120,ps,e0,fun e he=>?_,q120,fun _=>⟨p1,?_,?_,w120 g (mcS ..),fun p hp c hc=>⟨w120 c.bd (mcM _ (List.mem_map.2 ⟨c,List.mem_flatten.2 ⟨p.cls,List.mem_map.2 ⟨p,hp,rfl⟩,hc⟩,rfl⟩)),?_⟩⟩⟩
    · simp only[List.mem_cons,List.not_mem_nil,or_false] at he;subst he;exact⟨m39 rfl,trivial⟩
    · omega
    · simp only[findM,a39]
    · exact cval_row hcl (p1.2 p hp) hc _ (by simp)
  · exact⟨[],[],[],0,fun e he=>(by cases he),fun e he=>(by cases he),fun h=>absurd h hG⟩
 obtain⟨r39,r120,ps,e0,q39,q120,hgood⟩:=hgood
 let l:=L5 [(ct7,.bool bl)] r37 r39 r120
 have hl:MemoK l:=L5_ok _ _ _ _;have hK:EOk (EE l) Tryz.prog:=EE_ok fun f r hfr e he=>by
  simp only[l,List.mem_cons,List.not_mem_nil,or_false,Prod.mk.injEq] at hfr;rcases hfr with⟨rfl,rfl⟩|⟨rfl,rfl⟩|⟨rfl,rfl⟩|⟨rfl,rfl⟩|⟨rfl,rfl⟩
  · simp only[List.mem_cons,List.not_mem_nil,or_false] at he;subst he;exact sane_ok
  · simp only[List.mem_cons,List.not_mem_nil,or_false] at he;subst he;exact m7
  · exact(q37 e he).1
  · exact(q39 e he).1
  · exact(q120 e he).1
 let isF:Ft→Bool:=fun f=>match memoA (EE l) 37 [featV f] h with|some (.bool b)=>b|_=>false
 let eqs:SlT→Int:=fun s=>match memoA (EE l) 120 [slV s] h with|some (.int .i64 x)=>x|_=>0
 have hkF:∀ f,f∈fs ++ N.flatten.map (·.1)→Kn l 37 [featV f] (.bool (isF f)) h n:=fun f hf'=>by
  obtain⟨e,e1,e2⟩:=find_of (w37 f hf');obtain⟨_,b,hb'⟩:=q37 e e1;have hm:memoA (EE l) 37 [featV f] h=some (.bool b):=by rw[memo37 hg,e2,hb']
  have:isF f=b:=by simp only[isF,hm]
  rw[this];exact Kn.of hcl hn hg (CVal.feat f) hm
 have hkE:∀ s:SlT,CVal n (slV s)→(∃ e∈r120,hitC h e.1 [slV s]=some [])→Kn l 120 [slV s] (.int .i64 (eqs s)) h n:=fun s hs hr=>by
  obtain⟨e,e1,e2⟩:=find_of hr;obtain⟨_,b,hb'⟩:=q120 e e1;have hm:memoA (EE l) 120 [slV s] h=some (.int .i64 b):=by rw[memo120 hg,e2,hb']
  have:eqs s=b:=by simp only[eqs,hm]
  rw[this];exact Kn.of hcl hn hg (fun x hx=>by simp only[List.mem_cons,List.not_mem_nil,or_false] at hx;subst hx;exact hs) hm
 have kq:CVal n (.agg ⟨[.int .i64 qn,slV g]⟩):= .agg fun x hx=>by
  simp only[List.mem_cons,List.not_mem_nil,or_false] at hx;rcases hx with rfl|rfl
  · exact .int _ _
  · exact kg
 have kp:CVal n (.agg ⟨[vP]⟩):= .agg fun x hx=>by simp only[List.mem_cons,List.not_mem_nil,or_false] at hx;subst hx;exact kP
 refine⟨l,hK,law_cl hl (Good:=Good) (bl:=bl) (isF:=isF) (eqs:=eqs) (e0:=e0) (ps:=ps) (N:=N) (A:=A) (Q:=Q) (U:=U) hf (Kn.of hcl hn hg (fun x hx=>by cases hx) (memo5 hg)) ?_ (fun _=>?_) (fun G=>?_) hF (fun _ f hf'=>hkF f (List.mem_append_left _ hf')) hFl hcap hFo oN⟩
 · intro H M hM hFr hk;have ro:=ro_of_keep hf hk;obtain⟨bf,h',n',a1,a2,a3,a4,a5⟩:=few_cl hl (lim:=1100000) (by omega) (qn:=qn) hFr (dP.mono ro) (dg.mono ro);refine⟨bf,h',n',a1,a2,a3,a4,fun e=>?_⟩;obtain⟨⟨w1,d1⟩,w2,d2⟩:=a5 e;exact⟨⟨w1,D_back ro dP d1⟩,w2,D_back ro dg d2⟩
 · refine Kn.of hcl hn hg (fun x hx=>?_) ?_
   · simp only[List.mem_cons,List.not_mem_nil,or_false] at hx;subst hx;refine .agg fun x hx=>?_
     simp only[List.mem_cons,List.not_mem_nil,or_false] at hx;rcases hx with rfl|rfl|rfl|rfl<;>assumption
   · rw[memo7 hg];simp only[findM,a7]
 · obtain⟨g1,g2,g3,g4,g5⟩:=hgood G;have kg':∀ k,n≤k→BelV k (slV g):=fun k hk=>by
    obtain⟨b,l,c⟩:=g;cases kg with
    | nil=>trivial
    | sl hb=>exact Nat.lt_of_lt_of_le hb hk
   have ka:Kn l 39 [.agg ⟨[vP]⟩,.agg ⟨[.int .i64 qn,slV g]⟩,.slice none 0 0] (.int .i64 e0) h n:=Kn.of hcl hn hg (fun x hx=>by
    simp only[List.mem_cons,List.not_mem_nil,or_false] at hx;rcases hx with rfl|rfl|rfl
    · exact kp
    · exact kq
    · exact .nil _ _) (by rw[memo39 hg];exact g3)
   have b4:(allL N A Q U).length≤1000000000:=by simp only[allL,List.length_append,List.length_map];omega
   exact⟨g1,hN,hA,hQ,hU,fun p hp c hc=>hkE _ (g5 p hp c hc).2 (g5 p hp c hc).1,hkE _ kg g4,kg',fun es hes e he=>hkF _ (List.mem_append_right _ (List.mem_map.2 ⟨e,List.mem_flatten.2 ⟨es,hes,he⟩,rfl⟩)),ka,by omega,g2,fun X hX=>by have:=bQ3 X hX;omega,b4,by omega,by omega⟩
end Go.Sx
namespace Go.Sx
open Go.Proofs Go.Proofs.YtkcjinnlpmhopaaGreatDoor Go.ChangeShapes Go.WideShapes Go.RowKit
set_option maxRecDepth 100000
set_option maxHeartbeats 4000000
def EndW(W:World)(e:Ending)(W':World):Prop:=e= .returned (.bool true)∧W.heap.size≤W'.heap.size∧(∀ r,r<W.heap.size→W'.heap[r]? =W.heap[r]?)∧W'.os=W.os∧W'.output=W.output
def gh(W:World):Gh:={heap:=W.heap,own:=fun _=>False,ng:=1,oo:=Oo W}
def six:Array Value:=#[.string ⟨#[43]⟩,.string ⟨#[45]⟩,.string ⟨#[42]⟩,.string ⟨#[47]⟩,.string ⟨#[109,111,100]⟩,.string ⟨#[45]⟩]
def six':List Value:=[.string ⟨#[43]⟩,.string ⟨#[45]⟩,.string ⟨#[42]⟩,.string ⟨#[47]⟩,.string ⟨#[109,111,100]⟩,.string ⟨#[45]⟩]
noncomputable def h0:T Blk:=T.leaf.upd (some (.ro six')) 0
def r0:Ren:=fun b=>if b=0 then some ⟨0,0,6⟩ else none
theorem h0_get{b:Nat}{k:Blk}(h:h0.get b=some k):b=0∧k= .ro six':=by
 unfold h0 at h;rw[T.get_upd] at h;split at h
 · rename_i e;cases h;exact⟨e,rfl⟩
 · rw[T.get_leaf] at h;cases h
theorem h0_zero:h0.get 0=some (.ro six'):=T.gsE _ _ _
theorem six_str:∀ x∈six',∃ s,x=Value.string s:=fun x hx=>by simp only[six',List.mem_cons,List.not_mem_nil,or_false] at hx;rcases hx with rfl|rfl|rfl|rfl|rfl|rfl<;>exact⟨_,rfl⟩
theorem six_rel{ρ:Ren}{W:World}{e:TypeId}{fr:Nat×Nat}(hw:W.heap[0]? =some (.cells six e fr)):BRel ρ ⟨0,0,6⟩ (.ro six') W.heap[0]? :=by
 refine⟨six,e,fr,hw,by decide,by decide,fun i x hx=>⟨x,?_,?_⟩⟩
 · rw[Nat.zero_add,← Array.getElem?_toList];exact hx
 · obtain⟨s,rfl⟩:=six_str x (List.mem_of_getElem? hx);exact .string s
theorem gro_of{h:T Blk}(h1:h.get 0=some (.ro six')):groOK h gro0=true:=by simp only[groOK,gro0,h1,six'];rfl
theorem st0{W:World}{e:TypeId}{fr:Nat×Nat}(hw:W.heap[0]? =some (.cells six e fr)):St (gh W) r0 h0 1 W:=by
 refine⟨⟨fun c L k h1 h2=>?_,fun c c' L L' k k' hne h1 h1' h2 h2' hr=>?_,fun c L k h1 h2 hr=>?_,fun _ _ _=>rfl,nlR _,fun g hg=>?_,rfl⟩,fun c hc=>?_,fun c hc=>?_⟩
 · obtain⟨rfl,rfl⟩:=h0_get h2;simp[r0] at h1;subst h1;exact six_rel hw
 · obtain⟨rfl,rfl⟩:=h0_get h2;obtain⟨rfl,rfl⟩:=h0_get h2';exact absurd rfl hne
 · obtain⟨rfl,rfl⟩:=h0_get h2;cases hr
 · have:g=0:=by have:g<1:=hg;omega
   subst this;exact⟨6,rfl⟩
 · simp only[r0];rw[if_neg (by omega)]
 · cases hh:h0.get c with
   | none=>rfl
   | some k=>have:=(h0_get hh).1;omega
theorem clo0:CloH h0 1:=fun b k hb=>by obtain⟨_,rfl⟩:=h0_get hb;exact⟨six',rfl,fun x hx=>by obtain⟨s,rfl⟩:=six_str x hx;exact .str s⟩
theorem xglob{l:List (FuncId×List (Ct×Value))}:(EE l).glob=1:=by
 have:(EE []).glob=1:=by kernel_rfl
 exact this
theorem core{l:List (FuncId×List (Ct×Value))}(K:EOk (EE l) Tryz.prog){f:FuncId}{W:World}{ρ:Ren}{h:T Blk}{n:Nat}(S:St (gh W) ρ h n W){xs:List Value}{ys:Array Value}(hx:LRel ρ xs ys.toList){v:Value}{h':T Blk}{n':Nat}(hc:Cl (EE l) f xs h n (.ret v h' n'))(hv:v= .bool true) :
 Calls Tryz.prog f ys W (EndW W):=by
 subst hv;obtain⟨F,hF⟩:=hc;have hx:=callF_sim K (sx_sim K mixed0 F) f _ h n _ h' n' (hF F (nlR F)) (gh W) ρ ys W (Nat.le_of_eq xglob) S hx;refine(callsIn_wide.1 hx).mono fun e w' ⟨y,ρ',he,hy,st⟩=>?_
 subst he;cases hy;have ho:=st.st.wr.out;have ho1:w'.os=W.os:=congrArg Prod.fst ho;have ho2:w'.output=W.output:=congrArg Prod.snd ho;exact⟨rfl,st.st.wr.size,fun r hr=>st.st.wr.frame r hr id,ho1,ho2⟩
theorem rc_ok:∀ e q,(e,q)∈Az.rc0→∃ cts,nth Az.Γ0 q=some cts∧0<cts.length∧Tryz.prog.cellsOf e=cts.length∧∃ K,shp Tryz.prog Az.rc0 K e=some cts:=fun e q h=>by
 simp only[Az.rc0,List.mem_cons,List.not_mem_nil,or_false,Prod.mk.injEq] at h;rcases h with⟨rfl,rfl⟩|⟨rfl,rfl⟩|⟨rfl,rfl⟩|⟨rfl,rfl⟩|⟨rfl,rfl⟩|⟨rfl,rfl⟩|⟨rfl,rfl⟩|⟨rfl,rfl⟩|⟨rfl,rfl⟩|⟨rfl,rfl⟩|⟨rfl,rfl⟩|⟨rfl,rfl⟩|⟨rfl,rfl⟩|⟨rfl,rfl⟩ <;>
  exact⟨_,rfl,by decide,by kernel_rfl,6,by kernel_rfl⟩
theorem sh24:shp Tryz.prog Az.rc0 6 24=some [.sl 0]:=by kernel_rfl
theorem sh27:shp Tryz.prog Az.rc0 6 27=some [.int .i64,.sl 2]:=by kernel_rfl
theorem sh33:shp Tryz.prog Az.rc0 6 33=some [.sl 12,.sl 8,.sl 9,.sl 7]:=by kernel_rfl
theorem sh34:shp Tryz.prog Az.rc0 6 34=some [.sl 10]:=by kernel_rfl
theorem list1{α:Type}{l:List α}(h:1=l.length):∃ a,l=[a]:=by
 match l,h with
 | [a],_=>exact⟨a,rfl⟩
theorem list2{α:Type}{l:List α}(h:2=l.length):∃ a b,l=[a,b]:=by
 match l,h with
 | [a,b],_=>exact⟨a,b,rfl⟩
theorem list4{α:Type}{l:List α}(h:4=l.length):∃ a b c d,l=[a,b,c,d]:=by
 match l,h with
 | [a,b,c,d],_=>exact⟨a,b,c,d,rfl⟩
theorem list8{α:Type}{l:List α}(h:l.length=8):∃ a b c d e f g i,l=[a,b,c,d,e,f,g,i]:=by
 match l,h with
 | [a,b,c,d,e,f,g,i],_=>exact⟨a,b,c,d,e,f,g,i,rfl⟩
theorem parts_calls{H:Type}{enc:TypeId×Value→H}{W:World}{base:Nat}{args:Array Value}{ds:List (DataW H)}{ps:List MemPlace}
 (hval:∀ (j:Nat) t v,(#[24,27,33,3,3,34]:Array TypeId)[j]? =some t→args[j]? =some v→Value.okWide Tryz.prog W .any base t v)
 (hA:DataW.TrodAll enc Tryz.prog W 0 (fun _=>true) true [24,27,33,3,3,34] args.toList ds ps) (hk:Rows.uptoBulkAll ds≤1048576) {e:TypeId} {fr:Nat×Nat} (hw:W.heap[0]? =some (.cells six e fr)):Calls Tryz.prog 3 args W (EndW W):=by
 obtain⟨v0,vs0,d0,ds0,p0,q0,hargs,rfl,rfl,t0,s0⟩:=trodAll_cons hA;obtain⟨v1,vs1,d1,ds1,p1,q1,rfl,rfl,rfl,t1,s1⟩:=trodAll_cons s0;obtain⟨v2,vs2,d2,ds2,p2,q2,rfl,rfl,rfl,t2,s2⟩:=trodAll_cons s1;obtain⟨v3,vs3,d3,ds3,p3,q3,rfl,rfl,rfl,t3,s3⟩:=trodAll_cons s2;obtain⟨v4,vs4,d4,ds4,p4,q4,rfl,rfl,rfl,t4,s4⟩:=trodAll_cons s3;obtain⟨v5,vs5,d5,ds5,p5,q5,rfl,rfl,rfl,t5,s5⟩:=trodAll_cons s4;obtain⟨rfl,rfl,rfl⟩:=trodAll_nil s5;obtain rfl:args=#[v0,v1,v2,v3,v4,v5]:=by cases args;simp_all
 have o0:=hval 0 24 v0 rfl rfl;have o1:=hval 1 27 v1 rfl rfl;have o2:=hval 2 33 v2 rfl rfl;have o5:=hval 5 34 v5 rfl rfl;simp only[Value.okWide,Tryz.underlying24] at o0;simp only[Value.okWide,Tryz.underlying27] at o1;simp only[Value.okWide,Tryz.underlying33] at o2;obtain⟨c0,rfl,_⟩:=o0;obtain⟨c1,rfl,_⟩:=o1;obtain⟨c2,rfl,_⟩:=o2;obtain⟨pr,rfl,rfl,rfl,_⟩:=open_int Tryz.underlying3 (hval 3 3 v3 rfl rfl) t3;obtain⟨ag,rfl,rfl,rfl,_⟩:=open_int Tryz.underlying3 (hval 4 3 v4 rfl rfl) t4;simp only[Rows.uptoBulkAll] at hk;obtain⟨f0,t0⟩:=t0;obtain⟨f1,t1⟩:=t1;obtain⟨f2,t2⟩:=t2;obtain⟨f5,t5⟩:=t5;have L0:=lay_trod (G:=gh W) (lim:=1100000) rfl rc_ok (by omega) f0 6 24 _ _ _ t0 sh24 (by show Rows.uptoBulk d0≤_;omega);have L1:=lay_trod (G:=gh W) (lim:=1100000) rfl rc_ok (by omega) f1 6 27 _ _ _ t1 sh27 (by show Rows.uptoBulk d1≤_;omega)
 have L2:=lay_trod (G:=gh W) (lim:=1100000) rfl rc_ok (by omega) f2 6 33 _ _ _ t2 sh33 (by show Rows.uptoBulk d2≤_;omega);have L5:=lay_trod (G:=gh W) (lim:=1100000) rfl rc_ok (by omega) f5 6 34 _ _ _ t5 sh34 (by show Rows.uptoBulk d5≤_;omega);obtain⟨x0,e0⟩:=list1 L0.1;obtain⟨x1,x2,e1⟩:=list2 L1.1;obtain⟨x3,x4,x5,x6,e2⟩:=list4 L2.1;have e0:c0=#[x0]:=by cases c0;exact congrArg Array.mk e0
 have e1:c1=#[x1,x2]:=by cases c1;exact congrArg Array.mk e1
 have e2:c2=#[x3,x4,x5,x6]:=by cases c2;exact congrArg Array.mk e2
 subst e0;subst e1;subst e2;have ev5:v5.cells.toList=[v5]∧((v5= .slice none 0 0)∨∃ a len cap,v5= .slice (some a) len cap∧len≤cap∧cap<UNK):=by
  obtain⟨a,len,cap,rfl⟩:=okWide_slice Tryz.underlying34 o5;refine⟨rfl,?_⟩;have t5':DataW.trod enc Tryz.prog W 0 (fun _=>true) true f5 34 [.slice a len cap]=some (d5,p5):=t5;rcases DataW.trod_slice Tryz.underlying34 t5' with⟨h1,_⟩|⟨a',len',cap',_,_,_,_,h1,_,_,h4,h5,_⟩
  · have:Value.slice a len cap= .slice none 0 0:=by simpa using h1
    exact .inl this
  · have h1:Value.slice a len cap= .slice (some a') len' cap':=by simpa using h1
    cases h1;exact .inr ⟨_,_,_,rfl,h4,by unfold maxLen at h5;unfold UNK;omega⟩
 rw[ev5.1] at L5;have L:=((L0.app L1).app L2).app L5;obtain⟨az,ρ,h,n,a1,a2,a3,a4,a5,a6,⟨g,a7,a8⟩,a9,aS⟩:=L.2 r0 h0 1 ⟨0,0,6⟩ six' (st0 hw) clo0 rfl h0_zero;obtain⟨y0,y1,y2,y3,y4,y5,y6,y7,rfl⟩:=list8 a6.1;have hgro:groOK h gro0=true:=gro_of (by rw[a3 0 (by omega)];exact h0_zero);have hw8:g 0+g 1+g 2+g 3+g 4+g 5+g 6+g 7≤1048576:=by have e:Az.sumF g 8=0+g 0+g 1+g 2+g 3+g 4+g 5+g 6+g 7:=rfl;have a7:Az.sumF g 8≤(Rows.uptoBulk d0-1)+(Rows.uptoBulk d1-1)+(Rows.uptoBulk d2-1)+(Rows.uptoBulk d5-1):=a7;omega
 have D0:=a8 0 _ _ rfl rfl;have D1:=a8 1 _ _ rfl rfl;have D2:=a8 2 _ _ rfl rfl;have D3:=a8 3 _ _ rfl rfl;have D4:=a8 4 _ _ rfl rfl;have D5:=a8 5 _ _ rfl rfl;have D6:=a8 6 _ _ rfl rfl;have D7:=a8 7 _ _ rfl rfl;obtain⟨qn,rfl,hqn⟩:=D_int D1;obtain⟨gs,rfl⟩:=D_sl D2;obtain⟨fs,F1,F2,F3⟩:=feats_of D7;have rel:∀ {ρ':Ren} {yF:Value},Ext ρ ρ'→VRel ρ' yF v5→LRel ρ' [.agg ⟨[y0]⟩,.agg ⟨[.int .i64 qn,slV gs]⟩,.agg ⟨[y3,y4,y5,y6]⟩,.int .i64 pr,.int .i64 ag,yF] [.agg #[x0],.agg #[x1,x2],.agg #[x3,x4,x5,x6],.int .i64 pr,.int .i64 ag,v5]:=fun {ρ' yF} ext hF=>by
  have r0:=(a6.2 0 _ _ rfl rfl).mono ext;have r1:=(a6.2 1 _ _ rfl rfl).mono ext;have r2:=(a6.2 2 _ _ rfl rfl).mono ext;have r3:=(a6.2 3 _ _ rfl rfl).mono ext;have r4:=(a6.2 4 _ _ rfl rfl).mono ext;have r5:=(a6.2 5 _ _ rfl rfl).mono ext;have r6:=(a6.2 6 _ _ rfl rfl).mono ext;have g0:LRel ρ' [y0] [x0]:= .cons r0 (.nil _);have g1:LRel ρ' [.int .i64 qn,slV gs] [x1,x2]:= .cons r1 (.cons r2 (.nil _));have g2:LRel ρ' [y3,y4,y5,y6] [x3,x4,x5,x6]:= .cons r3 (.cons r4 (.cons r5 (.cons r6 (.nil _))));exact .cons (.agg g0.1 g0.2) (.cons (.agg g1.1 g1.2) (.cons (.agg g2.1 g2.2) (.cons (.int _ _) (.cons (.int _ _) (.cons hF (.nil _))))))
 have kv:∀ x∈ [y0,.int .i64 qn,slV gs,y3,y4,y5,y6,y7],CVal n x:=a9;have law:=fun {h':T Blk} {n':Nat} {yF:Value} {fs:List Ft} (S:St (gh W) ρ h n W) (hf:Fresh h' n') (hcl:CloH h' n') (hkeep:Keep n h h') (hn:n≤n') (hF:RowsS 3 featL h' yF fs) (hFo:∀ f∈fs,FtOK f) (hFl:fs.length≤1000000000) (hcap:∃ eb cap,yF= .slice eb fs.length cap∧fs.length≤cap∧cap<UNK) =>
  have ro:=ro_of_keep S.hb hkeep
  parts_law (h:=h') (n:=n') (proc:=pr) (arg:=ag) hf hcl (groOK_keep hkeep a5 hgro) (Nat.le_trans a5 hn) hqn (D0.mono ro) (D2.mono ro) (D3.mono ro) (D4.mono ro) (D5.mono ro) (D6.mono ro)
   ((kv _ (by simp)).mono hn) ((kv _ (by simp)).mono hn) ((kv y3 (by simp)).mono hn) ((kv y4 (by simp)).mono hn) ((kv y5 (by simp)).mono hn) ((kv y6 (by simp)).mono hn) ⟨by omega,by omega,by omega,by omega⟩ hF hFo hFl hcap
 by_cases hz:∃ a,v5= .slice (some a) 0 0
 ·
  obtain⟨a,rfl⟩:=hz;simp only[Value.okWide,Tryz.underlying34,Cell.okWide,Cell.ok] at o5;obtain⟨_,_,_,hsp,row,cells,hsh,_⟩:=o5;obtain⟨b,o,sp⟩:=a;simp only at hsp;subst hsp;have hblk:∃ c e fr,W.heap[b]? =some (.cells c e fr):=by
   unfold World.shape? at hsh;split at hsh
   · rename_i hh;exact⟨_,_,_,hh⟩
   · cases hsh
  obtain⟨c,et,fr',hb⟩:=hblk;have hcr:CellsRel ρ [] ⟨b,0,c.size⟩ c:=⟨Nat.zero_le _,nlR _,fun i x hx=>by simp at hx⟩
  have S2:=St.ro a1 a2 hb hcr fun g hg=>by have:g<1:=hg;omega
  have hext:=Ext.add (⟨b,0,c.size⟩:Pl) (a1.fr n (nlR _));obtain⟨l,K,v,h',n',c1,c2⟩:=law (h':=h.upd (some (.ro [])) n) (n':=n+1) (yF:= .slice (some ⟨n,o,none⟩) 0 0) (fs:=[]) a1 S2.hb (fun q k hk=>by
   rw[T.get_upd] at hk;split at hk
   · cases hk;exact⟨[],rfl,fun x hx=>by cases hx⟩
   · obtain⟨cs,e1,e2⟩:=a2 q k hk;exact⟨cs,e1,fun x hx=>(e2 x hx).mono (Nat.le_succ _)⟩) (fun q hq=>T.gnE _ _ (by omega)) (Nat.le_succ _)
   ⟨some ⟨n,o,none⟩,0,rfl,fun a ha=>by cases ha;exact⟨rfl,[],cells_ro (T.gsE _ _ _)⟩,fun i x hi=>by simp at hi⟩ (fun f hf=>by cases hf) (Nat.zero_le _) ⟨_,_,rfl,nlR _,by decide⟩
  refine core K S2 (rel hext ?_) c1 c2;have:VRel (ρ.add n ⟨b,0,c.size⟩) (.slice (some ⟨n,o,none⟩) 0 0) (.slice (some ⟨b,0+o,none⟩) 0 0):= .slice _ _ (Ren.add_same _ _ _) (by decide);rw[Nat.zero_add] at this;exact this
 · have r7:VRel ρ y7 v5:=a6.2 7 _ _ rfl rfl;obtain⟨l,K,v,h',n',c1,c2⟩:=law (h':=h) (n':=n) (yF:=y7) (fs:=fs) a1 a1.hb a2 (Keep.refl n h) (nlR _) F1 F3 (by omega) (by
    rcases ev5.2 with rfl|⟨a,len,cap,rfl,h1,h2⟩
    · cases r7;obtain⟨eb,c,e1,_⟩:=F1;have e2:=Value.slice.inj e1;exact⟨none,0,by rw[←e2.2.1],by rw[←e2.2.1];exact nlR _,by decide⟩
    · have hc0:0<cap:=by
       rcases Nat.eq_zero_or_pos cap with h0|h0
       · subst h0;have:len=0:=by omega
         subst this;exact absurd ⟨a,rfl⟩ hz
       · exact h0
      obtain⟨b,hb⟩:=aS 7 _ _ _ rfl hc0;have hb:y7= .slice b len cap:=by simpa using hb
      obtain⟨eb,c,e1,_⟩:=F1;rw[hb] at e1;have e2:=Value.slice.inj e1;exact⟨b,cap,by rw[hb,← e2.2.1],by rw[←e2.2.1];exact h1,h2⟩)
   exact core K a1 (rel (.refl ρ) r7) c1 c2
end Go.Sx
namespace Go.Sx
open Go.Proofs Go.Proofs.YtkcjinnlpmhopaaGreatDoor Go.ChangeShapes Go.WideShapes Go.ChangeAt Go.RowKit
set_option maxRecDepth 100000
theorem own0:ownKnob Tryz.prog.godebug=none:=by kernel_rfl
theorem laid0:laidOutB Tryz.prog=true:=by kernel_rfl
theorem cells9:Tryz.prog.cellsOf 9=1:=by kernel_rfl
theorem glob_calc:Tryz.prog.globalNamed "riparian/prog.calculations" =some 0:=by kernel_rfl
theorem glob_type:(Tryz.prog.globals[0]?).map (·.type)=some 330:=by kernel_rfl
noncomputable def laidW(os:Os):World :=
 let w0:=World.holding Tryz.prog os ⟨#[],#[],[]⟩
 {w0 with heap:=w0.heap.modify 0 fun
   | .cells _ t frozen=> .cells six t frozen
   | o=>o}
theorem str_of{s:ByteArray}{bs:List UInt8}(h:s.data.toList=bs):s=⟨⟨bs⟩⟩:=by
 cases s with
 | mk d=>cases d;simp at h;subst h;rfl
theorem six_of_laid{W:World}(h:laidMetH Tryz.prog [("riparian/prog.calculations",Rows.laid_riparian_prog_calculations)] W):∃ e fr,W.heap[0]? =some (.cells six e fr):=by
 have h':laidMet Tryz.prog [("riparian/prog.calculations",Rows.laid_riparian_prog_calculations)] W:=h;obtain⟨ps,⟨g,t,cs,fuel,p,q,h1,h2,h3,h4,_,_⟩,_,_⟩:=h';rw[glob_calc] at h1;cases h1;rw[glob_type] at h2;cases h2;have hh:∃ e fr,W.heap[0]? =some (.cells cs e fr):=by
  unfold World.var? at h3;rw[glob_calc] at h3;simp only[Option.bind_some] at h3;split at h3
  · rename_i hx;cases h3;exact⟨_,_,hx⟩
  · cases h3
 obtain⟨e,fr,hh⟩:=hh;refine⟨e,fr,?_⟩;obtain⟨xs,m,_,hx,hl,hn,hi⟩:=DataW.trod_array Tryz.underlying330 h4;have hl6:cs.toList.length=6:=hl.trans (by kernel_rfl);have hxs:xs.map (·.1)=[.lit (.string [43]),.lit (.string [45]),.lit (.string [42]),.lit (.string [47]),.lit (.string [109,111,100]),.lit (.string [45])]:=by have:=congrArg Prod.fst hx;simpa [Rows.laid_riparian_prog_calculations] using this.symm
 have one:∀ (i:Nat) (bs:List UInt8),i<6→(xs.map (·.1))[i]? =some (.lit (.string bs))→cs.toList[i]? =some (.string ⟨⟨bs⟩⟩):=by
  intro i bs hi6 hb;have h5:=hi i hi6;rw[cells9,Nat.mul_one] at h5;cases hxi:xs[i]? with
  | none=>rw[List.getElem?_map,hxi] at hb;cases hb
  | some y =>
    rw[List.getElem?_map,hxi] at hb;rw[hxi] at h5;obtain⟨s,hs1,hs2,_⟩:=DataW.trod_string Tryz.underlying9 h5;have h6:y.1= .lit (.string bs):=by simpa using hb
    rw[hs2] at h6;have h7:s.data.toList=bs:=by simpa using h6
    rw[str_of h7] at hs1;have:=congrArg (fun l:List Value=>l[0]?) hs1;simpa using this
 have e6:cs=six:=by
  apply Array.ext';apply List.ext_getElem?;intro i;by_cases hi6:i<6
  · rw[hxs] at one
    match i,hi6 with
    | 0,h=>exact one 0 _ h rfl
    | 1,h=>exact one 1 _ h rfl
    | 2,h=>exact one 2 _ h rfl
    | 3,h=>exact one 3 _ h rfl
    | 4,h=>exact one 4 _ h rfl
    | 5,h=>exact one 5 _ h rfl
  · rw[List.getElem?_eq_none_iff.2 (by omega),List.getElem?_eq_none_iff.2 (by show 6≤i;omega)]
 rw[←e6];exact hh
theorem stays_all{H:Type}{enc:TypeId×Value→H}{W W':World}{sp:Nat→Bool}:∀ {ts:List TypeId}{vs:List Value}{ds:List (DataW H)}{ps:List MemPlace},DataW.TrodAll enc Tryz.prog W 0 (fun _=>true) true ts vs ds ps →
 (∀ t∈ts,Tryz.prog.readableRec t=true∧t<Tryz.prog.types.size)→(∀ p∈ps,W.sameAt W' p)→(∀ p∈ps,sp p.block=true)→DataW.TrodAll enc Tryz.prog W' 0 sp true ts vs ds ps
 | [],vs,ds,ps,h,_,_,_=>by obtain⟨rfl,rfl,rfl⟩:=trodAll_nil h;rfl
 | t :: ts,vs,ds,ps,h,hr,hs,hp=>by obtain⟨v,vs,d,ds,p,q,rfl,rfl,rfl,h1,h2⟩:=trodAll_cons h;refine⟨p,q,Go.WideElems.Trod_stays laid0 (hr t (mcS ..)).1 (hr t (mcS ..)).2 h1 (fun x hx=>hs x (List.mem_append_left _ hx)) (fun x hx=>hp x (List.mem_append_left _ hx)),?_,rfl⟩;exact stays_all h2 (fun t ht=>hr t (mcM _ ht)) (fun x hx=>hs x (List.mem_append_right _ hx)) (fun x hx=>hp x (List.mem_append_right _ hx))
theorem law_post{H:Type}{enc:TypeId×Value→H}{fn:Func}{s:ChangeSpec}{ts:List TypeId}(hp:fn.params.toList=ts)(hr:fn.resultTypes=#[4])(hs:s.vars=[])(hts:∀ t∈ts,Tryz.prog.readableRec t=true∧t<Tryz.prog.types.size){f:FuncId}
 {W:World} {args:Array Value} {ds gs:List (DataW H)} {before:List MemPlace} (hfn:gs=[]→s.fn H (ds ++ gs)={results:=[.lit (.bool true)],args:=ds})
 (hW:DataW.Whole enc Tryz.prog fn.params.toList s.vars false W args.toList ds gs before) (hc:DataW.TrodAll enc Tryz.prog W 0 (fun _=>true) true ts args.toList ds before→gs=[]→Calls Tryz.prog f args W (EndW W)) :
 Calls Tryz.prog f args W fun e W'=>∃ v,e= .returned v∧s.post enc Tryz.prog fn false true false false W args v W':=by
 have hW':=hW;obtain⟨p,q,hA,hV,rfl,hfz,hnd⟩:=hW;rw[hp] at hA;rw[hs] at hV;obtain⟨rfl,rfl⟩:=trodVars_none hV;rw[List.append_nil] at hW' hc;refine(hc hA rfl).mono fun e W' ⟨he,hsz,hfrm,hos,hout⟩=>?_
 subst he;have hlt:∀ x∈p,x.block<W.heap.size:=fun x hx=>hW'.lt x hx
 have same:∀ x∈p,W.sameAt W' x:=fun x hx=>by
  have:=hlt x hx;cases x with
  | cell b off=>simp only[World.sameAt,World.cell?];rw[hfrm b this]
  | map b=>exact hfrm b this
 have e1:=hfn rfl;refine⟨_,rfl,_,_,_,[],p,[],hW',?_,?_,?_,?_,fun h=>by cases h⟩
 · rw[e1,hr];exact trodAll_mk1 (shut_bool Tryz.underlying4 true)
 · rw[e1,hp];exact stays_all hA hts same (fun x hx=>by simpa using hlt x hx)
 · rw[e1,hs];rfl
 · refine⟨hos,hout,fun i hi=>?_⟩;rw[hfrm i hi];cases hb:W.heap[i]? with
   | none=>rfl
   | some o=>cases o<;>first|exact⟨rfl,rfl,rfl,fun _ _=>rfl⟩|exact .inr ⟨rfl,rfl⟩|rfl
theorem parts_types:∀ t∈ [24,27,33,3,3,34],Tryz.prog.readableRec t=true∧t<Tryz.prog.types.size:=by
 have key:[24,27,33,3,3,34].all (fun t=>Tryz.prog.readableRec t&&decide (t<Tryz.prog.types.size))=true:=by kernel_rfl
 intro t ht;have:=List.all_eq_true.1 key t ht;simpa using this
end Go.Sx
