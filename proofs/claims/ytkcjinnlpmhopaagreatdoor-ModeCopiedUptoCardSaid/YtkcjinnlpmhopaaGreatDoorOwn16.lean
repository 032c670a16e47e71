/- RqD: the law ModeParts on laid data: known calls, and the law. -/
import Derived.Test.YtkcjinnlpmhopaaGreatDoorOwn15
import Derived.ProofKit
import Derived.LaidLaws
import Derived.OpenShut
import Derived.Handed
import Derived.Test.YtkcjinnlpmhopaaGreatDoorTie
import Derived.Test.YtkcjinnlpmhopaaGreatDoorCards
import Derived.Deep.DeepHandedRow
namespace Go.Sx
open Go.Proofs
set_option maxRecDepth 100000
set_option maxHeartbeats 4000000
theorem find_of{h:T Blk}{args:List Value}:∀ {row:List (Ct×Value)},(∃ e∈row,hitC h e.1 args=some [])→∃ e∈row,findM h args row=some e.2
 | [],⟨e,he,_⟩=>by cases he
 | x :: row,⟨e,he,hh⟩=>by
   by_cases hx:hitC h x.1 args=some []
   ·exact⟨x,mcS ..,by simp only[findM,hx]⟩
   ·obtain⟨e',h1,h2⟩:=find_of (row:=row) ⟨e,by
     rcases List.mem_cons.1 he with rfl|he
     ·exact absurd hh hx
     ·exact he,hh⟩
    refine⟨e',mcM _ h1,?_⟩;rw[←h2];simp only[findM]
abbrev MOk(f:FuncId)(ct:Ct)(v:Value):Prop:=MemoOk Tryz.prog Tryz.prog.globals.size gro0 f ct v
theorem row_of{β:Type}{f:FuncId}{Ty:Value→Prop}{h:T Blk}(args:β→List Value):∀ (xs:List β),(∀ x∈xs,∃ ct v,Ty v∧MOk f ct v∧hitC h ct (args x)=some []) →
 ∃ row:List (Ct×Value),(∀ e∈row,MOk f e.1 e.2∧Ty e.2)∧∀ x∈xs,∃ e∈row,hitC h e.1 (args x)=some []
 | [],_=>⟨[],fun e he=>(by cases he),fun x hx=>(by cases hx)⟩
 | x :: xs,h1=>by
   obtain⟨row,r1,r2⟩:=row_of args xs fun y hy=>h1 y (mcM _ hy)
   obtain⟨ct,v,a1,a2,a3⟩:=h1 x (mcS ..);refine⟨(ct,v) :: row,fun e he=>?_,fun y hy=>?_⟩
   ·rcases List.mem_cons.1 he with rfl|he
    ·exact⟨a2,a1⟩
    ·exact r1 e he
   ·rcases List.mem_cons.1 hy with rfl|hy
    ·exact⟨_,mcS ..,a3⟩
    ·obtain⟨e,e1,e2⟩:=r2 y hy;exact⟨e,mcM _ e1,e2⟩
theorem EE0_ok:EOk (EE []) Tryz.prog:=EE_ok fun f r h=>by cases h
theorem C0_ok:EOk Az.C0.E Tryz.prog:=EE0_ok
theorem glob1000:Tryz.prog.globals.size≤1000:=by have:=glob0;rw[bleT] at this;exact this
theorem entry0{sp:Az.Spec}(hs:∀ N,Az.SpecAt Az.C0 N sp)(hd:sp.args.all (Az.dataA 4)=true){h:T Blk}{N:Nat}{vs:List Value}(ha:Az.AOkL Az.C0 h N sp.args vs) :
 ∃ ct,hitC h ct vs=some []∧∃ v,(∃ h' n m bs,Az.ROk Az.C0 h' m n sp.res v bs)∧(lit 6 v=true→MOk sp.f ct v):=by
 obtain⟨ct,_,h2,v,h3,h4⟩:=Az.memo_spec C0_ok mixed0 glob1000 gro0_ok (by show(gro0.map (·.1)).Nodup;decide) hs hd ha;exact⟨ct,h2,v,h3,h4⟩
theorem r_int{C:Az.Cfg}{h:T Blk}{m n:Nat}{v:Value}{bs:List Nat}(r:Az.ROk C h m n (.int .i64) v bs):∃ x,v= .int .i64 x:=by
 cases r with
 | int=>exact⟨_,rfl⟩
theorem r_bool{C:Az.Cfg}{h:T Blk}{m n:Nat}{v:Value}{bs:List Nat}(r:Az.ROk C h m n .bool v bs):∃ x,v= .bool x:=by
 cases r with
 | bool=>exact⟨_,rfl⟩
section
variable {r7 r37 r39 r120:List (Ct×Value)}{h:T Blk}{n:Nat}(hg:groOK h gro0=true)
include hg
theorem memo_at{f:FuncId}{args:List Value}{l:List (FuncId×List (Ct×Value))}{row:List (Ct×Value)}(hr:(memoT l).get f=some row):memoA (EE l) f args h=findM h args row:=by have e1:(EE l).memo.get f=some row:=hr;have e2:(EE l).gro=gro0:=rfl;simp only[memoA,e1,e2,hg,_root_.cond_true]
end
theorem ft_aok{f:Ft}(ho:FtOK f){h:T Blk}{N:Nat}:Az.AOkL Az.C0 h N Az.s37.args [featV f] :=
 .cons (.agg (.cons (.str ho.1) (.cons (.int ho.2.1.1 ho.2.1.2) (.cons (.int ho.2.2.1 ho.2.2.2) .nil)))) .nil
theorem CVal.feat{n:Nat}(f:Ft):∀ x∈ [featV f],CVal n x:=fun x hx=>by
 simp only[List.mem_cons,List.not_mem_nil,or_false] at hx;subst hx;refine .agg fun y hy=>?_
 simp only[List.mem_cons,List.not_mem_nil,or_false] at hy;rcases hy with rfl|rfl|rfl
 ·exact .str _
 ·exact .int _ _
 ·exact .int _ _
theorem D_norm{Γ:List (List Az.CT)}{lim:Nat}{h:T Blk}{r q:Nat}{v:Value}(hd:Az.D Γ lim h r (.sl q) v):∃ r',r'≤lim∧Az.D Γ lim h r' (.sl q) v:=by
 cases hd with
 | nil=>exact⟨0,Nat.zero_le _,.nil⟩
 | sl f hb hq hp ho hs hl hc=>exact⟨_,hl,.sl f hb hq hp ho hs hl hc⟩
theorem cval_row{α:Type}{k:Nat}{enc:α→List Value}{h:T Blk}{n:Nat}{v:Value}{xs:List α}(hcl:CloH h n)(r:RowsS k enc h v xs){x:α}(hx:x∈xs):∀ y∈enc x,CVal n y:=by
 obtain⟨eb,c,rfl,_,h2⟩:=r;obtain⟨i,hi⟩:=List.getElem?_of_mem hx;obtain⟨b,o,cs,_,h3,h4⟩:=h2 i x hi;intro y hy;obtain⟨j,hj⟩:=List.getElem?_of_mem hy;have hlt:=(gsI hj).1;rw[(seg_some h4).1] at hlt;have:=((seg_some h4).2 j hlt).1;rw[hj] at this;have hm:=List.mem_of_getElem? this.symm;unfold cellsOf at h3;split at h3
 ·rename_i hb;obtain⟨_,e,_⟩:=hcl b _ hb;cases e
 ·rename_i hb;obtain⟨cs',e,e2⟩:=hcl b _ hb;cases e;cases h3;exact e2 y hm
 ·cases h3
end Go.Sx
namespace Go.Sx
open Go.Proofs Go.Proofs.YtkcjinnlpmhopaaGreatDoor Go.ChangeShapes Go.WideShapes Go.RowKit
set_option maxRecDepth 100000
set_option maxHeartbeats 4000000
def EndW(W:World)(e:Ending)(W':World):Prop:=e= .returned (.bool true)∧W.heap.size≤W'.heap.size∧(∀ r,r<W.heap.size→W'.heap[r]? =W.heap[r]?)∧W'.os=W.os∧W'.output=W.output
def gh(W:World):Gh:={heap:=W.heap,own:=fun _=>False,ng:=1,oo:=Oo W}
def six:Array Value:=#[.string ⟨#[43]⟩,.string ⟨#[45]⟩,.string ⟨#[42]⟩,.string ⟨#[47]⟩,.string ⟨#[109,111,100]⟩,.string ⟨#[45]⟩]
def six':List Value:=[.string ⟨#[43]⟩,.string ⟨#[45]⟩,.string ⟨#[42]⟩,.string ⟨#[47]⟩,.string ⟨#[109,111,100]⟩,.string ⟨#[45]⟩]
noncomputable def h0:T Blk:=T.leaf.upd (some (.ro six')) 0
def r0:Ren:=fun b=>if b=0 then some ⟨0,0,6⟩ else none
theorem h0_get{b:Nat}{k:Blk}(h:h0.get b=some k):b=0∧k= .ro six':=by
 unfold h0 at h;rw[T.get_upd] at h;split at h
 ·rename_i e;cases h;exact⟨e,rfl⟩
 ·rw[T.get_leaf] at h;cases h
theorem h0_zero:h0.get 0=some (.ro six'):=T.gsE _ _ _
theorem six_str:∀ x∈six',∃ s,x=Value.string s:=fun x hx=>by simp only[six',List.mem_cons,List.not_mem_nil,or_false] at hx;rcases hx with rfl|rfl|rfl|rfl|rfl|rfl<;>exact⟨_,rfl⟩
theorem six_rel{ρ:Ren}{W:World}{e:TypeId}{fr:Nat×Nat}(hw:W.heap[0]? =some (.cells six e fr)):BRel ρ ⟨0,0,6⟩ (.ro six') W.heap[0]? :=by
 refine⟨six,e,fr,hw,by decide,by decide,fun i x hx=>⟨x,?_,?_⟩⟩
 ·rw[Nat.zero_add,← Array.getElem?_toList];exact hx
 ·obtain⟨s,rfl⟩:=six_str x (List.mem_of_getElem? hx);exact .string s
theorem gro_of{h:T Blk}(h1:h.get 0=some (.ro six')):groOK h gro0=true:=by simp only[groOK,gro0,h1,six'];rfl
theorem st0{W:World}{e:TypeId}{fr:Nat×Nat}(hw:W.heap[0]? =some (.cells six e fr)):St (gh W) r0 h0 1 W:=by
 refine⟨⟨fun c L k h1 h2=>?_,fun c c' L L' k k' hne h1 h1' h2 h2' hr=>?_,fun c L k h1 h2 hr=>?_,fun _ _ _=>rfl,nlR _,fun g hg=>?_,rfl⟩,fun c hc=>?_,fun c hc=>?_⟩
 ·obtain⟨rfl,rfl⟩:=h0_get h2;simp[r0] at h1;subst h1;exact six_rel hw
 ·obtain⟨rfl,rfl⟩:=h0_get h2;obtain⟨rfl,rfl⟩:=h0_get h2';exact absurd rfl hne
 ·obtain⟨rfl,rfl⟩:=h0_get h2;cases hr
 ·have:g=0:=by have:g<1:=hg;omega
  subst this;exact⟨6,rfl⟩
 ·simp only[r0];rw[if_neg (by omega)]
 ·cases hh:h0.get c with
  | none=>rfl
  | some k=>have:=(h0_get hh).1;omega
theorem clo0:CloH h0 1:=fun b k hb=>by obtain⟨_,rfl⟩:=h0_get hb;exact⟨six',rfl,fun x hx=>by obtain⟨s,rfl⟩:=six_str x hx;exact .str s⟩
theorem xglob{l:List (FuncId×List (Ct×Value))}:(EE l).glob=1:=by
 have:(EE []).glob=1:=by kernel_rfl
 exact this
theorem core{l:List (FuncId×List (Ct×Value))}(K:EOk (EE l) Tryz.prog){f:FuncId}{W:World}{ρ:Ren}{h:T Blk}{n:Nat}(S:St (gh W) ρ h n W){xs:List Value}{ys:Array Value}(hx:LRel ρ xs ys.toList){v:Value}{h':T Blk}{n':Nat}(hc:Cl (EE l) f xs h n (.ret v h' n'))(hv:v= .bool true) :
 Calls Tryz.prog f ys W (EndW W):=by
 subst hv;obtain⟨F,hF⟩:=hc;have hx:=callF_sim K (sx_sim K mixed0 F) f _ h n _ h' n' (hF F (nlR F)) (gh W) ρ ys W (Nat.le_of_eq xglob) S hx;refine(callsIn_wide.1 hx).mono fun e w' ⟨y,ρ',he,hy,st⟩=>?_
 subst he;cases hy;have ho:=st.st.wr.out;have ho1:w'.os=W.os:=congrArg Prod.fst ho;have ho2:w'.output=W.output:=congrArg Prod.snd ho;exact⟨rfl,st.st.wr.size,fun r hr=>st.st.wr.frame r hr id,ho1,ho2⟩
theorem rc_ok:∀ e q,(e,q)∈Az.rc0→∃ cts,nth Az.Γ0 q=some cts∧0<cts.length∧Tryz.prog.cellsOf e=cts.length∧∃ K,shp Tryz.prog Az.rc0 K e=some cts:=fun e q h=>by
 simp only[Az.rc0,List.mem_cons,List.not_mem_nil,or_false,Prod.mk.injEq] at h;rcases h with⟨rfl,rfl⟩|⟨rfl,rfl⟩|⟨rfl,rfl⟩|⟨rfl,rfl⟩|⟨rfl,rfl⟩|⟨rfl,rfl⟩|⟨rfl,rfl⟩|⟨rfl,rfl⟩|⟨rfl,rfl⟩|⟨rfl,rfl⟩|⟨rfl,rfl⟩|⟨rfl,rfl⟩|⟨rfl,rfl⟩|⟨rfl,rfl⟩|⟨rfl,rfl⟩ <;>
  exact⟨_,rfl,by decide,by kernel_rfl,6,by kernel_rfl⟩
theorem sh24:shp Tryz.prog Az.rc0 6 24=some [.sl 0]:=by kernel_rfl
theorem sh27:shp Tryz.prog Az.rc0 6 27=some [.int .i64,.sl 2]:=by kernel_rfl
theorem sh33:shp Tryz.prog Az.rc0 6 33=some [.sl 12,.sl 8,.sl 9,.sl 7]:=by kernel_rfl
theorem sh34:shp Tryz.prog Az.rc0 6 34=some [.sl 10]:=by kernel_rfl
theorem list1{α:Type}{l:List α}(h:1=l.length):∃ a,l=[a]:=by
 match l,h with
 | [a],_=>exact⟨a,rfl⟩
theorem list2{α:Type}{l:List α}(h:2=l.length):∃ a b,l=[a,b]:=by
 match l,h with
 | [a,b],_=>exact⟨a,b,rfl⟩
theorem list4{α:Type}{l:List α}(h:4=l.length):∃ a b c d,l=[a,b,c,d]:=by
 match l,h with
 | [a,b,c,d],_=>exact⟨a,b,c,d,rfl⟩
end Go.Sx
namespace Go.Sx
open Go.Proofs Go.Proofs.YtkcjinnlpmhopaaGreatDoor Go.ChangeShapes Go.WideShapes Go.ChangeAt Go.RowKit
set_option maxRecDepth 100000
theorem own0:ownKnob Tryz.prog.godebug=none:=by kernel_rfl
theorem laid0:laidOutB Tryz.prog=true:=by kernel_rfl
theorem cells9:Tryz.prog.cellsOf 9=1:=by kernel_rfl
theorem glob_calc:Tryz.prog.globalNamed "riparian/prog.calculations" =some 0:=by kernel_rfl
theorem glob_type:(Tryz.prog.globals[0]?).map (·.type)=some 330:=by kernel_rfl
noncomputable def laidW(os:Os):World :=
 let w0:=World.holding Tryz.prog os ⟨#[],#[],[]⟩
 {w0 with heap:=w0.heap.modify 0 fun
   | .cells _ t frozen=> .cells six t frozen
   | o=>o}
theorem str_of{s:ByteArray}{bs:List UInt8}(h:s.data.toList=bs):s=⟨⟨bs⟩⟩:=by
 cases s with
 | mk d=>cases d;simp at h;subst h;rfl
theorem six_of_laid{W:World}(h:laidMetH Tryz.prog [("riparian/prog.calculations",Rows.laid_riparian_prog_calculations)] W):∃ e fr,W.heap[0]? =some (.cells six e fr):=by
 have h':laidMet Tryz.prog [("riparian/prog.calculations",Rows.laid_riparian_prog_calculations)] W:=h;obtain⟨ps,⟨g,t,cs,fuel,p,q,h1,h2,h3,h4,_,_⟩,_,_⟩:=h';rw[glob_calc] at h1;cases h1;rw[glob_type] at h2;cases h2;have hh:∃ e fr,W.heap[0]? =some (.cells cs e fr):=by
  unfold World.var? at h3;rw[glob_calc] at h3;simp only[Option.bind_some] at h3;split at h3
  ·rename_i hx;cases h3;exact⟨_,_,hx⟩
  ·cases h3
 obtain⟨e,fr,hh⟩:=hh;refine⟨e,fr,?_⟩;obtain⟨xs,m,_,hx,hl,hn,hi⟩:=DataW.trod_array Tryz.underlying330 h4;have hl6:cs.toList.length=6:=hl.trans (by kernel_rfl);have hxs:xs.map (·.1)=[.lit (.string [43]),.lit (.string [45]),.lit (.string [42]),.lit (.string [47]),.lit (.string [109,111,100]),.lit (.string [45])]:=by have:=congrArg Prod.fst hx;simpa [Rows.laid_riparian_prog_calculations] using this.symm
 have one:∀ (i:Nat) (bs:List UInt8),i<6→(xs.map (·.1))[i]? =some (.lit (.string bs))→cs.toList[i]? =some (.string ⟨⟨bs⟩⟩):=by
  intro i bs hi6 hb;have h5:=hi i hi6;rw[cells9,Nat.mul_one] at h5;cases hxi:xs[i]? with
  | none=>rw[List.getElem?_map,hxi] at hb;cases hb
  | some y =>
    rw[List.getElem?_map,hxi] at hb;rw[hxi] at h5;obtain⟨s,hs1,hs2,_⟩:=DataW.trod_string Tryz.underlying9 h5;have h6:y.1= .lit (.string bs):=by simpa using hb
    rw[hs2] at h6;have h7:s.data.toList=bs:=by simpa using h6
    rw[str_of h7] at hs1;have:=congrArg (fun l:List Value=>l[0]?) hs1;simpa using this
 have e6:cs=six:=by
  apply Array.ext';apply List.ext_getElem?;intro i;by_cases hi6:i<6
  ·rw[hxs] at one
   match i,hi6 with
   | 0,h=>exact one 0 _ h rfl
   | 1,h=>exact one 1 _ h rfl
   | 2,h=>exact one 2 _ h rfl
   | 3,h=>exact one 3 _ h rfl
   | 4,h=>exact one 4 _ h rfl
   | 5,h=>exact one 5 _ h rfl
  ·rw[List.getElem?_eq_none_iff.2 (by omega),List.getElem?_eq_none_iff.2 (by show 6≤i;omega)]
 rw[←e6];exact hh
theorem stays_all{H:Type}{enc:TypeId×Value→H}{W W':World}{sp:Nat→Bool}:∀ {ts:List TypeId}{vs:List Value}{ds:List (DataW H)}{ps:List MemPlace},DataW.TrodAll enc Tryz.prog W 0 (fun _=>true) true ts vs ds ps →
 (∀ t∈ts,Tryz.prog.readableRec t=true∧t<Tryz.prog.types.size)→(∀ p∈ps,W.sameAt W' p)→(∀ p∈ps,sp p.block=true)→DataW.TrodAll enc Tryz.prog W' 0 sp true ts vs ds ps
 | [],vs,ds,ps,h,_,_,_=>by obtain⟨rfl,rfl,rfl⟩:=trodAll_nil h;rfl
 | t :: ts,vs,ds,ps,h,hr,hs,hp=>by obtain⟨v,vs,d,ds,p,q,rfl,rfl,rfl,h1,h2⟩:=trodAll_cons h;refine⟨p,q,Go.WideElems.Trod_stays laid0 (hr t (mcS ..)).1 (hr t (mcS ..)).2 h1 (fun x hx=>hs x (List.mem_append_left _ hx)) (fun x hx=>hp x (List.mem_append_left _ hx)),?_,rfl⟩;exact stays_all h2 (fun t ht=>hr t (mcM _ ht)) (fun x hx=>hs x (List.mem_append_right _ hx)) (fun x hx=>hp x (List.mem_append_right _ hx))
theorem law_post{H:Type}{enc:TypeId×Value→H}{fn:Func}{s:ChangeSpec}{ts:List TypeId}(hp:fn.params.toList=ts)(hr:fn.resultTypes=#[4])(hs:s.vars=[])(hts:∀ t∈ts,Tryz.prog.readableRec t=true∧t<Tryz.prog.types.size){f:FuncId}
 {W:World} {args:Array Value} {ds gs:List (DataW H)} {before:List MemPlace} (hfn:gs=[]→s.fn H (ds ++ gs)={results:=[.lit (.bool true)],args:=ds})
 (hW:DataW.Whole enc Tryz.prog fn.params.toList s.vars false W args.toList ds gs before) (hc:DataW.TrodAll enc Tryz.prog W 0 (fun _=>true) true ts args.toList ds before→gs=[]→Calls Tryz.prog f args W (EndW W)) :
 Calls Tryz.prog f args W fun e W'=>∃ v,e= .returned v∧s.post enc Tryz.prog fn false true false false W args v W':=by
 have hW':=hW;obtain⟨p,q,hA,hV,rfl,hfz,hnd⟩:=hW;rw[hp] at hA;rw[hs] at hV;obtain⟨rfl,rfl⟩:=trodVars_none hV;rw[List.append_nil] at hW' hc;refine(hc hA rfl).mono fun e W' ⟨he,hsz,hfrm,hos,hout⟩=>?_
 subst he;have hlt:∀ x∈p,x.block<W.heap.size:=fun x hx=>hW'.lt x hx
 have same:∀ x∈p,W.sameAt W' x:=fun x hx=>by
  have:=hlt x hx;cases x with
  | cell b off=>simp only[World.sameAt,World.cell?];rw[hfrm b this]
  | map b=>exact hfrm b this
 have e1:=hfn rfl;refine⟨_,rfl,_,_,_,[],p,[],hW',?_,?_,?_,?_,fun h=>by cases h⟩
 ·rw[e1,hr];exact trodAll_mk1 (shut_bool Tryz.underlying4 true)
 ·rw[e1,hp];exact stays_all hA hts same (fun x hx=>by simpa using hlt x hx)
 ·rw[e1,hs];rfl
 ·refine⟨hos,hout,fun i hi=>?_⟩;rw[hfrm i hi];cases hb:W.heap[i]? with
  | none=>rfl
  | some o=>cases o<;>first|exact⟨rfl,rfl,rfl,fun _ _=>rfl⟩|exact .inr ⟨rfl,rfl⟩|rfl
end Go.Sx
namespace Go.Sx
open Go.Proofs
set_option maxRecDepth 100000
set_option maxHeartbeats 4000000
theorem ty53':(EE []).ty.get 53=some (tSl 4):=by kernel_rfl
def tK55:TyI:={size:=1,bytes:=8,d:= .func {toList:=[43]} {toList:=[43]} false,zero:=[.nilFunc],zok:=true}
theorem ty55':(EE []).ty.get 55=some tK55:=by kernel_rfl
section
variable {l:List (FuncId×List (Ct×Value))}
theorem ty53:(EE l).ty.get 53=some (tSl 4):=ty53'
theorem ty55:(EE l).ty.get 55=some tK55:=ty55'
end
abbrev boolL(b:Bool):List Value:=[.bool b]
def Cop(node L:Int)(x y:Lnk):Prop:=y.2=x.2∧(y.1=x.1∨(x.1=node∧y.1=L))
structure RedS(node:Int)(ws:List Bool)(N:List (List Edg))(vW vN vA vQ vU:Value)(hB:T Blk)(nB pk pn pw pm:Nat)(h:T Blk)(K:Nat):Prop where
 fB:Fresh hB nB
 rW:RowsS 1 boolL hB vW ws
 rN:Rows2 5 edgeL hB vN N
 kp:Keep nB hB h
 lk:nB≤pk
 nn:pk≠pn
 nw:pk≠pw
 nm:pk≠pm
 zk:h.get pk=some (.cells [.int .i64 (K:Int)])
 zn:h.get pn=some (.cells [.int .i64 node])
 zw:h.get pw=some (.cells [vW])
 zm:h.get pm=some (.cells [vN,vA,vQ,vU])
theorem RedS.mono{node:Int}{ws:List Bool}{N:List (List Edg)}{vW vN vA vQ vU:Value}{hB:T Blk}{nB pk pn pw pm:Nat}{h h':T Blk}{K:Nat}(s:RedS node ws N vW vN vA vQ vU hB nB pk pn pw pm h K){n:Nat}(hk:Keep n h h')(hf:Fresh h n)(hn:nB≤n):RedS node ws N vW vN vA vQ vU hB nB pk pn pw pm h' K :=
 {s with kp:=fun b hb=>(hk b (by omega)).trans (s.kp b hb),zk:=by rw[hk _ (hf.lt s.zk)];exact s.zk,zn:=by rw[hk _ (hf.lt s.zn)];exact s.zn,zw:=by rw[hk _ (hf.lt s.zw)];exact s.zw,zm:=by rw[hk _ (hf.lt s.zm)];exact s.zm}
theorem WL.cut{E:Env}{many:Nat}{L:LT}{h:T Blk}{n:Nat}{Q:Ex→LT→T Blk→Nat→Prop}{a b:Code}(P:LT→T Blk→Nat→Prop)(ha:WL E many a L h n (fun e L' h' n'=>e= .normal∧P L' h' n'))(hb:∀ L' h' n',P L' h' n'→WL E many b L' h' n' Q):WL E many (.seq a b) L h n Q :=
 WL.seq (ha.mono fun e L' h' n' hx=>by obtain⟨rfl,hx⟩:=hx;exact hb L' h' n' hx)
section
variable {l:List (FuncId×List (Ct×Value))}(hl:MemoK l)
include hl
theorem red_cl{node:Int}{ws:List Bool}{N:List (List Edg)}{vW vN vA vQ vU:Value}{hB:T Blk}{nB pk pn pw pm:Nat}{h:T Blk}{K n:Nat}(hf:Fresh h n)(s:RedS node ws N vW vN vA vQ vU hB nB pk pn pw pm h K)(hK:K<1000000000)(x:Lnk) :
 ∃ y h' n',Cl (EE l) 15 [linkV x,ptrTo pk,ptrTo pn,ptrTo pw,ptrTo pm] h n (.ret (linkV y) h' n')∧Cop node N.length x y∧n≤n'∧Fresh h' n'∧h'.get pk=some (.cells [.int .i64 ((K+1:Nat):Int)])∧∀ b,b<n→b≠pk→h'.get b=h.get b:=by
 have key:∃ w h' n',Cl (EE l) 15 [linkV x,ptrTo pk,ptrTo pn,ptrTo pw,ptrTo pm] h n (.ret w h' n')∧∃ y,w=linkV y∧Cop node N.length x y∧n≤n'∧Fresh h' n'∧h'.get pk=some (.cells [.int .i64 ((K+1:Nat):Int)])∧∀ b,b<n→b≠pk→h'.get b=h.get b:=by
  obtain⟨fB,rW,rN,kp,lk,nn,nw,nm,zk,zn,zw,zm⟩:=s;have hpk:=hf.lt zk;have hpn:=hf.lt zn;have hpw:=hf.lt zw;have hpm:=hf.lt zm;refine Cl.wl (many:=32) (memo_no hl (by decide)) rfl fk15 rfl rfl rfl rfl ?_;refine WL.seq (WL.reg ?_);refine OL.bx ?_;refine OL.al ty43 ?_;refine OL.nil (WL.seq (WL.reg ?_));refine OL.l1 ty3 ?_;refine OL.ad1 ?_;refine OL.st (store1 (b:=pk) (o:=0) (cs:=[.int .i64 (K:Int)]) ty3 rfl (by rw[T.gnE _ _ (by omega),T.gnE _ _ (by omega)];exact zk) rfl (Nat.lt_succ_self 0)) ?_;refine OL.nil ?_
  refine WL.heap (fun H=>H.get pk=some (.cells [.int .i64 ((K+1:Nat):Int)])∧H.get pn=some (.cells [.int .i64 node])∧H.get pw=some (.cells [vW])∧H.get pm=some (.cells [vN,vA,vQ,vU])∧H.get n=some (.cells (linkL x))∧H.get (n+1)=some (.cells [.int .i64 0,.bool false])∧Fresh H (n+1+1)∧∀ b,b<n→b≠pk→H.get b=h.get b) ⟨T.gsE _ _ _,?_,?_,?_,?_,?_,((hf.upd _).upd _).set (by omega) _,fun b hb hne=>?_⟩ ?_
  ·rw[T.gnE _ _ (by omega),T.gnE _ _ (by omega),T.gnE _ _ (by omega)];exact zn
  ·rw[T.gnE _ _ (by omega),T.gnE _ _ (by omega),T.gnE _ _ (by omega)];exact zw
  ·rw[T.gnE _ _ (by omega),T.gnE _ _ (by omega),T.gnE _ _ (by omega)];exact zm
  ·rw[T.gnE _ _ (by omega),T.gnE _ _ (by omega)];exact T.gsE _ _ _
  ·rw[T.gnE _ _ (by omega)];exact T.gsE _ _ _
  ·rw[T.gnE _ _ (by omega),T.gnE _ _ (by omega),T.gnE _ _ (by omega)]
  rintro H ⟨yk,yn,yw,ym,y0,y1,fH,kH⟩;have kB:Keep nB hB H:=fun b hb=>by rw[kH b (by have:=lk;omega) (by omega)];exact kp b hb
  have rW':=rW.keep fB kB;have e1:((K+1:Nat):Int)=(K:Int)+1:=by omega
  refine WL.cut (fun L2 h2 n2=>n2=n+1+1∧Sub [(5,ptrTo n),(6,ptrTo (n+1))] L2∧∃ y,Cop node N.length x y∧h2.get n=some (.cells (linkL y))∧h2.get (n+1)=some (.cells [.int .i64 0,.bool false])∧Fresh h2 (n+1+1)∧h2.get pk=some (.cells [.int .i64 ((K+1:Nat):Int)])∧∀ b,b<n→b≠pk→h2.get b=h.get b) ?_ ?_
  ·have same:Cop node N.length x x:=⟨rfl,.inl rfl⟩
   have hbW:∀ k,n+1+1≤k→BelV k vW:=fun k hk=>rW'.bel fH hk
   refine WL.seq (WL.regD (by kernel_rfl) (by kernel_rfl) ?_);refine OD.fd fo43_0 ?_;(iterate 2 refine OD.l1 ty3 ?_);by_cases c1:x.1=node
   case neg =>
    refine OD.bF (hp:=c1) ?_;(iterate 14 (first|refine OD.mv ?_|refine OD.ps ?_|refine OD.pF ?_));exact OD.nil (WL.condF rfl (WL.skip ⟨rfl,rfl,(by repeat (first|exact Sub.nil|refine Sub.cons rfl ?_)),x,same,y0,y1,fH,yk,kH⟩))
   refine OD.bT (hp:=c1) ?_;refine OD.mv ?_;refine OD.l1 ty53 ?_;refine OD.bi (rW'.len ty53) ?_;by_cases c2:(0:Int)<(ws.length:Int)
   case neg =>
    refine OD.bF (hp:=c2) ?_;(iterate 9 (first|refine OD.pT ?_|refine OD.mv ?_|refine OD.ps ?_));refine OD.pF ?_;exact OD.nil (WL.condF rfl (WL.skip ⟨rfl,rfl,(by repeat (first|exact Sub.nil|refine Sub.cons rfl ?_)),x,same,y0,y1,fH,yk,kH⟩))
   have hmod:(K+1) % ws.length<ws.length:=Nat.mod_lt _ (by omega);obtain⟨w,hw⟩:∃ w,ws[(K+1) % ws.length]? =some w:=⟨_,ggE hmod⟩
   obtain⟨b,o,q1,q2⟩:=RowsS.at1 (E:=EE l) (enc:=fun b:Bool=>Value.bool b) rW' ty53 ty4 rfl rfl hw;have hb:b<n+1+1:=by
    apply Classical.byContradiction;intro hh;have hc:cellsOf H b=none:=by unfold cellsOf;rw[fH b (by omega)]
    simp only[loadA,ty4,hc] at q2;cases q2
   refine OD.bT (hp:=c2) ?_;(iterate 5 (first|refine OD.pT ?_|refine OD.mv ?_|refine OD.l1 ty53 ?_|refine OD.l1 ty3 ?_));refine OD.bi (rW'.len ty53) ?_;refine OD.bv (v:= .int .i64 (((K+1) % ws.length:Nat):Int)) ?_ ?_
   ·show(bif kindEq .i64 .i64&& !decide (((ws.length:Nat):Int)=0) then some (Value.int .i64 ((((K+1:Nat):Int)).tmod (ws.length:Int))) else none)=_;have e2:decide (((ws.length:Nat):Int)=0)=false:=decide_eq_false (by omega);rw[e2,Int.tmod_eq_emod_of_nonneg (by omega)];rfl
   refine OD.ix q1 ?_;refine OD.ld q2 ?_;refine OD.pT ?_;cases w with
   | false=>exact OD.nil (WL.condF rfl (WL.skip ⟨rfl,rfl,(by repeat (first|exact Sub.nil|refine Sub.cons rfl ?_)),x,same,y0,y1,fH,yk,kH⟩))
   | true =>
     refine OD.nil (WL.condT rfl (WL.reg ?_));refine OL.fd fo33_0 ?_;refine OL.l1 ty28 ?_;refine OL.bi ((rN.keep fB kB).len ty28) ?_;refine OL.fd fo43_0 ?_;refine OL.st (store1 (b:=n) (o:=0) (cs:=linkL x) ty3 rfl y0 rfl (Nat.lt_succ_of_lt (Nat.lt_succ_self 0))) ?_;refine OL.nil ⟨rfl,rfl,(by repeat (first|exact Sub.nil|refine Sub.cons rfl ?_)),((N.length:Int),x.2),⟨rfl,.inr ⟨c1,rfl⟩⟩,T.gsE _ _ _,?_,fH.set (by omega) _,?_,fun b hb hne=>?_⟩
     ·rw[T.gnE _ _ (by omega)];exact y1
     ·rw[T.gnE _ _ (by omega)];exact yk
     ·rw[T.gnE _ _ (by omega)];exact kH b hb hne
  ·rintro L2 h2 n2 ⟨rfl,hs,y,hy,z0,z1,f2,z2,z3⟩;refine WL.keep hs ?_;refine WL.seq (WL.reg ?_);refine OL.la ty43 ?_;refine OL.sn (b:=n+1) (old:=[.int .i64 0,.bool false]) ty43 z1 ?_;refine OL.nil (WL.ret ⟨fun id e=>(by cases e),[_],⟨_,rfl,loadN ty43 rfl (cells_of (T.gsE _ _ _)) rfl,rfl⟩,y,rfl,hy,by omega,f2.set (by omega) _,?_,fun b hb hne=>?_⟩)
   ·rw[T.gnE _ _ (by omega)];exact z2
   ·rw[T.gnE _ _ (by omega)];exact z3 b hb hne
 obtain⟨w,h',n',k1,y,rfl,k2⟩:=key;exact⟨y,h',n',k1,k2⟩
end
def CopL(node L:Int)(xs ys:List Lnk):Prop:=ys.length=xs.length∧∀ (i:Nat)(x y:Lnk),xs[i]? =some x→ys[i]? =some y→Cop node L x y
theorem CopL.nil{node L:Int}:CopL node L [] []:=⟨rfl,fun i x y h=>by simp at h⟩
theorem CopL.snoc{node L:Int}{xs ys:List Lnk}{x y:Lnk}(a:CopL node L xs ys)(h:Cop node L x y):CopL node L (xs ++ [x]) (ys ++ [y]):=by
 refine⟨by simp[a.1],fun i u v hu hv=>?_⟩;rcases Nat.lt_trichotomy i xs.length with h1|h1|h1
 ·rw[List.getElem?_append_left h1] at hu;rw[List.getElem?_append_left (by rw[a.1];exact h1)] at hv;exact a.2 i u v hu hv
 ·subst h1;rw[List.getElem?_append_right (nlR _),Nat.sub_self] at hu;rw[List.getElem?_append_right (by rw[a.1];exact nlR _),a.1,Nat.sub_self] at hv;simp at hu hv;subst hu;subst hv;exact h
 ·rw[List.getElem?_eq_none (by simp;omega)] at hu;cases hu
section
variable {l:List (FuncId×List (Ct×Value))}(hl:MemoK l)
include hl
theorem list_cl{node:Int}{ws:List Bool}{N:List (List Edg)}{vW vN vA vQ vU:Value}{hB:T Blk}{nB pk pn pw pm pr:Nat}{h:T Blk}{K n:Nat}(hf:Fresh h n)(s:RedS node ws N vW vN vA vQ vU hB nB pk pn pw pm h K)(hr:h.get pr=some (.cells [.func (.func 15) ⟨[]⟩ ⟨[ptrTo pk,ptrTo pn,ptrTo pw,ptrTo pm]⟩]))(hne:pr≠pk){xs:List Lnk}{v:Value}(hx:RowsS 2 linkL hB v xs)(hK:K+xs.length<1000000000) :
 ∃ w ys h' n',Cl (EE l) 16 [v,ptrTo pr] h n (.ret w h' n')∧CopL node N.length xs ys∧n≤n'∧Fresh h' n'∧LO n h' w ys∧RedS node ws N vW vN vA vQ vU hB nB pk pn pw pm h' (K+xs.length)∧∀ b,b<n→b≠pk→h'.get b=h.get b:=by
 have key:∃ w h' n',Cl (EE l) 16 [v,ptrTo pr] h n (.ret w h' n')∧∃ ys,CopL node N.length xs ys∧n≤n'∧Fresh h' n'∧LO n h' w ys∧RedS node ws N vW vN vA vQ vU hB nB pk pn pw pm h' (K+xs.length)∧∀ b,b<n→b≠pk→h'.get b=h.get b:=by
  have hpr:=hf.lt hr;have hpk:=hf.lt s.zk;refine Cl.wl (many:=21) (memo_no hl (by decide)) rfl fk16 rfl rfl rfl rfl ?_;refine WL.seq (WL.reg ?_);refine OL.asg ?_;refine OL.nil (WL.seq (WL.reg ?_));refine OL.asg ?_;refine OL.nil ?_;refine WL.seq (WL.seq (WL.reg ?_));refine OL.mv ?_;refine OL.bi (hx.len ty31) ?_;refine OL.mv ?_;refine OL.nil (WL.block ?_);refine WL.loop (k:=xs.length) (fun m L H M=>∃ (i:Nat) (w:Value) (ys:List Lnk),i≤xs.length∧m=xs.length-i∧Sub [(9,.int .i64 (i:Int)),(8,.int .i64 (xs.length:Int)),(7,v),(4,w),(1,ptrTo pr)] L∧LO n H w ys∧CopL node N.length (xs.take i) ys∧RedS node ws N vW vN vA vQ vU hB nB pk pn pw pm H (K+i)∧(∀ b,b<n→b≠pk→H.get b=h.get b)∧n≤M∧Fresh H M) ?_
   ⟨0,.slice none 0 0,[],Nat.zero_le _,rfl,(by repeat (first|exact Sub.nil|refine Sub.cons rfl ?_)),.inl ⟨rfl,rfl,rfl⟩,.nil,s,fun _ _ _=>rfl,nlR _,hf⟩
  rintro m L H M ⟨i,w,ys,hi,rfl,hs,ow,hc,S,kH,hM,fH⟩;refine WL.keep hs ?_;refine WL.seq (WL.reg ?_);by_cases c1:(i:Int)<(xs.length:Int)
  ·obtain⟨x,hxi⟩:∃ x,xs[i]? =some x:=⟨_,ggE (by omega)⟩
   obtain⟨b,o,q1,q2,_⟩:=(hx.keep s.fB S.kp).at (E:=EE l) ty31 ty43 rfl rfl hxi;have hyl:ys.length=i:=by have:=hc.1;rw[List.length_take,Nat.min_eq_left (by omega)] at this;exact this
   refine OL.bT ?_;refine OL.nil (WL.seq (WL.condT rfl (WL.skip ?_)));refine WL.seq (WL.block (WL.seq (WL.reg ?_)));refine OL.ix q1 ?_;refine OL.ld q2 ?_;refine OL.al ty43 ?_;refine OL.sn ty43 (T.gsE _ _ _) ?_;refine OL.nil ?_;refine WL.heap (fun Z=>Z.get M=some (.cells (linkL x))∧Fresh Z (M+1)∧Keep M H Z) ⟨T.gsE _ _ _,(fH.upd _).set (Nat.lt_succ_self _) _,((Keep.refl M H).upd (nlR _) _).upd (nlR _) _⟩ ?_;rintro Z ⟨z1,fZ,kZ⟩;have lkB:nB≤M:=by have:=s.lk;omega
   obtain⟨y,H2,n2,a1,a2,a3,a4,a5,a6⟩:=red_cl hl fZ (S.mono kZ fH lkB) (by omega) x;have S2:RedS node ws N vW vN vA vQ vU hB nB pk pn pw pm H2 (K+(i+1)):=by have S1:=S.mono kZ fH lkB;have l1:=fZ.lt S1.zk;exact {S1 with kp:=fun b hb=>by rw[a6 b (by omega) (by have:=s.lk;omega)];exact S1.kp b hb,zk:=a5,zn:=by rw[a6 _ (fZ.lt S1.zn) s.nn.symm];exact S1.zn,zw:=by rw[a6 _ (fZ.lt S1.zw) s.nw.symm];exact S1.zw,zm:=by rw[a6 _ (fZ.lt S1.zm) s.nm.symm];exact S1.zm}
   have ow1:LO n (H2.upd (some (.cells (linkL y))) n2) w ys:=OwnW.keep (OwnW.keep ow fun c hcb=>kZ c (OwnW.lt ow fH hcb)) fun c hcb=>by have h1:=(OwnW.blk ow hcb).1;have h2:=OwnW.lt ow fH hcb;rw[T.gnE _ _ (by omega)];exact a6 c (by omega) (by omega)
   have hrZ:H2.get pr=some (.cells [.func (.func 15) ⟨[]⟩ ⟨[ptrTo pk,ptrTo pn,ptrTo pw,ptrTo pm]⟩]):=by rw[a6 pr (by omega) hne,kZ pr (by omega),kH pr hpr hne];exact hr
   obtain⟨w',H3,n3,w1,w2,w3,w4,w5⟩:=LO.app (l:=l) (h:=H2.upd (some (.cells (linkL y))) n2) (v:= .slice (some ⟨n2,0,none⟩) 1 1) (xs:=[y]) ow1 (Keep.refl n _) (by omega) (a4.upd _) ⟨_,_,rfl⟩ (by simp only[rowA,cells_of (T.gsE (some (Blk.cells (linkL y))) H2 n2)];rfl) (by simp only[List.length_cons,List.length_nil];omega);have hrZ0:Z.get pr=some (.cells [.func (.func 15) ⟨[]⟩ ⟨[ptrTo pk,ptrTo pn,ptrTo pw,ptrTo pm]⟩]):=by rw[kZ pr (by omega),kH pr hpr hne];exact hr
   have ht:xs.take (i+1)=xs.take i ++ [x]:=by rw[List.take_add_one,hxi];rfl
   refine WL.reg ?_;refine OL.mv ?_;refine OL.l1 ty55 ?_;refine OL.la ty43 ?_;refine OL.cv fk15 a1 ?_;refine OL.bs (build_link y) ?_;refine OL.bi w1 ?_;refine OL.asg ?_;refine OL.nil (WL.reg ?_);refine OL.ad1 ?_;refine OL.mv ?_;have k3:∀ b,b<n→H3.get b=H2.get b:=fun b hb=>by rw[w3 b hb,T.gnE _ _ (by omega)]
   have lk:=s.lk;refine OL.nil ⟨xs.length-(i+1),by omega,i+1,w',ys ++ [y],by omega,rfl,(by repeat (first|exact Sub.nil|refine Sub.cons rfl ?_)),w2,by rw[ht];exact hc.snoc a2,?_,fun b hb hbk=>?_,by omega,w5⟩
   ·exact {S2 with kp:=fun b hb=>by rw[k3 b (by omega)];exact S2.kp b hb,zk:=by rw[k3 _ hpk];exact S2.zk,zn:=by rw[k3 _ (hf.lt s.zn)];exact S2.zn,zw:=by rw[k3 _ (hf.lt s.zw)];exact S2.zw,zm:=by rw[k3 _ (hf.lt s.zm)];exact S2.zm}
   ·rw[w3 b (by omega),T.gnE _ _ (by omega),a6 b (by omega) hbk,kZ b (by omega)];exact kH b hb hbk
  ·have hi':i=xs.length:=by omega
   subst hi';rw[List.take_length] at hc;refine OL.bF ?_;refine OL.nil (WL.seq (WL.condF rfl (WL.exit ?_)));refine WL.seq (WL.reg ?_);refine OL.mv ?_;refine OL.asg ?_;exact OL.nil (WL.ret ⟨fun id e=>(by cases e),[_],⟨rfl,rfl⟩,ys,hc,hM,fH,ow,S,kH⟩)
 obtain⟨w,h',n',k1,ys,k2⟩:=key;exact⟨w,ys,h',n',k1,k2⟩
end
theorem memo_not{l:List (FuncId×List (Ct×Value))}{f:FuncId}(hf:∀ x∈l,x.1≠f){args:List Value}{h:T Blk}:memoA (EE l) f args h=none:=by
 have:(EE l).memo.get f=none:=by
  show(memoT l).get f=none;cases hx:(memoT l).get f with
  | none=>rfl
  | some r=>exact absurd rfl (hf _ (memoT_some hx))
 unfold memoA;rw[this]
section
variable {l:List (FuncId×List (Ct×Value))}
theorem light_cl(h7:∀ x∈l,x.1≠7){N:List (List Edg)}{A:List (List Lnk)}{Q:List (List (List Lnk))}{U:List Lnk}{vN vA vQ vU:Value}{h:T Blk}{n:Nat}(hf:Fresh h n)(hN:Rows2 5 edgeL h vN N)(hA:Rows2 2 linkL h vA A)(hQ:Rows3 2 linkL h vQ Q)(hU:RowsS 2 linkL h vU U)
 (bN:N.length+N.flatten.length≤10000000) (bA:A.length+A.flatten.length≤10000000) (bU:U.length≤10000000) (bQ:Q.length≤1100000) (bX:∀ X∈Q,X.length≤1100000∧∀ x∈X,x.length≤1100000) :
 ∃ b h' n',Cl (EE l) 7 [.agg ⟨[vN,vA,vQ,vU]⟩] h n (.ret (.bool b) h' n')∧Keep n h h'∧n≤n'∧Fresh h' n'∧(b=true→N.flatten.length≤3000):=by
 have key:∃ w h' n',Cl (EE l) 7 [.agg ⟨[vN,vA,vQ,vU]⟩] h n (.ret w h' n')∧∃ b,w= .bool b∧Keep n h h'∧n≤n'∧Fresh h' n'∧(b=true→N.flatten.length≤3000):=by
  refine Cl.wl (many:=76) (memo_not h7) rfl fk7 rfl rfl rfl rfl ?_;refine WL.seq (WL.reg ?_);refine OL.bx ?_;refine OL.asg ?_;refine OL.nil ?_;refine WL.heap (fun H=>H.get n=some (.cells [vN,vA,vQ,vU])∧Fresh H (n+1)∧Keep n h H) ⟨T.gsE _ _ _,hf.upd _,(Keep.refl n h).upd (nlR _) _⟩ ?_;rintro H ⟨z,f0,k0⟩;have hN:=hN.keep hf k0;have hA:=hA.keep hf k0;have hQ:=hQ.keep hf k0;have hU:=hU.keep hf k0;refine WL.seq (WL.reg ?_);refine OL.fd fo33_3 ?_;refine OL.l1 ty31 ?_;refine OL.bi (hU.len ty31) ?_;refine OL.fd fo33_0 ?_;refine OL.l1 ty28 ?_;refine OL.bi (hN.len ty28) ?_;refine OL.ad ?_;refine OL.fd fo33_1 ?_;refine OL.l1 ty29 ?_;refine OL.bi (hA.len ty29) ?_;refine OL.ad ?_;refine OL.fd fo33_2 ?_;refine OL.l1 ty30 ?_;refine OL.bi (hQ.len ty30) ?_;refine OL.ad ?_;refine OL.asg ?_;refine OL.nil ?_;refine WL.seq (WL.seq (WL.reg ?_));refine OL.fd fo33_0 ?_;refine OL.l1 ty28 ?_
  refine OL.bi (hN.len ty28) ?_;refine OL.mv ?_;refine OL.nil (WL.block ?_);refine WL.loop (k:=N.length) (fun m L h' M=>h'=H∧M=n+1∧∃ (i:Nat) (s:Int),i≤N.length∧m=N.length-i∧Sub [(30,.int .i64 (i:Int)),(29,.int .i64 (N.length:Int)),(28,vN),(3,.int .i64 s),(1,ptrTo n)] L∧((N.take i).flatten.length:Int)≤s∧s≤40000000+((N.take i).flatten.length:Int)) ?_
   ⟨rfl,rfl,0,_,Nat.zero_le _,rfl,(by repeat (first|exact Sub.nil|refine Sub.cons rfl ?_)),by simp;omega,by simp;omega⟩
  rintro m L h' M ⟨rfl,rfl,i,s,hi,rfl,hs,s1,s2⟩;refine WL.keep hs ?_;refine WL.seq (WL.reg ?_);by_cases c1:(i:Int)<(N.length:Int)
  ·obtain⟨X,hX⟩:∃ X,N[i]? =some X:=⟨_,ggE (by omega)⟩
   obtain⟨b,o,v,q1,q2,q3⟩:=hN.at (E:=EE l) ty28 ty49 rfl rfl hX;have ht:=take_flat hX;have hle:=take_flat_le N (i+1);rw[ht,List.length_append] at hle;refine OL.bT ?_;refine OL.nil (WL.seq (WL.condT rfl (WL.skip ?_)));refine WL.seq (WL.block (WL.seq (WL.reg ?_)));refine OL.ix q1 ?_;refine OL.ld q2 ?_;refine OL.asg ?_;refine OL.nil (WL.reg ?_);(iterate 2 refine OL.mv ?_);refine OL.bi (q3.len ty49) ?_;refine OL.ad ?_;refine OL.asg ?_;refine OL.nil (WL.reg ?_);refine OL.ad1 ?_;refine OL.mv ?_;refine OL.nil ⟨N.length-(i+1),by omega,rfl,rfl,i+1,_,by omega,rfl,(by repeat (first|exact Sub.nil|refine Sub.cons rfl ?_)),?_,?_⟩
   ·rw[ht,List.length_append];omega
   ·rw[ht,List.length_append];omega
  have hi':i=N.length:=by omega
  subst hi';rw[List.take_length] at s1 s2;refine OL.bF ?_;refine OL.nil (WL.seq (WL.condF rfl (WL.exit ?_)));refine WL.seq (WL.seq (WL.reg ?_));refine OL.fd fo33_1 ?_;refine OL.l1 ty29 ?_;refine OL.bi (hA.len ty29) ?_;refine OL.mv ?_;refine OL.nil (WL.block ?_);refine WL.loop (k:=A.length) (fun m L h1 M=>h1=h'∧M=n+1∧∃ (i:Nat) (s:Int),i≤A.length∧m=A.length-i∧Sub [(42,.int .i64 (i:Int)),(41,.int .i64 (A.length:Int)),(40,vA),(3,.int .i64 s),(1,ptrTo n)] L∧(N.flatten.length:Int)≤s∧s≤60000000+((A.take i).flatten.length:Int)) ?_
   ⟨rfl,rfl,0,s,Nat.zero_le _,rfl,(by repeat (first|exact Sub.nil|refine Sub.cons rfl ?_)),s1,by simp;omega⟩
  rintro m L h1 M ⟨rfl,rfl,i,s,hi,rfl,hs,s1,s2⟩;refine WL.keep hs ?_;refine WL.seq (WL.reg ?_);by_cases c2:(i:Int)<(A.length:Int)
  ·obtain⟨X,hX⟩:∃ X,A[i]? =some X:=⟨_,ggE (by omega)⟩
   obtain⟨b,o,v,q1,q2,q3⟩:=hA.at (E:=EE l) ty29 ty31 rfl rfl hX;have ht:=take_flat hX;have hle:=take_flat_le A (i+1);rw[ht,List.length_append] at hle;refine OL.bT ?_;refine OL.nil (WL.seq (WL.condT rfl (WL.skip ?_)));refine WL.seq (WL.block (WL.seq (WL.reg ?_)));refine OL.ix q1 ?_;refine OL.ld q2 ?_;refine OL.asg ?_;refine OL.nil (WL.reg ?_);(iterate 2 refine OL.mv ?_);refine OL.bi (q3.len ty31) ?_;refine OL.ad ?_;refine OL.asg ?_;refine OL.nil (WL.reg ?_);refine OL.ad1 ?_;refine OL.mv ?_;refine OL.nil ⟨A.length-(i+1),by omega,rfl,rfl,i+1,_,by omega,rfl,(by repeat (first|exact Sub.nil|refine Sub.cons rfl ?_)),by omega,?_⟩;rw[ht,List.length_append];omega
  have hi':i=A.length:=by omega
  subst hi';rw[List.take_length] at s2;refine OL.bF ?_;refine OL.nil (WL.seq (WL.condF rfl (WL.exit ?_)));refine WL.seq (WL.seq (WL.reg ?_));refine OL.fd fo33_2 ?_;refine OL.l1 ty30 ?_;refine OL.bi (hQ.len ty30) ?_;refine OL.mv ?_;refine OL.nil (WL.block ?_);refine WL.loop (k:=Q.length) (fun m L h2 M=>h2=h1∧M=n+1∧∃ (i:Nat) (s:Int),i≤Q.length∧m=Q.length-i∧Sub [(54,.int .i64 (i:Int)),(53,.int .i64 (Q.length:Int)),(52,vQ),(3,.int .i64 s)] L∧(N.flatten.length:Int)≤s∧s≤80000000+(i:Int) * 1300000000000) ?_
   ⟨rfl,rfl,0,s,Nat.zero_le _,rfl,(by repeat (first|exact Sub.nil|refine Sub.cons rfl ?_)),s1,by omega⟩
  rintro m L h2 M ⟨rfl,rfl,i,s,hi,rfl,hs,s1,s2⟩;refine WL.keep hs ?_;refine WL.seq (WL.reg ?_);by_cases c3:(i:Int)<(Q.length:Int)
  ·obtain⟨X,hX⟩:∃ X,Q[i]? =some X:=⟨_,ggE (by omega)⟩
   obtain⟨b,o,v,q1,q2,q3⟩:=hQ.at (E:=EE l) ty30 ty29 rfl rfl hX;obtain⟨bX1,bX2⟩:=bX X (List.mem_of_getElem? hX);refine OL.bT ?_;refine OL.nil (WL.seq (WL.condT rfl (WL.skip ?_)));refine WL.seq (WL.block (WL.seq (WL.reg ?_)));refine OL.ix q1 ?_;refine OL.ld q2 ?_;refine OL.asg ?_;refine OL.nil (WL.seq (WL.reg ?_));(iterate 2 refine OL.mv ?_);refine OL.bi (q3.len ty29) ?_;refine OL.ad ?_;refine OL.asg ?_;refine OL.nil (WL.seq (WL.reg ?_));refine OL.mv ?_;refine OL.bi (q3.len ty29) ?_;refine OL.mv ?_;refine OL.nil (WL.block ?_);refine WL.loop (k:=X.length) (fun m L h3 M=>h3=h2∧M=n+1∧∃ (j:Nat) (u:Int),j≤X.length∧m=X.length-j∧Sub [(64,.int .i64 (j:Int)),(63,.int .i64 (X.length:Int)),(62,v),(54,.int .i64 (i:Int)),(53,.int .i64 (Q.length:Int)),(52,vQ),(3,.int .i64 u)] L∧(N.flatten.length:Int)≤u∧u≤s+1100000+(j:Int) * 1100000) ?_
    ⟨rfl,rfl,0,_,Nat.zero_le _,rfl,(by repeat (first|exact Sub.nil|refine Sub.cons rfl ?_)),by omega,by omega⟩
   rintro m' L' h3 M' ⟨rfl,rfl,j,u,hj,rfl,hs',u1,u2⟩;refine WL.keep hs' ?_;refine WL.seq (WL.reg ?_);by_cases c4:(j:Int)<(X.length:Int)
   ·obtain⟨x,hx⟩:∃ x,X[j]? =some x:=⟨_,ggE (by omega)⟩
    obtain⟨b2,o2,v2,w1,w2,w3⟩:=q3.at (E:=EE l) ty29 ty31 rfl rfl hx;have bx:=bX2 x (List.mem_of_getElem? hx);refine OL.bT ?_;refine OL.nil (WL.seq (WL.condT rfl (WL.skip ?_)));refine WL.seq (WL.block (WL.seq (WL.reg ?_)));refine OL.ix w1 ?_;refine OL.ld w2 ?_;refine OL.asg ?_;refine OL.nil (WL.reg ?_);(iterate 2 refine OL.mv ?_);refine OL.bi (w3.len ty31) ?_;refine OL.ad ?_;refine OL.asg ?_;refine OL.nil (WL.reg ?_);refine OL.ad1 ?_;refine OL.mv ?_;exact OL.nil ⟨X.length-(j+1),by omega,rfl,rfl,j+1,_,by omega,rfl,(by repeat (first|exact Sub.nil|refine Sub.cons rfl ?_)),by omega,by omega⟩
   have hj':j=X.length:=by omega
   subst hj';refine OL.bF ?_;refine OL.nil (WL.seq (WL.condF rfl (WL.exit ?_)));refine WL.reg ?_;refine OL.ad1 ?_;refine OL.mv ?_;exact OL.nil ⟨Q.length-(i+1),by omega,rfl,rfl,i+1,u,by omega,rfl,(by repeat (first|exact Sub.nil|refine Sub.cons rfl ?_)),u1,by omega⟩
  refine OL.bF ?_;refine OL.nil (WL.seq (WL.condF rfl (WL.exit ?_)));refine WL.seq (WL.reg ?_);refine OL.mv ?_;refine OL.bv (v:= .bool (decide (s≤3000))) rfl ?_;refine OL.asg ?_;refine OL.nil (WL.ret ⟨fun id e=>(by cases e),[_],⟨rfl,rfl⟩,_,rfl,k0,Nat.le_succ n,f0,fun hd=>?_⟩);have:=of_decide_eq_true hd;omega
 obtain⟨w,h',n',k1,b,rfl,k2⟩:=key;exact⟨b,h',n',k1,k2⟩
end
theorem el28{l:List (FuncId×List (Ct×Value))}:ElT (EE l) 28 49 (tSl 51):=⟨ty28,ty49,rfl,rfl,rfl,rfl,rfl⟩
theorem el30{l:List (FuncId×List (Ct×Value))}:ElT (EE l) 30 29 (tSl 31):=⟨ty30,ty29,rfl,rfl,rfl,rfl,rfl⟩
theorem el49{l:List (FuncId×List (Ct×Value))}:ElT (EE l) 49 51 tEdge:=⟨ty49,ty51,rfl,rfl,rfl,rfl,rfl⟩
theorem RowsS.agree{α:Type}{k:Nat}{enc:α→List Value}{h h':T Blk}{v:Value}{xs:List α}(r:RowsS k enc h v xs)(hh:∀ b,blkOf v=some b→h'.get b=h.get b):RowsS k enc h' v xs:=by
 obtain⟨eb,c,rfl,hb,hx⟩:=r;have hc:∀ a,eb=some a→cellsOf h' a.block=cellsOf h a.block:=fun a ha=>by subst ha;unfold cellsOf;rw[hh a.block rfl]
 refine⟨eb,c,rfl,fun a ha=>?_,fun i x hi=>?_⟩
 ·obtain⟨h1,cs,h2⟩:=hb a ha;exact⟨h1,cs,by rw[hc a ha];exact h2⟩
 ·obtain⟨b,o,cs,h1,h2,h3⟩:=hx i x hi;exact⟨b,o,cs,h1,by rw[hc _ h1];exact h2,h3⟩
def Foot(F:Nat→Prop)(H:T Blk)(P:T Blk→Prop):Prop:=∀ H',(∀ b,F b→H'.get b=H.get b)→P H'
theorem Foot.here{F:Nat→Prop}{H:T Blk}{P:T Blk→Prop}(f:Foot F H P):P H:=f H fun _ _=>rfl
section
variable {l:List (FuncId×List (Ct×Value))}(hl:MemoK l)
include hl
theorem clone28_cl{X:List (List Edg)}{V:Value}{vs:List Value}{h:T Blk}{n:Nat}(hf:Fresh h n)(r1:RowsS 1 (fun v=>[v]) h V vs)(r2:vs.length=X.length)(hsl:∀ v∈vs,∃ b l c,v= .slice b l c)(h0:0<X.length)(hX:X.length≤1000000000) :
 ∃ h',Cl (EE l) 17 [V] h n (.ret (.slice (some ⟨n+1,0,none⟩) X.length (UNK * 1+X.length)) h' (n+1+1))∧Keep n h h'∧Fresh h' (n+1+1)∧h'.get (n+1)=some (.cells vs):=by
 have key:∃ w h' n',Cl (EE l) 17 [V] h n (.ret w h' n')∧w= .slice (some ⟨n+1,0,none⟩) X.length (UNK * 1+X.length)∧n'=n+1+1∧Keep n h h'∧Fresh h' (n+1+1)∧h'.get (n+1)=some (.cells vs):=by
  have hrow:=r1.row;rw[flat_one] at hrow;obtain⟨eb,c,rfl,hb,hx⟩:=r1;have heb:∃ a,eb=some a:=by
   obtain⟨v,hv⟩:∃ v,vs[0]? =some v:=⟨_,ggE (by omega)⟩
   obtain⟨b,o,cs,e,_⟩:=hx 0 v hv;exact⟨_,e⟩
  obtain⟨a,rfl⟩:=heb;have hbs:buildSliceA (EE l) 28 0 []=some []:=by simp only[buildSliceA,ty28,tSl,ty49];rfl
  have hap:App (tSl 51).size (n+1) (h.upd (some (.cells [])) n) (.slice none 0 0) 0 []:= .inl ⟨rfl,rfl,rfl⟩;have hap2:App (tSl 51).size n (h.upd (some (.cells [])) n) (.slice (some ⟨n,0,none⟩) 0 0) 0 []:= .inr ⟨n,0,0,[],rfl,.inr rfl,nlR _,T.gsE _ _ _,rfl⟩;have hrow2:rowA (h.upd (some (.cells [])) n) (tSl 51).size vs.length (.slice (some a) vs.length c)=some vs:=by
   have hs:=(hb a rfl).1;obtain⟨ab,ao,asp⟩:=a;have hs:asp=none:=hs;subst hs;obtain⟨_,cs,hcs⟩:=hb _ rfl;have hcs:cellsOf h ab=some cs:=hcs;have hlt:ab<n:=by apply Classical.byContradiction;intro hh;unfold cellsOf at hcs;rw[hf ab (by omega)] at hcs;cases hcs
   have hce:cellsOf (h.upd (some (.cells [])) n) ab=cellsOf h ab:=by unfold cellsOf;rw[T.gnE _ _ (by omega)]
   simp only[rowA,hce] at hrow ⊢;exact hrow
  obtain⟨w,h',q1,q2,q3,q4,q5,q6,q7⟩:=append_own el28 hap2 (hf.upd _) ⟨_,_,rfl⟩ hrow2 (by omega) (by omega) (slices_cells vs hsl) (by omega);refine Cl.wl (many:=8) (memo_no hl (by decide)) rfl fk17 rfl rfl rfl rfl ?_;refine WL.seq (WL.reg ?_);refine OL.asg ?_;refine OL.nil (WL.seq (WL.seq (WL.reg ?_)));refine OL.mv ?_;refine OL.val (by first|rfl|exact WantL.yes rfl rfl rfl) (D.bin rfl rfl rfl (noB 28 ty28 a vs.length c)) rfl rfl ?_;refine OL.nil (WL.condF rfl (WL.skip ?_));refine WL.seq (WL.reg ?_);refine OL.bs hbs ?_;refine OL.mv ?_;refine OL.bi (appendB q1) ?_;refine OL.asg ?_;refine OL.nil (WL.ret ⟨fun id e=>(by cases e),[_],⟨rfl,rfl⟩,?_,rfl,fun d hd=>?_,q2,q7⟩)
  ·show w=_;rw[q6,← r2,Nat.zero_add];rfl
  ·rw[q3 d (by omega) (fun e=>by have e2:n=d:=Option.some.inj e;omega),T.gnE _ _ (by omega)]
 obtain⟨w,h',n',k1,rfl,rfl,k2,k3,k4⟩:=key;exact⟨h',k1,k2,k3,k4⟩
end
inductive All2 {α β:Type} (R:α→β→Prop):List α→List β→Prop
 | nil:All2 R [] []
 | cons {x:α} {y:β} {xs:List α} {ys:List β}:R x y→All2 R xs ys→All2 R (x :: xs) (y :: ys)
section
variable {α β:Type}{R:α→β→Prop}
theorem All2.of:∀ {xs:List α}{ys:List β},ys.length=xs.length→(∀ (i:Nat)(x:α)(y:β),xs[i]? =some x→ys[i]? =some y→R x y)→All2 R xs ys
 | [],[],_,_=> .nil
 | [],y :: ys,h,_=>by simp at h
 | x :: xs,[],h,_=>by simp at h
 | x :: xs,y :: ys,h,hr=> .cons (hr 0 x y rfl rfl) (All2.of (by simpa using h) fun i a b ha hb=>hr (i+1) a b (by simpa using ha) (by simpa using hb))
theorem All2.len{xs:List α}{ys:List β}(a:All2 R xs ys):ys.length=xs.length:=by
 induction a with
 | nil=>rfl
 | cons _ _ ih=>simp[ih]
theorem All2.at{xs:List α}{ys:List β}(a:All2 R xs ys):∀ {i:Nat}{x:α},xs[i]? =some x→∃ y,ys[i]? =some y∧R x y:=by
 induction a with
 | nil=>intro i x h;simp at h
 | cons r _ ih =>
   intro i x h;cases i with
   | zero=>simp at h;subst h;exact⟨_,rfl,r⟩
   | succ i=>exact ih (by simpa using h)
theorem All2.at'{xs:List α}{ys:List β}(a:All2 R xs ys):∀ {i:Nat}{y:β},ys[i]? =some y→∃ x,xs[i]? =some x∧R x y:=by
 induction a with
 | nil=>intro i y h;simp at h
 | cons r _ ih =>
   intro i y h;cases i with
   | zero=>simp at h;subst h;exact⟨_,rfl,r⟩
   | succ i=>exact ih (by simpa using h)
theorem All2.mem{xs:List α}{ys:List β}(a:All2 R xs ys){y:β}(h:y∈ys):∃ x∈xs,R x y:=by obtain⟨i,hi⟩:=List.getElem?_of_mem h;obtain⟨x,h1,h2⟩:=a.at' hi;exact⟨x,List.mem_of_getElem? h1,h2⟩
theorem All2.app{xs xs':List α}{ys ys':List β}(a:All2 R xs ys)(b:All2 R xs' ys'):All2 R (xs ++ xs') (ys ++ ys'):=by
 induction a with
 | nil=>exact b
 | cons r _ ih=>exact .cons r ih
theorem All2.snoc{xs:List α}{ys:List β}{x:α}{y:β}(a:All2 R xs ys)(r:R x y):All2 R (xs ++ [x]) (ys ++ [y]):=a.app (.cons r .nil)
theorem All2.flat{X:List (List α)}{Y:List (List β)}(a:All2 (All2 R) X Y):All2 R X.flatten Y.flatten:=by
 induction a with
 | nil=>exact .nil
 | cons r _ ih=>exact r.app ih
theorem All2.map{γ δ:Type}{S:γ→δ→Prop}{f:α→γ}{g:β→δ}{xs:List α}{ys:List β}(a:All2 R xs ys)(h:∀ x y,R x y→S (f x) (g y)):All2 S (xs.map f) (ys.map g):=by
 induction a with
 | nil=>exact .nil
 | cons r _ ih=>exact .cons (h _ _ r) ih
end
theorem CopL.all{node L:Int}{xs ys:List Lnk}(a:CopL node L xs ys):All2 (Cop node L) xs ys:= .of a.1 a.2
def CopE(node L:Int)(e e':Edg):Prop:=e'.1=e.1∧Cop node L e.2 e'.2
structure CopG(node:Nat)(N:List (List Edg))(A:List (List Lnk))(Q:List (List (List Lnk)))(U:List Lnk)(N':List (List Edg))(A':List (List Lnk))(Q':List (List (List Lnk)))(U':List Lnk):Prop where
 cp:∃ es,N[node]? =some es∧All2 (All2 (CopE node N.length)) (N ++ [es]) N'
 ca:All2 (All2 (Cop node N.length)) A A'
 cq:All2 (All2 (All2 (Cop node N.length))) Q Q'
 cu:All2 (Cop node N.length) U U'
theorem cop_range{node:Nat}{n:Nat}{x y:Lnk}(c:Cop node n x y)(h:0≤x.1∧x.1<(n:Int)):0≤y.1∧y.1<((n+1:Nat):Int):=by rcases c.2 with h1|⟨_,h1⟩<;>rw[h1]<;>omega
theorem any_range{n:Nat}{xs:List Lnk}:xs.any (fun k=>decide (k.1<0)||decide ((n:Int)≤k.1))=false↔∀ k∈xs,0≤k.1∧k.1<(n:Int):=by
 rw[List.any_eq_false];refine forall_congr' fun k=>forall_congr' fun _=>?_
 simp only[Bool.or_eq_true,decide_eq_true_eq,not_or];omega
theorem CopG.graph{isF:Ft→Bool}{eqs:SlT→Int}{ps:List PrRow}{g:SlT}{N:List (List Edg)}{A:List (List Lnk)}{Q:List (List (List Lnk))}{U:List Lnk}{N':List (List Edg)}{A':List (List Lnk)}{Q':List (List (List Lnk))}{U':List Lnk}{node:Nat}
 (G:GraphP isF eqs ps g N A Q U) (C:CopG node N A Q U N' A' Q' U') (hm:N.flatten.length≤3000) (hn:N.length<4000):GraphP isF eqs ps g N' A' Q' U':=by
 obtain⟨es,he,cp⟩:=C.cp;have hl:N'.length=N.length+1:=by rw[cp.len];simp
 have src:∀ {i:Nat} {es':List Edg},N'[i]? =some es'→∃ es,es∈N∧All2 (CopE node N.length) es es':=fun {i es'} h=>by
  obtain⟨x,h1,h2⟩:=cp.at' h;refine⟨x,?_,h2⟩;rcases List.mem_append.1 (List.mem_of_getElem? h1) with h3|h3
  ·exact h3
  ·rw[List.mem_singleton.1 h3];exact List.mem_of_getElem? he
 have hr:=any_range.1 G.lk;refine⟨by have:=G.n1;omega,by omega,?_,?_,fun i es' h=>?_,?_,?_⟩
 ·have h0:(N ++ [es])[0]? =some []:=by rw[List.getElem?_append_left (by have:=G.n1;omega)];exact G.n0
  obtain⟨y,h1,h2⟩:=cp.at h0;cases h2;exact h1
 ·refine⟨by rw[C.ca.len];exact G.sh.1,by rw[C.cq.len];exact G.sh.2.1,by rw[C.cu.len];exact G.sh.2.2.1,fun i p hp=>?_⟩;obtain⟨⟨X,h1,h2⟩,a,h3,h4⟩:=G.sh.2.2.2 i p hp;obtain⟨X',x1,x2⟩:=C.cq.at h1;obtain⟨a',a1,a2⟩:=C.ca.at h3;refine⟨⟨X',x1,?_⟩,a',a1,by rw[a2.len];exact h4⟩;refine⟨by rw[x2.len];exact h2.1,fun i x c hx hc=>?_⟩;obtain⟨x0,u1,u2⟩:=x2.at' hx;rw[u2.len];exact h2.2 i x0 c u1 hc
 ·obtain⟨es0,h1,h2⟩:=src h;obtain⟨i0,hi0⟩:=List.getElem?_of_mem h1;obtain⟨h3,h4⟩:=G.ft i0 es0 hi0;refine⟨fun j e hj=>?_,fun j a b ha hb=>?_⟩
  ·obtain⟨e0,h5,h6⟩:=h2.at' hj;rw[h6.1];exact h3 j e0 h5
  ·obtain⟨a0,h5,h6⟩:=h2.at' ha;obtain⟨b0,h7,h8⟩:=h2.at' hb;rw[h6.1,h8.1];exact h4 j a0 b0 h5 h7
 ·have:=cp.flat.len;rw[this,List.flatten_append,List.length_append];have h1:es.length≤N.flatten.length:=by
   have:=take_flat he;have h2:=take_flat_le N (node+1);rw[this,List.length_append] at h2;omega
  simp only[List.flatten_cons,List.flatten_nil,List.append_nil];omega
 ·rw[hl];refine any_range.2 fun k hk=>?_
  have step:∃ x∈allL N A Q U,Cop node N.length x k:=by
   unfold allL at hk ⊢;rcases List.mem_append.1 hk with hk|hk
   ·rcases List.mem_append.1 hk with hk|hk
    ·rcases List.mem_append.1 hk with hk|hk
     ·obtain⟨x,h1,h2⟩:=C.ca.flat.mem hk;exact⟨x,by simp only[List.mem_append];exact .inl (.inl (.inl h1)),h2⟩
     ·obtain⟨x,h1,h2⟩:=(C.cq.map (f:=List.flatten) (g:=List.flatten) fun _ _ h=>All2.flat h).flat.mem hk;exact⟨x,by simp only[List.mem_append];exact .inl (.inl (.inr h1)),h2⟩
    ·obtain⟨x,h1,h2⟩:=C.cu.mem hk;exact⟨x,by simp only[List.mem_append];exact .inl (.inr h1),h2⟩
   ·obtain⟨e,h1,rfl⟩:=List.mem_map.1 hk;obtain⟨es',h2,h3⟩:=List.mem_flatten.1 h1;obtain⟨i,hi⟩:=List.getElem?_of_mem h2;obtain⟨es0,h4,h5⟩:=src hi;obtain⟨e0,h6,h7⟩:=h5.mem h3;exact⟨e0.2,by simp only[List.mem_append];exact .inr (List.mem_map.2 ⟨e0,List.mem_flatten.2 ⟨es0,h4,h6⟩,rfl⟩),h7.2⟩
  obtain⟨x,h1,h2⟩:=step;exact cop_range h2 (hr x h1)
theorem part_cop{node L:Int}{f:Ft}{es es':List Edg}(a:All2 (CopE node L) es es'){k k':Lnk}(c:Cop node L k k'):Cop node L (partL es k f) (partL es' k' f):=by
 have key:(es.find? (fun e=>decide (e.1=f))=none∧es'.find? (fun e=>decide (e.1=f))=none)∨∃ e e',es.find? (fun e=>decide (e.1=f))=some e∧es'.find? (fun e=>decide (e.1=f))=some e'∧CopE node L e e':=by
  clear c
  induction a with
  | nil=>exact .inl ⟨rfl,rfl⟩
  | @cons x y xs ys r _ ih =>
    by_cases h:x.1=f
    ·refine .inr ⟨x,y,?_,?_,r⟩
     ·rw[List.find?_cons_of_pos (by simpa using h)]
     ·rw[List.find?_cons_of_pos (by rw[r.1];simpa using h)]
    ·rw[List.find?_cons_of_neg (by simpa using h),List.find?_cons_of_neg (by rw[r.1];simpa using h)];exact ih
 unfold partL;rcases key with⟨h1,h2⟩|⟨e,e',h1,h2,h3⟩
 ·rw[h1,h2];exact c
 ·rw[h1,h2];refine⟨?_,h3.2.2⟩;show xor e'.2.2 k'.2=xor e.2.2 k.2;rw[h3.2.1,c.1]
theorem part_range{N:List (List Edg)}{i:Nat}{es:List Edg}(h:∀ e∈N.flatten,0≤e.2.1∧e.2.1<(N.length:Int))(hi:N[i]? =some es){k:Lnk}(hk:0≤k.1∧k.1<(N.length:Int))(f:Ft):0≤(partL es k f).1∧(partL es k f).1<(N.length:Int):=by
 unfold partL;cases hf:es.find? (fun e=>decide (e.1=f)) with
 | none=>exact hk
 | some e=>exact h e (List.mem_flatten.2 ⟨es,List.mem_of_getElem? hi,List.mem_of_find?_eq_some hf⟩)
theorem fold_cop{node:Nat}{N N':List (List Edg)}{es:List Edg}(he:N[node]? =some es)(a:All2 (All2 (CopE node N.length)) (N ++ [es]) N')(h:∀ e∈N.flatten,0≤e.2.1∧e.2.1<(N.length:Int)):∀ (fs:List Ft){k k':Lnk},0≤k.1∧k.1<(N.length:Int)→Cop node N.length k k'→Cop node N.length (fs.foldl (stepL N) k) (fs.foldl (stepL N') k')
 | [],k,k',_,c=>c
 | f :: fs,k,k',hk,c=>by
   rw[List.foldl_cons,List.foldl_cons];obtain⟨x,hx⟩:∃ x,N[k.1.toNat]? =some x:=⟨_,ggE (by omega)⟩
   have e1:stepL N k f=partL x k f:=by unfold stepL;rw[hx];rfl
   have hx':∃ x',N'[k'.1.toNat]? =some x'∧All2 (CopE node N.length) x x':=by
    rcases c.2 with h1|⟨h1,h2⟩
    ·rw[h1];exact a.at (by rw[List.getElem?_append_left (by omega)];exact hx)
    ·have e3:k.1.toNat=node:=by omega
     rw[e3,he] at hx;cases hx;have e4:k'.1.toNat=N.length:=by omega
     rw[e4];exact a.at (by rw[List.getElem?_append_right (nlR _),Nat.sub_self];rfl)
   obtain⟨x',h1,h2⟩:=hx';have e2:stepL N' k' f=partL x' k' f:=by unfold stepL;rw[h1];rfl
   rw[e1,e2];exact fold_cop he a h fs (part_range h hx hk f) (part_cop h2 c)
theorem CopG.at_same{isF:Ft→Bool}{eqs:SlT→Int}{ps:List PrRow}{g:SlT}{N:List (List Edg)}{A:List (List Lnk)}{Q:List (List (List Lnk))}{U:List Lnk}{N':List (List Edg)}{A':List (List Lnk)}{Q':List (List (List Lnk))}{U':List Lnk}{node:Nat}{proc arg:Int}{fs:List Ft}{r r':Lnk}{e e':Int}
 (G:GraphP isF eqs ps g N A Q U) (C:CopG node N A Q U N' A' Q' U') (G':GraphP isF eqs ps g N' A' Q' U') (h1:AtR isF eqs 0 ps g N A Q U proc arg fs r e) (h2:AtR isF eqs 0 ps g N' A' Q' U' proc arg fs r' e'):e=e'∧r.2=r'.2:=by
 obtain⟨_,_,a3⟩:=h1;obtain⟨_,_,b3⟩:=h2;obtain⟨a3,a4⟩:=a3 rfl G;obtain⟨b3,b4⟩:=b3 rfl G';by_cases hb:BadA isF ps proc arg fs
 ·obtain⟨rfl,rfl⟩:=a3 hb;obtain⟨rfl,rfl⟩:=b3 hb;exact⟨rfl,rfl⟩
 ·obtain⟨a,k0,p1,p2,rfl,rfl⟩:=a4 hb;obtain⟨a',k0',q1,q2,rfl,rfl⟩:=b4 hb;refine⟨rfl,?_⟩;have hr:=any_range.1 G.lk;obtain⟨a2,h3,h4⟩:=C.ca.at p1;rw[q1] at h3;cases h3;obtain⟨k2,h5,h6⟩:=h4.at p2;rw[q2] at h5;cases h5;obtain⟨es,he,cp⟩:=C.cp;have hk0:=hr k0 (by unfold allL;simp only[List.mem_append];exact .inl (.inl (.inl (List.mem_flatten.2 ⟨a,List.mem_of_getElem? p1,List.mem_of_getElem? p2⟩))));have:=fold_cop he cp (fun e hee=>hr e.2 (by unfold allL;simp only[List.mem_append];exact .inr (List.mem_map.2 ⟨e,hee,rfl⟩))) fs hk0 h6;exact this.1.symm
end Go.Sx
