/- AzQ: loops, the whole head. -/
import Derived.Test.YtkcjinnlpmhopaaGreatDoorOwn3
import Derived.Test.YtkcjinnlpmhopaaGreatDoorRows
import Derived.KernelRfl
namespace Go.Sx.Az
section
variable {C:Cfg}{R:Nat}{F:Nat→Prop}{h0:T Blk}{n0:Nat}{st w:S}{νo ν νw:List Value}{βo β βw:List (Option Nat)}{t:T Value}{h:T Blk}{n:Nat}{c c':Ck}
theorem okTs_ok(g:Ga C R F h0 n0 st ν β t h n)(hlim:C.lim≤16000000)(e0:Ext νo βo ν β):∀ {ts:List (Nat×It)}{w:S}{νw:List Value}{βw:List (Option Nat)}{c c':Ck},Hd C R F h0 n0 νo βo st ν β t h n w νw βw c→okTs C νo.length βo.length st c ts=some c' →
 ∃ νw' βw',Ext νw βw νw' βw'∧Hd C R F h0 n0 νo βo st ν β t h n (addTs C w ts) νw' βw' c'
 | [],w,νw,βw,c,c',H,hok=>by simp only[okTs,Option.some.injEq] at hok;subst hok;exact⟨νw,βw,.rfl',H⟩
 | (k,i) :: ts,w,νw,βw,c,c',H,hok=>by
   simp only[okTs] at hok;split at hok
   ·rename_i y hy;split at hok
    ·rename_i c1 h1;obtain⟨v,hv,hV⟩:=g.tm k y hy;obtain⟨ν1,β1,e1,H1,v1⟩:=okV_ok g hlim e0 H hV h1;have H1':Hd C R F h0 n0 νo βo st ν β t h n {(addV C w i).2 with t:=put1 (addV C w i).2.t k (addV C w i).1} ν1 β1 c1:=⟨H1.g.know hv v1,H1.e,H1.n,H1.sg,H1.us⟩
     obtain⟨ν2,β2,e2,H2⟩:=okTs_ok g hlim e0 H1' hok;exact⟨ν2,β2,e1.trans e2,H2⟩
    ·cases hok
   ·cases hok
theorem Ga.addOld(g:Ga C R F h0 n0 w νw βw t h n){i:Nat}{o:Option Nat}{a:AB}(hi:βw[i]? =some o)(ha:ABok C R νw βw h a o)(hF:∀ b,o=some b→¬ F b)(hno:∀ b,o=some b→∀ k a',get1 w.h k=some a'→βw[k]? ≠some (some b)):Ga C R F h0 n0 {w with h:=put1 w.h i a} νw βw t h n:=by
 refine {tm:=g.tm,nt:=g.nt,nl:=g.nl,bl:=g.bl,bb:=g.bb,hp:=fun k a' hk=>?_,nd:=fun k k' a1 a2 b hk hk' hb hb'=>?_,ft:=g.ft,fr:=g.fr,gr:=g.gr,pr:=fun b hb=>⟨(g.pr b hb).1,(g.pr b hb).2.1,fun k a' hk hbk=>?_⟩,rk:=g.rk,rvk:=g.rvk,nn:=g.nn,ro:=g.ro}
 ·rw[get1_put] at hk;split at hk
  ·rename_i e;subst e;cases hk;exact⟨o,hi,ha⟩
  ·exact g.hp k a' hk
 ·rw[get1_put] at hk hk';split at hk<;>split at hk'
  ·rename_i e1 e2;rw[e1,e2]
  ·rename_i e1 e2;subst e1;rw[hi] at hb;cases hb;exact absurd hb' (hno b rfl k' a2 hk')
  ·rename_i e1 e2;subst e2;rw[hi] at hb';cases hb';exact absurd hb (hno b rfl k a1 hk)
  ·exact g.nd k k' a1 a2 b hk hk' hb hb'
 ·rw[get1_put] at hk;split at hk
  ·rename_i e;subst e;rw[hi] at hbk;cases hbk;exact hF b rfl hb
  ·exact(g.pr b hb).2.2 k a' hk hbk
theorem Hd.addOld(g:Ga C R F h0 n0 st ν β t h n)(e0:Ext νo βo ν β)(H:Hd C R F h0 n0 νo βo st ν β t h n w νw βw c){us:List Nat}(hus:∀ a ab b,get1 w.h a=some ab→βw[a]? =some (some b)→∃ i∈us,(∃ ab',get1 st.h i=some ab')∧β[i]? =some (some b)){i:Nat}{a a':AB}(hi:get1 st.h i=some a)(hlt:i<βo.length)(hnu:i∉us)
 (ha:∀ o,β[i]? =some o→βw[i]? =some o→ABok C R νw βw h a' o) (hc:∀ x,x∈c.us↔x=i∨x∈us):Hd C R F h0 n0 νo βo st ν β t h n {w with h:=put1 w.h i a'} νw βw c:=by
 obtain⟨o,ho,_⟩:=g.hp i a hi;have hwo:βw[i]? =some o:=by obtain⟨⟨l,rfl⟩,m,rfl⟩:=e0;exact H.e.be (gpre hlt ho)
 refine⟨H.g.addOld hwo (ha o ho hwo) (fun b hb hf=>(g.pr b hf).2.2 i a hi (by rw[ho,hb])) fun b hb k a1 hk hbk=>?_,H.e,H.n,H.sg,fun k ab b hk hbk=>?_⟩
 ·obtain⟨j,j1,⟨ab',j2⟩,j3⟩:=hus k a1 b hk hbk;have:=g.nd j i ab' a b j2 hi j3 (by rw[ho,hb]);subst this;exact hnu j1
 ·rw[get1_put] at hk;split at hk
  ·rename_i e;subst e;rw[hwo] at hbk;cases hbk;exact⟨k,(hc k).2 (.inl rfl),⟨a,hi⟩,ho⟩
  ·obtain⟨j,j1,j2⟩:=hus k ab b hk hbk;exact⟨j,(hc j).2 (.inr j1),j2⟩
theorem ctEq_eq{a b:CT}(h:ctEq a b=true):a=b:=by cases a<;>cases b<;>simp[ctEq,beqT] at h<;>first|rfl|(rw[kindB_eq h])|(rw[h])
theorem rkEq_eq{a b:RK}(h:okB.rkEq a b=true):a=b:=by cases a<;>cases b<;>first|rfl|(simp[okB.rkEq] at h)
theorem okV_us{nv nb:Nat}{y:SV}{it:It}{i:Nat}(hok:okV C nv nb st y c it=some c')(hi:i∈c.us):i∈c'.us:=by
 cases it<;>simp only[okV,biE] at hok
 ·split at hok<;>cases hok;exact hi
 ·split at hok
  ·split at hok<;>cases hok;exact hi
  ·cases hok
 ·split at hok<;>cases hok;exact hi
 ·split at hok<;>cases hok;exact hi
 ·split at hok<;>cases hok;exact hi
 ·split at hok
  ·split at hok
   ·split at hok
    ·split at hok
     ·split at hok<;>cases hok;exact mcM _ hi
     ·cases hok
    ·cases hok;exact hi
    ·cases hok
   ·cases hok
  ·cases hok
theorem okVs_us{nv nb:Nat}{i:Nat}:∀ {its:List It}{ys:List SV}{c c':Ck},okVs C nv nb st ys c its=some c'→i∈c.us→i∈c'.us
 | [],[],c,c',hok,hi=>by simp only[okVs,Option.some.injEq] at hok;subst hok;exact hi
 | [],_ :: _,c,c',hok,hi=>by simp[okVs] at hok
 | _ :: _,[],c,c',hok,hi=>by simp[okVs] at hok
 | _ :: its,y :: ys,c,c',hok,hi=>by
   simp only[okVs] at hok;split at hok
   ·rename_i c1 h1;exact okVs_us hok (okV_us h1 hi)
   ·cases hok
structure Hd'(C:Cfg)(R:Nat)(F:Nat→Prop)(h0:T Blk)(n0:Nat)(νo:List Value)(βo:List (Option Nat))(st:S)(ν:List Value)(β:List (Option Nat))(t:T Value)(h:T Blk)(n:Nat)(w:S)(νw:List Value)(βw:List (Option Nat))(c:Ck)(i0:Nat):Prop where
 H:Hd C R F h0 n0 νo βo st ν β t h n w νw βw c
 u:∀ a ab b,get1 w.h a=some ab→βw[a]? =some (some b)→∃ i∈c.us,i≠i0∧(∃ ab',get1 st.h i=some ab')∧β[i]? =some (some b)
theorem okV_ok'(g:Ga C R F h0 n0 st ν β t h n)(hlim:C.lim≤16000000)(e0:Ext νo βo ν β){i0:Nat}(H:Hd' C R F h0 n0 νo βo st ν β t h n w νw βw c i0)(hin:i0∈c.us){b0:Nat}(hb0:β[i0]? =some (some b0)){ab0:AB}(hl0:get1 st.h i0=some ab0){y:SV}{v:Value}(hv:V ν β y v){it:It}(hok:okV C νo.length βo.length st y c it=some c') :
 ∃ νw' βw',Ext νw βw νw' βw'∧Hd' C R F h0 n0 νo βo st ν β t h n (addV C w it).2 νw' βw' c' i0∧V νw' βw' (addV C w it).1 v:=by
 obtain⟨ν1,β1,e1,H1,v1⟩:=okV_ok g hlim e0 H.H hv hok;refine⟨ν1,β1,e1,⟨H1,fun a ab b ha hb=>?_⟩,v1⟩;obtain⟨i,i1,i2,i3⟩:=H1.us a ab b ha hb;by_cases hne:i=i0
 ·subst hne;exfalso;obtain⟨ab',i2⟩:=i2;have hcase:(∃ ab1,get1 w.h a=some ab1)∨¬ ∃ ab1,get1 w.h a=some ab1:=Classical.em _;rcases hcase with⟨ab1,hw⟩|hw
  ·obtain⟨o,ho,_⟩:=H.H.g.hp a ab1 hw;have:=e1.be ho;rw[hb] at this;cases this;obtain⟨j,j1,j2,⟨ab2,j3⟩,j4⟩:=H.u a ab1 b hw ho;exact j2 (g.nd j i ab2 ab' b j3 i2 j4 i3)
  ·
   cases it with
   | os q r sz =>
     simp only[okV] at hok;split at hok
     ·rename_i cts hq;rw[biE] at hok;split at hok
      ·split at hok
       ·rename_i k len low sz';split at hok
        ·rename_i q' r' low' hk;rw[biE] at hok;split at hok
         ·rename_i hc;cases hok;simp only[baT,beqT,Bool.not_eq_true'] at hc;have hki:k≠i:=by
           intro e;subst e;have:=memN_iff.2 hin;rw[this] at hc;cases hc.2
          cases v1 with
          | osn hbn _ _ _ =>
            have ha':a=w.nb:=by apply Classical.byContradiction;intro hna;simp only[addV,S.blk,S.fact,S.name] at ha;rw[get1_put,if_neg hna] at ha;exact hw ⟨_,ha⟩
            subst ha';rw[hb] at hbn;cases hbn
          | os hbn _ _ _ _ _ _ =>
            rename_i bb _ _ _;have ha':a=w.nb:=by apply Classical.byContradiction;intro hna;simp only[addV,S.blk,S.fact,S.name] at ha;rw[get1_put,if_neg hna] at ha;exact hw ⟨_,ha⟩
            subst ha';rw[hb] at hbn;cases hbn;cases hv with
            | os hkb _ _ _ _ _ _=>exact hki (g.nd k i _ _ b hk i2 hkb i3)
         ·cases hok
        ·cases hok
       ·cases hok;cases hv;cases v1 with
        | osn hbn _ _ _ =>
          have ha':a=w.nb:=by apply Classical.byContradiction;intro hna;simp only[addV,S.blk,S.fact,S.name] at ha;rw[get1_put,if_neg hna] at ha;exact hw ⟨_,ha⟩
          subst ha';rw[hb] at hbn;cases hbn
       ·cases hok
      ·cases hok
     ·cases hok
   | keep x=>exact hw ⟨_,ha⟩
   | int k=>exact hw ⟨_,ha⟩
   | bool=>exact hw ⟨_,ha⟩
   | str=>exact hw ⟨_,ha⟩
   | ds q r=>exact hw ⟨_,ha⟩
 ·exact⟨i,i1,hne,i2,i3⟩
theorem okVs_ok'(g:Ga C R F h0 n0 st ν β t h n)(hlim:C.lim≤16000000)(e0:Ext νo βo ν β){i0:Nat}{b0:Nat}(hb0:β[i0]? =some (some b0)){ab0:AB}(hl0:get1 st.h i0=some ab0):∀ {its:List It}{ys:List SV}{vs:List Value}{w:S}{νw:List Value}{βw:List (Option Nat)}{c c':Ck},Hd' C R F h0 n0 νo βo st ν β t h n w νw βw c i0→i0∈c.us→VL ν β ys vs→okVs C νo.length βo.length st ys c its=some c' →
 ∃ νw' βw',Ext νw βw νw' βw'∧Hd' C R F h0 n0 νo βo st ν β t h n (addVs C w its).2 νw' βw' c' i0∧VL νw' βw' (addVs C w its).1 vs
 | [],[],_,w,νw,βw,c,c',H,hin,.nil,hok=>by simp only[okVs,Option.some.injEq] at hok;subst hok;exact⟨νw,βw,.rfl',H,.nil⟩
 | [],_ :: _,_,w,νw,βw,c,c',H,hin,_,hok=>by simp[okVs] at hok
 | _ :: _,[],_,w,νw,βw,c,c',H,hin,_,hok=>by simp[okVs] at hok
 | i :: its,y :: ys,v :: vs,w,νw,βw,c,c',H,hin,.cons hv hl,hok=>by
   simp only[okVs] at hok;split at hok
   ·rename_i c1 h1;obtain⟨ν1,β1,e1,H1,v1⟩:=okV_ok' g hlim e0 H hin hb0 hl0 hv h1;obtain⟨ν2,β2,e2,H2,v2⟩:=okVs_ok' g hlim e0 hb0 hl0 H1 (okV_us h1 hin) hl hok;exact⟨ν2,β2,e1.trans e2,H2,.cons (v1.ext e2) v2⟩
   ·cases hok
theorem okB_ok(g:Ga C R F h0 n0 st ν β t h n)(hlim:C.lim≤16000000)(e0:Ext νo βo ν β)(H:Hd C R F h0 n0 νo βo st ν β t h n w νw βw c){i:Nat}{b:Bt}(hlt:i<βo.length)(hnu:i∉c.us)(hok:okB C νo.length βo.length st c i b=some c') :
 ∃ νw' βw',Ext νw βw νw' βw'∧Hd C R F h0 n0 νo βo st ν β t h n (addB C w i b) νw' βw' c':=by
 cases b with
 | cells its =>
   simp only[okB] at hok;split at hok
   ·rename_i ys hi;rw[biE] at hok;split at hok
    ·rename_i hcell;obtain⟨o,ho,hao⟩:=g.hp i _ hi;cases o with
     | none=>exact hao.elim
     | some b0 =>
       obtain⟨cs,k1,k2,k3⟩:=hao;have H':Hd' C R F h0 n0 νo βo st ν β t h n w νw βw {c with us:=i :: c.us} i:=by
        refine⟨⟨H.g,H.e,H.n,H.sg,fun a ab b ha hb=>?_⟩,fun a ab b ha hb=>?_⟩
        ·obtain⟨j,j1,j2⟩:=H.us a ab b ha hb;exact⟨j,mcM _ j1,j2⟩
        ·obtain⟨j,j1,j2⟩:=H.us a ab b ha hb;exact⟨j,mcM _ j1,fun e=>hnu (e▸j1),j2⟩
       obtain⟨ν1,β1,e1,H1,v1⟩:=okVs_ok' g hlim e0 ho hi H' (mcS ..) k2 hok;have hin:i∈c'.us:=okVs_us hok (mcS ..);refine⟨ν1,β1,e1,?_⟩;refine Hd.addOld g e0 H1.H (us:=c'.us.filter (fun x=>decide (x≠i))) (fun a ab b ha hb=>?_) hi hlt (by simp) (fun o' ho' hwo=>?_) fun x=>?_
       ·obtain⟨j,j1,j2,j3⟩:=H1.u a ab b ha hb;exact⟨j,List.mem_filter.2 ⟨j1,by simpa using j2⟩,j3⟩
       ·rw[ho] at ho';cases ho';exact⟨cs,k1,v1,k3⟩
       ·simp only[List.mem_filter,decide_eq_true_eq];constructor
        ·intro hx;by_cases hxi:x=i
         ·exact .inl hxi
         ·exact .inr ⟨hx,hxi⟩
        ·rintro (rfl|⟨hx,_⟩)
         ·exact hin
         ·exact hx
    ·cases hok
   ·cases hok
 | map kt ct =>
   simp only[okB] at hok;split at hok
   ·rename_i kt' ct' hi;rw[biE] at hok;split at hok
    ·rename_i hc;cases hok;rw[baT,beqT] at hc;obtain⟨rfl,hc⟩:=hc;have:=ctEq_eq hc;subst this;refine⟨νw,βw,.rfl',?_⟩;have H':Hd C R F h0 n0 νo βo st ν β t h n w νw βw {c with us:=i :: c.us}:=⟨H.g,H.e,H.n,H.sg,fun a ab b ha hb=>by
      obtain⟨j,j1,j2⟩:=H.us a ab b ha hb;exact⟨j,mcM _ j1,j2⟩⟩
     refine Hd.addOld g e0 H' H.us hi hlt hnu (fun o ho hwo=>?_) fun x=>by simp
     obtain⟨o',ho',hao⟩:=g.hp i _ hi;rw[ho] at ho';cases ho';cases o with
     | none=>exact hao.elim
     | some b=>exact hao
    ·cases hok
   ·cases hok
 | vec q r low =>
   simp only[okB] at hok;split at hok
   ·rename_i q' r' low' hi;rw[biE] at hok;split at hok
    ·rename_i hc;cases hok;simp only[baT,beqT] at hc;obtain⟨⟨⟨rfl,c2⟩,c3⟩,c4⟩:=hc;have:=rkEq_eq c2;subst this;have:=ieEq_ok c3;subst this;refine⟨νw,βw,.rfl',?_⟩;have H':Hd C R F h0 n0 νo βo st ν β t h n w νw βw {c with us:=i :: c.us}:=⟨H.g,H.e,H.n,H.sg,fun a ab b ha hb=>by
      obtain⟨j,j1,j2⟩:=H.us a ab b ha hb;exact⟨j,mcM _ j1,j2⟩⟩
     refine Hd.addOld g e0 H' H.us hi hlt hnu (fun o ho hwo=>?_) fun x=>by simp
     obtain⟨o',ho',hao⟩:=g.hp i _ hi;rw[ho] at ho';cases ho';have hlow:∀ {x},evI ν low=some x→evI νw low=some x:=by intro x hx;obtain⟨⟨l,rfl⟩,m,rfl⟩:=e0;exact H.e.nu (evI_old c4 hx)
     cases o with
     | none=>exact⟨hlow hao.1,hao.2⟩
     | some b =>
       obtain⟨cs,cts,L,k1,k2,k3,k4,k5,k6⟩:=hao;exact⟨cs,cts,L,k1,k2,k3,hlow k4,k5,k6⟩
    ·cases hok
   ·cases hok
 | iter j =>
   simp only[okB] at hok;split at hok
   ·rename_i j' e hi;rw[biE] at hok;split at hok
    ·rename_i hc;cases hok;simp only[baT,beqT,bltT] at hc;obtain⟨⟨⟨rfl,c2⟩,c3⟩,c4⟩:=hc;obtain⟨o,ho,hao⟩:=g.hp i _ hi;cases o with
     | none=>exact hao.elim
     | some b =>
       obtain⟨z,pos,k1,k2,k3⟩:=hao;have hp:=g.ie c4 k2 (evI_ieC _);obtain⟨g1,a1⟩:=H.g.name (N:= .int .i64) (v:= .int .i64 (pos:Int)) ⟨_,rfl,by show(-9223372036854775808:Int)≤_;omega,by show _≤(9223372036854775807:Int);omega⟩;have e1:=Ext.name νw βw (.int .i64 (pos:Int));have hx:evI (νw ++ [.int .i64 (pos:Int)]) ⟨.v w.ty.length,0⟩=some (pos:Int):=by simp only[evI,evB,a1,Int.add_zero]
       refine⟨_,βw,e1,?_⟩;have H':Hd C R F h0 n0 νo βo st ν β t h n (w.name (.int .i64)) (νw ++ [.int .i64 (pos:Int)]) βw {n:=c.n+1,σ:=(c.n,e) :: c.σ,us:=i :: c.us}:=by
        refine⟨g1,H.e.trans e1,?_,?_,fun a ab b ha hb=>?_⟩
        ·show c.n+1=_;simp[S.name,H.n]
        ·show ∀ j' e',get1 ((c.n,e) :: c.σ) j'=some e'→_;rw[H.n];exact sg_add e1 H.sg (by simp[S.name]) hx k2
        ·obtain⟨j,j1,j2⟩:=H.us a ab b ha hb;exact⟨j,mcM _ j1,j2⟩
       refine Hd.addOld g e0 H' (us:=c.us) H.us hi hlt hnu (fun o' ho' hwo=>?_) fun x=>by simp
       rw[ho] at ho';cases ho';refine⟨z,pos,?_,hx,k3⟩;obtain⟨⟨l,rfl⟩,m,rfl⟩:=e0;exact e1.at (H.e.at (gpre c2 k1))
    ·cases hok
   ·cases hok
theorem okBs_ok(g:Ga C R F h0 n0 st ν β t h n)(hlim:C.lim≤16000000)(e0:Ext νo βo ν β):∀ {bs:List (Nat×Bt)}{w:S}{νw:List Value}{βw:List (Option Nat)}{c c':Ck},Hd C R F h0 n0 νo βo st ν β t h n w νw βw c→okBs C νo.length βo.length st c bs=some c' →
 ∃ νw' βw',Ext νw βw νw' βw'∧Hd C R F h0 n0 νo βo st ν β t h n (addBs C w bs) νw' βw' c'
 | [],w,νw,βw,c,c',H,hok=>by simp only[okBs,Option.some.injEq] at hok;subst hok;exact⟨νw,βw,.rfl',H⟩
 | (i,b) :: bs,w,νw,βw,c,c',H,hok=>by
   simp only[okBs,biE] at hok;split at hok
   ·rename_i hc;rw[baT,bltT,Bool.not_eq_true'] at hc;have hnu:i∉c.us:=fun hm=>by rw[memN_iff.2 hm] at hc;cases hc.2
    split at hok
    ·rename_i c1 h1;obtain⟨ν1,β1,e1,H1⟩:=okB_ok g hlim e0 H hc.1 hnu h1;obtain⟨ν2,β2,e2,H2⟩:=okBs_ok g hlim e0 H1 hok;exact⟨ν2,β2,e1.trans e2,H2⟩
    ·cases hok
   ·cases hok
theorem ntEq_eq{a b:NT}(h:ntEq a b=true):a=b:=by cases a<;>cases b<;>simp only[ntEq,baT,beqT] at h<;>first|rfl|(rw[kindB_eq h])|(rw[h.1,rkEq_eq h.2])|cases h
theorem preTy_ok:∀ {l m:List NT},preTy l m=true→∀ {j:Nat}{T:NT},nth l j=some T→nth m j=some T
 | [],m,_,j,T,hj=>by simp[nth] at hj
 | a :: l,[],h,j,T,hj=>by simp[preTy] at h
 | a :: l,b :: m,h,j,T,hj=>by
   simp only[preTy,baT] at h;cases j with
   | zero=>cases hj;rw[ntEq_eq h.1];rfl
   | succ j=>exact preTy_ok h.2 (j:=j) hj
theorem trI_ok(e0:Ext νo βo ν β)(H:Hd C R F h0 n0 νo βo st ν β t h n w νw βw c){a a':IE}(hx:trI νo.length c.σ a=some a'):(∀ x,evI νo a=some x→evI ν a'=some x∧evI νw a=some x)∧((∃ x,evI νo a=some x)∨∃ x,evI ν a'=some x∧evI νw a=some x)∨oldI νo.length a=true:=by
 unfold trI at hx;rw[biE] at hx;split at hx
 ·rename_i ho;exact .inr ho
 ·rename_i hno;split at hx
  ·rename_i j hb;split at hx
   ·rename_i e he;cases hx;obtain⟨_,y,q2,q3⟩:=H.sg j e he;refine .inl ⟨fun x hxo=>?_,.inr ⟨y+a.k,?_,?_⟩⟩
    ·exfalso;apply hno;unfold oldI;rw[hb];unfold evI at hxo;rw[hb] at hxo;simp only[evB] at hxo;cases hj:νo[j]? with
     | none=>rw[hj] at hxo;cases hxo
     | some v=>simp only;rw[bltT];exact(gsI hj).1
    ·rw[addI_eq];exact evI_add a.k q3
    ·have:=evI_add a.k q2;rw[Int.zero_add] at this;have ha:a=⟨.v j,a.k⟩:=by cases a;simp only at hb;rw[hb]
     rw[ha];exact this
   ·cases hx
  ·cases hx
theorem okP_ok{s:S}{p:Pl}(g:Ga C R F h0 n0 st ν β t h n)(hlim:C.lim≤16000000)(e0:Ext νo βo ν β)(hν:νo.length=s.ty.length)(hβ:βo.length=s.nb)(hft:∀ f∈s.fs,FtOK νo f)(hrk:RkOK F h0 s.r νo βo)(hrv:RvOK C R F h0 s.rv νo βo)(hold:∀ e,oldI νo.length e=true→(∃ f∈p.fs,f.1=e∨f.2=e)→∃ x,evI νo e=some x)(hok:okP C s st p=some c) :
 ∃ νw βw,Ext νo βo νw βw∧Ga C R F h0 n0 (headS C s p) νw βw t h n∧∀ j e,get1 c.σ j=some e→∃ x,evI νw ⟨.v j,0⟩=some x∧evI ν e=some x:=by
 unfold okP at hok;rw[biE] at hok;split at hok
 ·rename_i hpre;rw[←hν,← hβ] at hok;split at hok
  ·rename_i c1 h1;split at hok
   ·rename_i c2 h2;rw[biE] at hok;split at hok
    ·rename_i hfs;cases hok;have g0:Ga C R F h0 n0 (base s) νo βo t h n:=by
      refine {tm:=fun k x hk=>by simp[base,get1] at hk,nt:=fun j T hj=>?_,nl:=hν,bl:=hβ,rk:=hrk,rvk:=hrv,bb:=fun i b hi=>g.bb i b (e0.be hi),hp:=fun i a hi=>by simp[base,get1] at hi,nd:=fun i j a a' b hi=>by simp[base,get1] at hi,ft:=hft,fr:=g.fr,gr:=g.gr,pr:=fun b hb=>⟨(g.pr b hb).1,(g.pr b hb).2.1,fun i a hi=>by simp[base,get1] at hi⟩,nn:=g.nn,ro:=g.ro};obtain⟨v,k1,k2⟩:=g.nt j T (preTy_ok hpre hj);refine⟨v,?_,k2⟩;obtain⟨⟨l,rfl⟩,m,rfl⟩:=e0;refine gpre ?_ k1;rw[hν];simp only[base,nth_eq] at hj;exact(gsI hj).1
     have H0:Hd C R F h0 n0 νo βo st ν β t h n (base s) νo βo ⟨νo.length,[],[]⟩:=⟨g0,.rfl',hν,fun j e hj=>by simp[get1] at hj,fun a ab b ha=>by simp[base,get1] at ha⟩
     obtain⟨ν1,β1,e1,H1⟩:=okTs_ok g hlim e0 H0 h1;obtain⟨ν2,β2,e2,H2⟩:=okBs_ok g hlim e0 H1 h2;refine⟨ν2,β2,e1.trans e2,?_,fun j e hj=>(H2.sg j e hj).2⟩;have hfok:∀ f∈p.fs,FtOK ν2 f:=by
      intro f hf;have:=List.all_eq_true.1 hfs f hf;unfold okF at this;split at this
      ·rename_i a b ha hb;have ev:∀ {a a':IE},trI νo.length c.σ a=some a'→(f.1=a∨f.2=a)→∃ x,evI ν a'=some x∧evI ν2 a=some x:=by
        intro a a' hx hor;rcases trI_ok e0 H2 hx with⟨q1,q2⟩|q
        ·rcases q2 with⟨x,q2⟩|q2
         ·exact⟨x,q1 x q2⟩
         ·exact q2
        ·obtain⟨x,hx2⟩:=hold a q ⟨f,hf,hor⟩;unfold trI at hx;rw[biE,if_pos q] at hx;cases hx;exact⟨x,e0.nu hx2,(e1.trans e2).nu hx2⟩
       obtain⟨x,x1,x2⟩:=ev ha (.inl rfl);obtain⟨y,y1,y2⟩:=ev hb (.inr rfl);exact⟨x,y,x2,y2,g.ie this x1 y1⟩
      ·cases this
     exact {tm:=H2.g.tm,nt:=H2.g.nt,nl:=H2.g.nl,bl:=H2.g.bl,bb:=H2.g.bb,hp:=H2.g.hp,nd:=H2.g.nd,fr:=H2.g.fr,gr:=H2.g.gr,pr:=H2.g.pr,nn:=H2.g.nn,rk:=H2.g.rk,rvk:=H2.g.rvk,ro:=H2.g.ro
            ft:=fun f hf=>by
             rcases List.mem_append.1 hf with hf|hf
             ·exact hfok f hf
             ·exact H2.g.ft f hf}
    ·cases hok
   ·cases hok
  ·cases hok
 ·cases hok
end
noncomputable section
def normals:List (Ex×S)→List S
 | []=>[]
 | (.normal,s) :: l=>s :: normals l
 | _ :: l=>normals l
def others:List (Ex×S)→List (Ex×S)
 | []=>[]
 | (.normal,_) :: l=>others l
 | x :: l=>x :: others l
def hasExit:List (Ex×S)→Bool
 | []=>false
 | (.exit _,_) :: _=>true
 | _ :: l=>hasExit l
def defI(ty:List NT)(e:IE):Bool :=
 match e.b with
 | .c=>true
 | .v j=>(match nth ty j with|some (.int _)=>true|_=>false)
 | .ln j=>(match nth ty j with|some (.sl _ _)=>true|some .str=>true|_=>false)
structure Ms where
 j:Nat
 B:IE
 up:Bool
def msOK(st:S)(c:Ck)(m:Ms):Bool :=
 match get1 c.σ m.j with
 | some e=>bif m.up then leQ st ⟨.v m.j,1⟩ e&&leQ st e m.B else leQ st (e.up 1) ⟨.v m.j,0⟩&&leQ st m.B e
 | none=>false
def lpChk(C:Cfg)(s:S)(p:Pl)(m:Ms)(N:List S):Bool :=
 (match okP C s s p with|some c=>(match get1 c.σ m.j with|some _=>true|none=>false)|none=>false)
  && oldI s.ty.length m.B&&defI s.ty m.B&&p.fs.all (fun f=>(!oldI s.ty.length f.1||defI s.ty f.1)&&(!oldI s.ty.length f.2||defI s.ty f.2))
  && N.all (fun st=>match okP C s st p with|some c=>msOK st c m|none=>false)
def rkJ(a b:RK):RK:=bif rkLe a b then b else a
def findOs:List (S×SV)→Option It
 | []=>none
 | (st,.os i _ _ sz) :: l=>(match get1 st.h i with|some (.vec q r _)=>some (.os q r sz)|_=>findOs l)
 | _ :: l=>findOs l
def planIt(s:S)(x:SV)(ys:List (S×SV)):Option It :=
 bif ys.all (fun p=>svEq 5 x p.2)&&oldS s.ty.length s.nb 5 x then some (.keep x)
 else match x with
  | .i k _=>some (.int k)
  | .b _=>some .bool
  | .bn _ _=>some .bool
  | .le _ _ _=>some .bool
  | .eq _ _ _=>some .bool
  | .sn _=>some .str
  | .lit (.string _)=>some .str
  | .ds j=>(match nth s.ty j with
    | some (.sl q r)=>some (.ds q (ys.foldl (fun r p=>match p.2 with| .ds j'=>(match nth p.1.ty j' with|some (.sl _ r')=>rkJ r r'|_=>r)|_=>r) r))
    | _=>none)
  | .lit (.slice none 0 0)=>findOs ys
  | .os i a b sz=>findOs ((s,.os i a b sz) :: ys)
  | _=>none
def isOs:It→Bool
 | .os _ _ _=>true
 | _=>false
def osOf(x:SV):List Nat :=
 match x with
 | .os i _ _ _=>[i]
 | _=>[]
def gets(N:List S)(k:Nat):Option (List (S×SV)):=mapO (fun st:S=>match get1 st.t k with|some y=>some (st,y)|none=>none) N
def planTs(s:S)(N:List S):List (Nat×SV)→List (Nat×It)×List Nat
 | []=>([],[])
 | (k,x) :: l =>
   match gets N k with
   | some ys=>(match planIt s x ys with
     | some it=>((k,it) :: (planTs s N l).1,bif isOs it then osOf x ++ ys.foldl (fun r p=>osOf p.2 ++ r) (planTs s N l).2 else (planTs s N l).2)
     | none=>planTs s N l)
   | none=>planTs s N l
def cellsAt(N:List S)(i:Nat):Option (List (S×List SV)):=mapO (fun st:S=>match get1 st.h i with|some (AB.cells l)=>some (st,l)|_=>none) N
def planCs(s:S):List SV→List (S×List SV)→Option (List It×List Nat)
 | [],_=>some ([],[])
 | x :: l,N =>
   match planIt s x (N.map fun p=>(p.1,p.2.headD (.b true))),planCs s l (N.map fun p=>(p.1,p.2.tail)) with
   | some it,some r=>some (it :: r.1,bif isOs it then osOf x ++ N.foldl (fun r p=>osOf (p.2.headD (.b true)) ++ r) r.2 else r.2)
   | _,_=>none
def planBs(s:S)(N:List S):List (Nat×AB)→List (Nat×Bt)×List Nat
 | []=>([],[])
 | (i,a) :: l =>
   match a with
   | .cells cs=>(match cellsAt N i with
     | some ys=>(match planCs s cs ys with
       | some r=>((i,.cells r.1) :: (planBs s N l).1,r.2 ++ (planBs s N l).2)
       | none=>planBs s N l)
     | none=>planBs s N l)
   | .map kt ct=>bif N.all (fun st=>match get1 st.h i with|some (.map _ _)=>true|_=>false) then ((i,.map kt ct) :: (planBs s N l).1,(planBs s N l).2) else planBs s N l
   | .vec q r low=>bif oldI s.ty.length low&&N.all (fun st=>match get1 st.h i with|some (.vec _ _ low')=>ieEq low low'|_=>false) then ((i,.vec q r low) :: (planBs s N l).1,(planBs s N l).2) else planBs s N l
   | .iter j _=>bif N.all (fun st=>match get1 st.h i with|some (.iter _ _)=>true|_=>false) then ((i,.iter j) :: (planBs s N l).1,(planBs s N l).2) else planBs s N l
def keepB(us:List Nat)(p:Nat×Bt):Bool :=
 match p.2 with
 | .vec _ _ _=> !memN p.1 us
 | _=>true
def oldEs(s:S):List (Nat×SV)→List IE
 | []=>[]
 | (_,x) :: l =>
   match x with
   | .i _ e=>(match e.b with| .c=>oldEs s l|_=>bif oldI s.ty.length e&&defI s.ty e then e :: oldEs s l else oldEs s l)
   | .ds j=>⟨.ln j,0⟩ :: oldEs s l
   | .sn j=>⟨.ln j,0⟩ :: oldEs s l
   | .os _ e _ _=>(match e.b with| .c=>oldEs s l|_=>bif oldI s.ty.length e&&defI s.ty e then e :: oldEs s l else oldEs s l)
   | _=>oldEs s l
def candF(J:List Nat)(O:List IE):List (IE×IE) :=
 J.foldr (fun j r=>(ieC 0,⟨.v j,0⟩) :: (⟨.v j,0⟩,ieC 16000000) :: (⟨.v j,0⟩,ieC 1000000000) :: (J.foldr (fun k r=>bif Nat.beq j k then r else (⟨.v j,0⟩,⟨.v k,0⟩) :: r) (O.foldr (fun e r=>(⟨.v j,0⟩,e) :: r) r))) []
def plan0(s:S)(N:List S):Pl :=
 ⟨(planTs s N s.t).1,(planBs s N s.h).1.filter (keepB ((planTs s N s.t).2 ++ (planBs s N s.h).2)),[]⟩
def holdsF(C:Cfg)(s st:S)(p:Pl)(fs:List (IE×IE)):List (IE×IE) :=
 match okP C s st {p with fs:=[]} with
 | some c=>fs.filter (okF s.ty.length st c.σ)
 | none=>[]
def allHold(C:Cfg)(s:S)(p:Pl):List S→List (IE×IE)→List (IE×IE)
 | [],fs=>fs
 | st :: N,fs=>allHold C s p N (holdsF C s st p fs)
def planF(C:Cfg)(s:S)(N:List S)(p:Pl):Pl :=
 match okP C s s p with
 | some c=>{p with fs:=allHold C s p (s :: N) (candF (c.σ.map (·.1)) (oldEs s s.t))}
 | none=>p
def candM(J:List Nat)(O:List IE):List Ms :=
 J.foldr (fun j r=>⟨j,ieC 0,false⟩ :: ⟨j,ieC 1000000000,true⟩ :: O.foldr (fun e r=>⟨j,e,true⟩ :: r) r) []
def findM(C:Cfg)(s:S)(p:Pl)(N:List S):List Ms→Option Ms
 | []=>none
 | m :: l=>bif lpChk C s p m N then some m else findM C s p N l
def loopI(C:Cfg)(rec:AnS)(many:Nat)(b:Code)(s:S):Nat→Pl→Option (List (Ex×S))
 | 0,_=>none
 | f+1,p =>
   match okP C s s p,rec many b (headS C s p) with
   | some c,some outs =>
     bif (normals outs).all (fun st=>(okP C s st p).isSome) then
      (match findM C s p (normals outs) (candM (c.σ.map (·.1)) (oldEs s s.t)) with
       | some _=>some (others outs)
       | none=>none)
     else bif Nat.blt (allHold C s p (normals outs) p.fs).length p.fs.length then loopI C rec many b s f {p with fs:=allHold C s p (normals outs) p.fs} else none
   | _,_=>none
def loopS(C:Cfg)(rec:AnS)(many:Nat)(b:Code):Nat→S→Option (List (Ex×S))
 | 0,_=>none
 | f+1,s =>
   match rec many b s with
   | none=>none
   | some outs =>
     match normals outs with
     | []=>some outs
     | N=>bif hasExit outs then loopI C rec many b s 5 (planF C s N (plan0 s N))
       else concO (fun p:Ex×S=>match p.1 with| .normal=>loopS C rec many b f p.2|e=>some [(e,p.2)]) outs
end
theorem normals_mem{s:S}{l:List (Ex×S)}(h:(Ex.normal,s)∈l):s∈normals l:=by
 induction l with
 | nil=>cases h
 | cons x l ih =>
   rcases List.mem_cons.1 h with rfl|h2
   ·exact mcS ..
   ·obtain⟨e,s'⟩:=x;have:=ih h2;cases e<;>simp only[normals]<;>first|exact mcM _ this|exact this
theorem others_mem{e:Ex}{s:S}(he:e≠ .normal){l:List (Ex×S)}(h:(e,s)∈l):(e,s)∈others l:=by
 induction l with
 | nil=>cases h
 | cons x l ih =>
   rcases List.mem_cons.1 h with rfl|h2
   ·cases e with
    | normal=>exact absurd rfl he
    | exit i=>exact mcS ..
    | ret=>exact mcS ..
   ·obtain⟨e',s'⟩:=x;have:=ih h2;cases e'<;>simp only[others]<;>first|exact mcM _ this|exact this
section
variable {rd:Option Nat}{C:Cfg}{R:Nat}{F:Nat→Prop}{h0:T Blk}{n0:Nat}{s:S}{ν:List Value}{β:List (Option Nat)}{t:T Value}{h:T Blk}{n:Nat}
theorem defI_ok(g:Ga C R F h0 n0 s ν β t h n){e:IE}(hd:defI s.ty e=true):∃ x,evI ν e=some x:=by
 have:∃ y,evB ν e.b=some y:=by
  unfold defI at hd;split at hd
  ·rename_i hb;rw[hb];exact⟨0,rfl⟩
  ·rename_i j hb;rw[hb];split at hd
   ·rename_i k hk;obtain⟨v,h1,x,rfl,_⟩:=g.nt j _ hk;exact⟨x,by simp only[evB,h1]⟩
   ·cases hd
  ·rename_i j hb;rw[hb];split at hd
   ·rename_i q r hk;obtain⟨v,h1,k,_,h3⟩:=g.nt j _ hk;cases h3 with
    | nil=>exact⟨_,by simp only[evB,h1];rfl⟩
    | sl _ _ _ _ _ _ _ _=>exact⟨_,by simp only[evB,h1];rfl⟩
   ·rename_i hk;obtain⟨v,h1,z,rfl,_⟩:=g.nt j _ hk;exact⟨_,by simp only[evB,h1];rfl⟩
   ·cases hd
 obtain⟨y,hy⟩:=this;exact⟨y+e.k,by unfold evI;rw[hy]⟩
theorem lpInv_ok{rec:AnS}(hrec:AnOK rd C R F h0 n0 rec)(hlim:C.lim≤16000000){many:Nat}{b:Code}{p:Pl}{m:Ms}{outs:List (Ex×S)}(hr:rec many b (headS C s p)=some outs)(hc:lpChk C s p m (normals outs)=true)(g:Ga C R F h0 n0 s ν β t h n) :
 ∃ e t' h' n',Ev C.E (.loop b) rd many t [] h n (.ok e t' [] h' n')∧∃ q∈others outs,q.1=e∧∃ ν' β',Ext ν β ν' β'∧Ga C R F h0 n0 q.2 ν' β' t' h' n':=by
 unfold lpChk at hc;simp only[baT,List.all_eq_true] at hc;obtain⟨⟨⟨⟨c1,c2⟩,c3⟩,c4⟩,c5⟩:=hc;rw[←g.nl] at c2 c4;have hold:∀ e,oldI ν.length e=true→(∃ f∈p.fs,f.1=e∨f.2=e)→∃ x,evI ν e=some x:=by
  rintro e he ⟨f,hf,hor⟩;have:=c4 f hf;simp only[Bool.or_eq_true,Bool.not_eq_true'] at this;rcases hor with rfl|rfl
  ·rcases this.1 with h1|h1
   ·rw[he] at h1;cases h1
   ·exact defI_ok g h1
  ·rcases this.2 with h1|h1
   ·rw[he] at h1;cases h1
   ·exact defI_ok g h1
 obtain⟨y,hB⟩:=defI_ok g c3;have loop:∀ (k:Nat) (νw:List Value) (βw:List (Option Nat)) (t:T Value) (h:T Blk) (n:Nat) (x:Int),Ext ν β νw βw→Ga C R F h0 n0 (headS C s p) νw βw t h n→evI νw ⟨.v m.j,0⟩=some x→(bif m.up then (y-x).toNat else (x-y).toNat)=k →
  ∃ e t' h' n',Ev C.E (.loop b) rd many t [] h n (.ok e t' [] h' n')∧∃ q∈others outs,q.1=e∧∃ ν' β',Ext ν β ν' β'∧Ga C R F h0 n0 q.2 ν' β' t' h' n':=by
  intro k
  induction k using Nat.strongRecOn with
  | _ k ih =>
    intro νw βw t h n x e0 gw hx hk;obtain⟨e,t1,h1,n1,x1,⟨e',st⟩,hp,he,ν1,β1,e1,g1⟩:=hrec many b _ outs νw βw t h n hr gw;simp only at he;subst he;cases e' with
    | normal =>
      have h2:=c5 st (normals_mem hp);split at h2
      ·rename_i c hck;unfold msOK at h2;split at h2
       ·rename_i ie hie;obtain⟨νw',βw',q1,q2,q3⟩:=okP_ok g1 hlim (e0.trans e1) g.nl g.bl g.ft g.rk g.rvk hold hck;obtain⟨x',w1,w2⟩:=q3 _ _ hie;have hxx:evI ν1 ⟨.v m.j,0⟩=some x:=e1.nu hx;have hBB:evI ν1 m.B=some y:=(e0.trans e1).nu hB;have hlt:(bif m.up then (y-x').toNat else (x'-y).toNat)<k:=by
         rw[biE] at h2;rw[biE] at hk ⊢;split at h2
         ·rename_i hup;rw[if_pos hup] at hk ⊢;rw[baT] at h2;have a1:=g1.ie h2.1 (evI_add 1 hxx) w2;have a2:=g1.ie h2.2 w2 hBB;omega
         ·rename_i hup;rw[if_neg hup] at hk ⊢;rw[baT] at h2;have a1:=g1.ie h2.1 (evI_up 1 w2) hxx;have a2:=g1.ie h2.2 hBB w2;omega
        obtain⟨e,t2,h2',n2,x2,rest⟩:=ih _ hlt νw' βw' t1 h1 n1 x' q1 q2 w1 rfl;exact⟨e,t2,h2',n2,.loop_step x1 x2,rest⟩
       ·cases h2
      ·cases h2
    | exit i=>exact⟨_,t1,h1,n1,.loop_out x1 (by simp),_,others_mem (by simp) hp,rfl,ν1,β1,e0.trans e1,g1⟩
    | ret=>exact⟨_,t1,h1,n1,.loop_out x1 (by simp),_,others_mem (by simp) hp,rfl,ν1,β1,e0.trans e1,g1⟩
 split at c1
 ·rename_i c hck;split at c1
  ·rename_i ie hie;obtain⟨νw,βw,q1,q2,q3⟩:=okP_ok g hlim .rfl' g.nl g.bl g.ft g.rk g.rvk hold hck;obtain⟨x,w1,w2⟩:=q3 _ _ hie;exact loop _ νw βw t h n x q1 q2 w1 rfl
  ·cases c1
 ·cases c1
theorem findM_ok{p:Pl}{N:List S}{m:Ms}:∀ {l:List Ms},findM C s p N l=some m→lpChk C s p m N=true
 | [],h=>by simp[findM] at h
 | x :: l,h=>by
   simp only[findM,biE] at h;split at h
   ·cases h;assumption
   ·exact findM_ok h
theorem loopI_ok{rec:AnS}(hrec:AnOK rd C R F h0 n0 rec)(hlim:C.lim≤16000000){many:Nat}{b:Code}(g:Ga C R F h0 n0 s ν β t h n):∀ (f:Nat){p:Pl}{outs:List (Ex×S)},loopI C rec many b s f p=some outs →
 ∃ e t' h' n',Ev C.E (.loop b) rd many t [] h n (.ok e t' [] h' n')∧∃ q∈outs,q.1=e∧∃ ν' β',Ext ν β ν' β'∧Ga C R F h0 n0 q.2 ν' β' t' h' n'
 | 0,p,outs,hr=>by simp[loopI] at hr
 | f+1,p,outs,hr=>by
   simp only[loopI] at hr;split at hr
   ·rename_i c o hc ho;rw[biE] at hr;split at hr
    ·split at hr
     ·rename_i m hm;cases hr;exact lpInv_ok hrec hlim ho (findM_ok hm) g
     ·cases hr
    ·rw[biE] at hr;split at hr
     ·exact loopI_ok hrec hlim g f hr
     ·cases hr
   ·cases hr
theorem loopS_ok{rec:AnS}(hrec:AnOK rd C R F h0 n0 rec)(hlim:C.lim≤16000000){many:Nat}{b:Code}:∀ (f:Nat){s:S}{ν:List Value}{β:List (Option Nat)}{t:T Value}{h:T Blk}{n:Nat}{outs:List (Ex×S)},loopS C rec many b f s=some outs→Ga C R F h0 n0 s ν β t h n →
 ∃ e t' h' n',Ev C.E (.loop b) rd many t [] h n (.ok e t' [] h' n')∧∃ q∈outs,q.1=e∧∃ ν' β',Ext ν β ν' β'∧Ga C R F h0 n0 q.2 ν' β' t' h' n'
 | 0,s,ν,β,t,h,n,outs,hr,g=>by simp[loopS] at hr
 | f+1,s,ν,β,t,h,n,outs,hr,g=>by
   simp only[loopS] at hr;split at hr
   ·cases hr
   ·rename_i o ho;have hout:∀ {e:Ex} {q:Ex×S} {t1 h1 n1},e≠ .normal→Ev C.E b rd many t [] h n (.ok e t1 [] h1 n1)→Ev C.E (.loop b) rd many t [] h n (.ok e t1 [] h1 n1):=fun he hx=> .loop_out hx he
    split at hr
    ·rename_i hn;cases hr;obtain⟨e,t1,h1,n1,x1,⟨e',st⟩,hp,he,ν1,β1,e1,g1⟩:=hrec many b _ _ ν β t h n ho g;simp only at he;subst he;have hne:e'≠ .normal:=by
      intro he;subst he;have:=normals_mem hp;rw[hn] at this;cases this
     exact⟨_,t1,h1,n1,.loop_out x1 hne,_,hp,rfl,ν1,β1,e1,g1⟩
    ·rw[biE] at hr;split at hr
     ·exact loopI_ok hrec hlim g 5 hr
     ·obtain⟨e,t1,h1,n1,x1,⟨e',st⟩,hp,he,ν1,β1,e1,g1⟩:=hrec many b _ _ ν β t h n ho g;simp only at he;subst he;obtain⟨r,hr1,hsub⟩:=concO_mem hr _ hp;cases e' with
      | normal =>
        simp only at hr1;obtain⟨e,t2,h2,n2,x2,q,hq,he,ν2,β2,e2,g2⟩:=loopS_ok hrec hlim f hr1 g1;exact⟨e,t2,h2,n2,.loop_step x1 x2,q,hsub _ hq,he,ν2,β2,e1.trans e2,g2⟩
      | exit i =>
        simp only[Option.some.injEq] at hr1;subst hr1;exact⟨_,t1,h1,n1,.loop_out x1 (by simp),_,hsub _ (mcS ..),rfl,ν1,β1,e1,g1⟩
      | ret =>
        simp only[Option.some.injEq] at hr1;subst hr1;exact⟨_,t1,h1,n1,.loop_out x1 (by simp),_,hsub _ (mcS ..),rfl,ν1,β1,e1,g1⟩
end
noncomputable section
inductive AT where
 | int (k:IntKind)
 | bool
 | str
 | sl (q:Nat)
 | agg (l:List AT)
 | fn (f:FuncId) (capt:List AT)
 | cellp (l:List AT)
 | vs (q m:Nat)
 | nilf
inductive RT where
 | int (k:IntKind)
 | bool
 | str
 | sl (q:Nat)
 | fresh (q m:Nat)
 | agg (l:List RT)
 | tup (l:List RT)
structure Spec where
 f:FuncId
 args:List AT
 res:RT
def osOK(C:Cfg)(s:S)(rk:RK)(i:Nat)(len low:IE)(sz q m:Nat):Bool :=
 match nth C.Γ q with
 | some cts=>Nat.beq sz cts.length&&Nat.blt 0 sz&&leQ s len (ieC m)&&(match get1 s.h i,vecG s i with
   | some (.cells l),_=>(match ieN low with|some m=>rowsS s rk cts m l|none=>false)
   | _,some (q',rk',low')=>Nat.beq q q'&&rkLe rk' rk&&ieEq low low'
   | _,_=>false)
 | none=>false
def matchA(C:Cfg)(s:S)(rk:RK):Nat→SV→AT→Bool
 | _,.i j _,.int k=>kindEq j k
 | _,x,.bool=>isBool x
 | _,x,.str=>isStr x
 | _,x,.sl q=>svCT s rk x (.sl q)
 | _,.os i len low sz,.vs q m=>osOK C s rk i len low sz q m
 | _,.lit (.slice none 0 0),.vs q _=>(match nth C.Γ q with|some cts=>Nat.blt 0 cts.length|none=>false)
 | _,.lit .nilFunc,.nilf=>true
 | f+1,.agg l,.agg m=>ml f l m
 | f+1,.f g a c,.fn g' m=>a.isEmpty&&Nat.beq g g'&&ml f c m
 | f+1,.p i o,.cellp m=>Nat.beq o 0&&(match cellsG s i with|some l=>ml f l m|none=>false)
 | _,_,_=>false
where
 ml (f:Nat):List SV→List AT→Bool
  | [],[]=>true
  | x :: l,a :: m=>matchA C s rk f x a&&ml f l m
  | _,_=>false
def hasSl:Nat→AT→Bool
 | _,.sl _=>true
 | f+1,.agg l=>l.any (hasSl f)
 | f+1,.fn _ l=>l.any (hasSl f)
 | f+1,.cellp l=>l.any (hasSl f)
 | _,_=>false
def mkOs(C:Cfg)(w:S)(q m:Nat):SV×S :=
 match nth C.Γ q with
 | some cts=>((addV C w (.os q .top cts.length)).1,(addV C w (.os q .top cts.length)).2.fact ⟨.v w.ty.length,0⟩ (ieC m))
 | none=>(.lit .nilFunc,w)
def mkR(C:Cfg):Nat→S→RT→SV×S
 | _,s,.int k=>((freshC C s .top (.int k)).2,(freshC C s .top (.int k)).1)
 | _,s,.bool=>((freshC C s .top .bool).2,(freshC C s .top .bool).1)
 | _,s,.str=>((freshC C s .top .str).2,(freshC C s .top .str).1)
 | _,s,.sl q=>((freshC C s .top (.sl q)).2,(freshC C s .top (.sl q)).1)
 | _,s,.fresh q m=>mkOs C s q m
 | f+1,s,.agg l=>(.agg (ml f s l).1,(ml f s l).2)
 | f+1,s,.tup l=>(.tup (ml f s l).1,(ml f s l).2)
 | 0,s,_=>(.lit .nilFunc,s)
where
 ml (f:Nat):S→List RT→List SV×S
  | s,[]=>([],s)
  | s,r :: l=>((mkR C f s r).1 :: (ml f (mkR C f s r).2 l).1,(ml f (mkR C f s r).2 l).2)
def findSp(C:Cfg)(s:S)(rk:RK)(f:FuncId)(args:List SV):List Spec→Option Spec
 | []=>none
 | sp :: l=>bif Nat.beq sp.f f&&matchA.ml C s rk 4 args sp.args then some sp else findSp C s rk f args l
def resS1(C:Cfg)(s:S):List ResultVar→Option (List SV×S)
 | []=>some ([],s)
 | .tmp k :: l=>(match get1 s.t k,resS1 C s l with|some x,some r=>some (x :: r.1,r.2)|_,_=>none)
 | .cell a ty :: l=>(match get1 s.t a with
   | some p=>(match ldS C s ty p with
     | some (x,s')=>(match resS1 C s' l with|some r=>some (x :: r.1,r.2)|none=>none)
     | none=>none)
   | none=>none)
def resS(C:Cfg)(fn:Func)(s:S):Option (SV×S) :=
 match resS1 C s fn.results.toList with
 | some ([x],s')=>some (x,s')
 | some (l,s')=>some (.tup l,s')
 | none=>none
def argP:List SV→Nat→List (Nat×SV)
 | [],_=>[]
 | x :: l,i=>(i,x) :: argP l (i+1)
def notExit:Ex→Bool
 | .exit _=>false
 | _=>true
def inlineS(C:Cfg)(an:AnS):CallS:=fun s f args =>
 match C.E.fn.get f with
 | some fn =>
   (match fn.body with
    | some c =>
      bif Nat.ble args.length fn.ntmps&&(C.E.memo.get f).isNone then
       (match an fn.ntmps c {s with t:=argP args 0} with
        | some outs=>mapO (fun p:Ex×S=>bif notExit p.1 then (match resS C fn p.2 with|some r=>some (r.1,{r.2 with t:=s.t})|none=>none) else none) outs
        | none=>none)
      else none
    | none=>none)
 | none=>none
def callW(C:Cfg)(T Rr:List Spec)(an:AnS):CallS:=fun s f args =>
 match findSp C s .top f args T with
 | some sp=>some [mkR C 4 s sp.res]
 | none =>
   match findSp C s .low f args Rr with
   | some sp=>bif sp.args.any (hasSl 4) then some [mkR C 4 s sp.res] else none
   | none=>inlineS C an s f args
def anF(C:Cfg)(T Rr:List Spec):Nat→AnS
 | 0=>fun _ _ _=>none
 | f+1=>stepAn false C (callW C T Rr (anF C T Rr f)) (anF C T Rr f) (fun many b s=>loopS C (anF C T Rr f) many b 12 s)
end
mutual
inductive AOk (C:Cfg) (h:T Blk) (N:Nat):AT→Value→Prop
 | int {k:IntKind} {x:Int} (h1:k.min≤x) (h2:x≤k.max):AOk C h N (.int k) (.int k x)
 | bool (x:Bool):AOk C h N .bool (.bool x)
 | str {z:ByteArray} (h1:z.size≤16000000):AOk C h N .str (.string z)
 | sl {q r:Nat} {v:Value} (hr:r<N) (hd:D C.Γ C.lim h r (.sl q) v):AOk C h N (.sl q) v
 | agg {l:List AT} {vs:List Value} (hl:AOkL C h N l vs):AOk C h N (.agg l) (.agg ⟨vs⟩)
 | fn {f:FuncId} {l:List AT} {vs:List Value} (hl:AOkL C h N l vs):AOk C h N (.fn f l) (.func (.func f) ⟨[]⟩ ⟨vs⟩)
 | nilf:AOk C h N .nilf .nilFunc
 | vsn {q m:Nat} {cts:List CT} (hq:nth C.Γ q=some cts) (hp:0<cts.length):AOk C h N (.vs q m) (.slice none 0 0)
 | vs {q m b L W c:Nat} {cts:List CT} {cs:List Value} (hg:h.get b=some (.cells cs)) (hq:nth C.Γ q=some cts) (hp:0<cts.length) (hl:cs.length=W * cts.length) (hLW:L≤W) (hW:W<1000000000) (hc:c=UNK * cts.length+W∨c=W)
  (hr:Rows C N h .cur cts cs) (hm:L≤m):AOk C h N (.vs q m) (.slice (some ⟨b,0,none⟩) L c)
 | cellp {b:Nat} {cs:List Value} {l:List AT} (hb:h.get b=some (.cells cs)) (hl:AOkL C h N l cs):AOk C h N (.cellp l) (.pointer (some ⟨b,0,none⟩))
inductive AOkL (C:Cfg) (h:T Blk) (N:Nat):List AT→List Value→Prop
 | nil:AOkL C h N [] []
 | cons {a:AT} {l:List AT} {v:Value} {vs:List Value} (ha:AOk C h N a v) (hl:AOkL C h N l vs):AOkL C h N (a :: l) (v :: vs)
end
mutual
inductive ROk (C:Cfg) (h:T Blk) (m n:Nat):RT→Value→List Nat→Prop
 | int {k:IntKind} {x:Int} (h1:k.min≤x) (h2:x≤k.max):ROk C h m n (.int k) (.int k x) []
 | bool (x:Bool):ROk C h m n .bool (.bool x) []
 | str {z:ByteArray} (h1:z.size≤16000000):ROk C h m n .str (.string z) []
 | sl {q r:Nat} {v:Value} (hd:D C.Γ C.lim h r (.sl q) v):ROk C h m n (.sl q) v []
 | nil {q k:Nat} {cts:List CT} (hq:nth C.Γ q=some cts) (hp:0<cts.length):ROk C h m n (.fresh q k) (.slice none 0 0) []
 | fresh {q k b L W c:Nat} {cts:List CT} {cs:List Value} (hb:m≤b) (hn:b<n) (hg:h.get b=some (.cells cs)) (hq:nth C.Γ q=some cts) (hp:0<cts.length) (hl:cs.length=W * cts.length) (hLW:L≤W) (hW:W<1000000000) (hc:c=UNK * cts.length+W∨c=W)
  (hr:Rows C 0 h .top cts cs) (hk:L≤k):ROk C h m n (.fresh q k) (.slice (some ⟨b,0,none⟩) L c) [b]
 | agg {l:List RT} {vs:List Value} {bs:List Nat} (hl:ROkL C h m n l vs bs):ROk C h m n (.agg l) (.agg ⟨vs⟩) bs
 | tup {l:List RT} {vs:List Value} {bs:List Nat} (hl:ROkL C h m n l vs bs):ROk C h m n (.tup l) (.tuple ⟨vs⟩) bs
inductive ROkL (C:Cfg) (h:T Blk) (m n:Nat):List RT→List Value→List Nat→Prop
 | nil:ROkL C h m n [] [] []
 | cons {a:RT} {l:List RT} {v:Value} {vs:List Value} {bs cs:List Nat} (ha:ROk C h m n a v bs) (hl:ROkL C h m n l vs cs):ROkL C h m n (a :: l) (v :: vs) (bs ++ cs)
end
def SpecAt(C:Cfg)(N:Nat)(sp:Spec):Prop:=∀ h n vs,(∀ b,n≤b→h.get b=none)→(∀ x∈C.E.gro,h.get x.1=some (.ro x.2))→AOkL C h N sp.args vs →
 ∃ v h' n',Cl C.E sp.f vs h n (.ret v h' n')∧(∀ b,b<n→h'.get b=h.get b)∧n≤n'∧(∀ b,n'≤b→h'.get b=none)∧∃ bs,ROk C h' n n' sp.res v bs∧bs.Nodup
section
variable {C:Cfg}{R:Nat}{F:Nat→Prop}{h0:T Blk}{n0:Nat}{s:S}{ν:List Value}{β:List (Option Nat)}{t:T Value}{h:T Blk}{n:Nat}
theorem DR.cur_up{N N':Nat}(hN:N≤N'){ct:CT}{v:Value}(hd:DR C N h .cur ct v):DR C N' h .cur ct v:=by
 cases ct with
 | sl q=>obtain⟨r,h1,h2⟩:=hd;exact⟨r,Nat.lt_of_lt_of_le h1 hN,h2⟩
 | int k=>exact hd
 | bool=>exact hd
 | str=>exact hd
theorem DR.bound{ct:CT}{v:Value}(hd:DR C R h .top ct v):∃ N,DR C N h .cur ct v:=by
 cases ct with
 | sl q=>obtain⟨r,_,h2⟩:=hd;exact⟨r+1,r,Nat.lt_succ_self r,h2⟩
 | int k=>exact⟨0,hd⟩
 | bool=>exact⟨0,hd⟩
 | str=>exact⟨0,hd⟩
theorem Rows.bound{cts:List CT}{cs:List Value}(hr:Rows C R h .top cts cs):∃ N0,∀ N,N0≤N→Rows C N h .cur cts cs:=by
 have:∀ m:Nat,∃ N0,∀ N,N0≤N→∀ i x ct,i<m→nth cs i=some x→nth cts (i % cts.length)=some ct→DR C N h .cur ct x:=by
  intro m
  induction m with
  | zero=>exact⟨0,fun N _ i x ct hi=>by omega⟩
  | succ m ih =>
    obtain⟨N1,h1⟩:=ih;cases hx:nth cs m with
    | none=>exact⟨N1,fun N hN i x ct hi hxi hct=>by
     by_cases e:i=m
     ·subst e;rw[hx] at hxi;cases hxi
     ·exact h1 N hN i x ct (by omega) hxi hct⟩
    | some y =>
      cases hc:nth cts (m % cts.length) with
      | none=>exact⟨N1,fun N hN i x ct hi hxi hct=>by
       by_cases e:i=m
       ·subst e;rw[hc] at hct;cases hct
       ·exact h1 N hN i x ct (by omega) hxi hct⟩
      | some c =>
        obtain⟨N2,h2⟩:=(hr m y c hx hc).bound;exact⟨max N1 N2,fun N hN i x ct hi hxi hct=>by
         by_cases e:i=m
         ·subst e;rw[hx] at hxi;rw[hc] at hct;cases hxi;cases hct;exact h2.cur_up (by omega)
         ·exact h1 N (by omega) i x ct (by omega) hxi hct⟩
 obtain⟨N0,h0⟩:=this cs.length;refine⟨N0,fun N hN i x ct hx hct=>h0 N hN i x ct ?_ hx hct⟩;rw[nth_eq] at hx;exact(gsI hx).1
theorem Rows.low{cts:List CT}{cs:List Value}(hr:Rows C R h .low cts cs):Rows C (R-1) h .cur cts cs:=by
 intro i x ct hx hct;have hd:=hr i x ct hx hct;cases ct with
 | sl q =>
   obtain⟨r,h1,h2⟩:=hd;have h1:r+1<R:=h1;exact⟨r,(by show r<R-1;omega),h2⟩
 | int k=>exact hd
 | bool=>exact hd
 | str=>exact hd
theorem osOK_ok(g:Ga C R F h0 n0 s ν β t h n){rk:RK}{i sz q m:Nat}{len low:IE}(hm:osOK C s rk i len low sz q m=true){v:Value}(hv:V ν β (.os i len low sz) v) :
 ∃ cts,nth C.Γ q=some cts∧0<cts.length∧(v= .slice none 0 0∨∃ b L W c cs,v= .slice (some ⟨b,0,none⟩) L c∧h.get b=some (.cells cs)∧cs.length=W * cts.length∧L≤W∧W<1000000000∧(c=UNK * cts.length+W∨c=W)∧Rows C R h rk cts cs∧L≤m):=by
 unfold osOK at hm;split at hm
 ·rename_i cts hq;simp only[baT,beqT,bltT] at hm;obtain⟨⟨⟨rfl,hp⟩,hle⟩,hm⟩:=hm;refine⟨cts,hq,hp,?_⟩;split at hm
  ·rename_i l hl;split at hm
   ·rename_i m' hlow;obtain⟨o,ho,hao⟩:=g.hp i _ hl;cases hv with
    | osn _ _ _ _=>exact .inl rfl
    | os hb h1 h2 h3 h4 h5 h6 =>
      rename_i b L W c;rw[hb] at ho;cases ho;obtain⟨cs,k1,k2,k3⟩:=hao;obtain⟨r1,r2⟩:=rowsS_ok g hm k2;have:W=m':=by have:=evI_inj h2 (ieN_ok hlow);omega
      subst this;exact .inr ⟨b,L,W,c,cs,rfl,k1,r2,h3,h4,h5,r1,by have:=g.ie hle h1 (evI_ieC _);omega⟩
   ·cases hm
  ·rename_i q' rk' low' hl _;simp only[baT,beqT] at hm;obtain⟨⟨rfl,c2⟩,c3⟩:=hm;have:=ieEq_ok c3;subst this;obtain⟨o,ho,hao⟩:=vecG_ok g hl;cases hv with
   | osn _ _ _ _=>exact .inl rfl
   | os hb h1 h2 h3 h4 h5 h6 =>
     rename_i b L W c;rw[hb] at ho;cases ho;obtain⟨cs,cts',W',k1,k2,k3,k4,k5,k6⟩:=hao;rw[hq] at k2;cases k2;have:W'=W:=by have:=evI_inj h2 k4;omega
     subst this;exact .inr ⟨b,L,W',c,cs,rfl,k1,k5,h3,h4,h5,fun j x ct hx hct=>(k6 j x ct hx hct).le c2,by have:=g.ie hle h1 (evI_ieC _);omega⟩
  ·cases hm
 ·cases hm
theorem vs_form{rk:RK}{f:Nat}{x:SV}{q m:Nat}(hm:matchA C s rk f x (.vs q m)=true):(∃ i len low sz,x= .os i len low sz∧osOK C s rk i len low sz q m=true)∨(x= .lit (.slice none 0 0)∧∃ cts,nth C.Γ q=some cts∧0<cts.length):=by
 cases x with
 | os i len low sz=>exact .inl ⟨_,_,_,_,rfl,by cases f<;>exact hm⟩
 | lit w =>
   right;cases w with
   | slice a l c =>
     cases a with
     | some a=>cases f<;>simp[matchA] at hm
     | none =>
       cases l<;>cases c<;>first
        | (refine⟨rfl,?_⟩
           have hm':(match nth C.Γ q with|some cts=>Nat.blt 0 cts.length|none=>false)=true:=by cases f<;>exact hm
           split at hm'
           ·rename_i cts hq;exact⟨cts,hq,by rw[bltT] at hm';exact hm'⟩
           ·cases hm')
        | (cases f<;>simp[matchA] at hm)
   | _=>cases f<;>simp[matchA] at hm
 | _=>cases f<;>simp[matchA] at hm
theorem nilf_form{rk:RK}{f:Nat}{x:SV}(hm:matchA C s rk f x .nilf=true):x= .lit .nilFunc:=by
 cases x with
 | lit w=>cases w<;>first|rfl|(cases f<;>simp[matchA] at hm)
 | _=>cases f<;>simp[matchA] at hm
theorem matchA_top(g:Ga C R F h0 n0 s ν β t h n):∀ (f:Nat){x:SV}{a:AT}{v:Value},matchA C s .top f x a=true→V ν β x v→∃ N0,∀ N,N0≤N→AOk C h N a v:=by
 have hsc:∀ (f:Nat) {x:SV} {a:AT} {v:Value},(∀ l,a≠ .agg l)→(∀ f l,a≠ .fn f l)→(∀ l,a≠ .cellp l)→matchA C s .top f x a=true→V ν β x v→∃ N0,∀ N,N0≤N→AOk C h N a v:=by
  intro f x a v n1 n2 n3 hm hv;cases a with
  | int k =>
    have:∃ e,x= .i k e:=by
     cases x<;>(cases f<;>simp[matchA] at hm)
     all_goals (rw[kindB_eq hm];exact⟨_,rfl⟩)
    obtain⟨e,rfl⟩:=this;cases hv with
    | i h1 h2 h3=>exact⟨0,fun N _=> .int h2 h3⟩
  | bool =>
    have:isBool x=true:=by cases x<;>(cases f<;>exact hm)
    obtain⟨b,rfl⟩:=isBool_ok this hv;exact⟨0,fun N _=> .bool b⟩
  | str =>
    have:isStr x=true:=by cases x<;>(cases f<;>exact hm)
    obtain⟨z,rfl,hz⟩:=isStr_ok this hv;exact⟨0,fun N _=> .str hz⟩
  | sl q =>
    have:svCT s .top x (.sl q)=true:=by cases x<;>(cases f<;>exact hm)
    obtain⟨r,_,hd⟩:=svCT_ok g this hv;exact⟨r+1,fun N hN=> .sl (r:=r) (by omega) hd⟩
  | nilf =>
    have:=nilf_form hm;subst this;cases hv;exact⟨0,fun N _=> .nilf⟩
  | vs q m =>
    rcases vs_form hm with⟨i,len,low,sz,rfl,hm⟩|⟨rfl,cts,hq,hp⟩
    ·obtain⟨cts,hq,hp,rfl|⟨b,L,W,c,cs,rfl,k1,k2,k3,k4,k5,k6,k7⟩⟩:=osOK_ok g hm hv
     ·exact⟨0,fun N _=> .vsn hq hp⟩
     ·obtain⟨N0,hN⟩:=k6.bound;exact⟨N0,fun N hN0=> .vs k1 hq hp k2 k3 k4 k5 (hN N hN0) k7⟩
    ·cases hv;exact⟨0,fun N _=> .vsn hq hp⟩
  | agg l=>exact absurd rfl (n1 _)
  | fn f l=>exact absurd rfl (n2 _ _)
  | cellp l=>exact absurd rfl (n3 _)
 intro f
 induction f with
 | zero =>
   intro x a v hm hv;exact hsc 0 (fun l e=>by subst e;cases x<;>cases hm) (fun f l e=>by subst e;cases x<;>cases hm) (fun l e=>by subst e;cases x<;>cases hm) hm hv
 | succ f ih =>
   have hL:∀ {l:List SV} {m:List AT} {vs:List Value},matchA.ml C s .top f l m=true→VL ν β l vs→∃ N0,∀ N,N0≤N→AOkL C h N m vs:=by
    intro l
    induction l with
    | nil =>
      intro m vs hm hl;cases hl;cases m with
      | nil=>exact⟨0,fun N _=> .nil⟩
      | cons _ _=>simp[matchA.ml] at hm
    | cons x l ihl =>
      intro m vs hm hl;cases m with
      | nil=>simp[matchA.ml] at hm
      | cons a m =>
        cases hl with
        | cons hx hl =>
          simp only[matchA.ml,baT] at hm;obtain⟨N1,h1⟩:=ih hm.1 hx;obtain⟨N2,h2⟩:=ihl hm.2 hl;exact⟨max N1 N2,fun N hN=> .cons (h1 N (by omega)) (h2 N (by omega))⟩
   intro x a v hm hv;cases a with
   | agg m =>
     cases x<;>simp[matchA] at hm;cases hv with
     | agg hl =>
       obtain⟨N0,h1⟩:=hL hm hl;exact⟨N0,fun N hN=> .agg (h1 N hN)⟩
   | fn g' m =>
     cases x<;>simp[matchA] at hm;rename_i gg fi c;obtain⟨⟨rfl,rfl⟩,hm⟩:=hm;cases hv with
     | f ha hc =>
       cases ha;obtain⟨N0,h1⟩:=hL hm hc;exact⟨N0,fun N hN=> .fn (h1 N hN)⟩
   | cellp m =>
     cases x<;>simp[matchA] at hm;rename_i i o;obtain⟨rfl,hm⟩:=hm;split at hm
     ·rename_i l hl;obtain⟨b,cs,k1,k2,k3⟩:=cellsG_ok g hl;cases hv with
      | p hb =>
        rw[k1] at hb;cases hb;obtain⟨N0,h1⟩:=hL hm k3;exact⟨N0,fun N hN=> .cellp k2 (h1 N hN)⟩
     ·cases hm
   | _=>exact hsc (f+1) (by simp) (by simp) (by simp) hm hv
theorem matchL_top(g:Ga C R F h0 n0 s ν β t h n){f:Nat}:∀ {l:List SV}{m:List AT}{vs:List Value},matchA.ml C s .top f l m=true→VL ν β l vs→∃ N0,∀ N,N0≤N→AOkL C h N m vs
 | [],[],_,_,.nil=>⟨0,fun N _=> .nil⟩
 | [],_ :: _,_,hm,_=>by simp[matchA.ml] at hm
 | _ :: _,[],_,hm,_=>by simp[matchA.ml] at hm
 | x :: l,a :: m,_,hm,.cons hx hl=>by simp only[matchA.ml,baT] at hm;obtain⟨N1,h1⟩:=matchA_top g f hm.1 hx;obtain⟨N2,h2⟩:=matchL_top g hm.2 hl;exact⟨max N1 N2,fun N hN=> .cons (h1 N (by omega)) (h2 N (by omega))⟩
theorem matchA_low(g:Ga C R F h0 n0 s ν β t h n):∀ (f:Nat){x:SV}{a:AT}{v:Value},matchA C s .low f x a=true→V ν β x v→AOk C h (R-1) a v∧(hasSl f a=true→0<R):=by
 have hsc:∀ (f:Nat) {x:SV} {a:AT} {v:Value},(∀ l,a≠ .agg l)→(∀ f l,a≠ .fn f l)→(∀ l,a≠ .cellp l)→matchA C s .low f x a=true→V ν β x v→AOk C h (R-1) a v∧(hasSl f a=true→0<R):=by
  intro f x a v n1 n2 n3 hm hv;cases a with
  | int k =>
    have:∃ e,x= .i k e:=by
     cases x<;>(cases f<;>simp[matchA] at hm)
     all_goals (rw[kindB_eq hm];exact⟨_,rfl⟩)
    obtain⟨e,rfl⟩:=this;cases hv with
    | i h1 h2 h3=>exact⟨.int h2 h3,fun hh=>by cases f<;>cases hh⟩
  | bool =>
    have:isBool x=true:=by cases x<;>(cases f<;>exact hm)
    obtain⟨b,rfl⟩:=isBool_ok this hv;exact⟨.bool b,fun hh=>by cases f<;>cases hh⟩
  | str =>
    have:isStr x=true:=by cases x<;>(cases f<;>exact hm)
    obtain⟨z,rfl,hz⟩:=isStr_ok this hv;exact⟨.str hz,fun hh=>by cases f<;>cases hh⟩
  | sl q =>
    have:svCT s .low x (.sl q)=true:=by cases x<;>(cases f<;>exact hm)
    obtain⟨r,hr,hd⟩:=svCT_ok g this hv;have hr:r+1<R:=hr;exact⟨.sl (r:=r) (by omega) hd,fun _=>by omega⟩
  | nilf =>
    have:=nilf_form hm;subst this;cases hv;exact⟨.nilf,fun hh=>by cases f<;>cases hh⟩
  | vs q m =>
    rcases vs_form hm with⟨i,len,low,sz,rfl,hm⟩|⟨rfl,cts,hq,hp⟩
    ·obtain⟨cts,hq,hp,rfl|⟨b,L,W,c,cs,rfl,k1,k2,k3,k4,k5,k6,k7⟩⟩:=osOK_ok g hm hv
     ·exact⟨.vsn hq hp,fun hh=>by cases f<;>cases hh⟩
     ·exact⟨.vs k1 hq hp k2 k3 k4 k5 k6.low k7,fun hh=>by cases f<;>cases hh⟩
    ·cases hv;exact⟨.vsn hq hp,fun hh=>by cases f<;>cases hh⟩
  | agg l=>exact absurd rfl (n1 _)
  | fn f l=>exact absurd rfl (n2 _ _)
  | cellp l=>exact absurd rfl (n3 _)
 intro f
 induction f with
 | zero =>
   intro x a v hm hv;exact hsc 0 (fun l e=>by subst e;cases x<;>cases hm) (fun f l e=>by subst e;cases x<;>cases hm) (fun l e=>by subst e;cases x<;>cases hm) hm hv
 | succ f ih =>
   have hL:∀ {l:List SV} {m:List AT} {vs:List Value},matchA.ml C s .low f l m=true→VL ν β l vs→AOkL C h (R-1) m vs∧(m.any (hasSl f)=true→0<R):=by
    intro l
    induction l with
    | nil =>
      intro m vs hm hl;cases hl;cases m with
      | nil=>exact⟨.nil,fun hh=>by simp at hh⟩
      | cons _ _=>simp[matchA.ml] at hm
    | cons x l ihl =>
      intro m vs hm hl;cases m with
      | nil=>simp[matchA.ml] at hm
      | cons a m =>
        cases hl with
        | cons hx hl =>
          simp only[matchA.ml,baT] at hm;obtain⟨h1,k1⟩:=ih hm.1 hx;obtain⟨h2,k2⟩:=ihl hm.2 hl;refine⟨.cons h1 h2,fun hh=>?_⟩;simp only[List.any_cons,Bool.or_eq_true] at hh;rcases hh with hh|hh
          ·exact k1 hh
          ·exact k2 hh
   intro x a v hm hv;cases a with
   | agg m =>
     cases x<;>simp[matchA] at hm;cases hv with
     | agg hl =>
       obtain⟨h1,k1⟩:=hL hm hl;exact⟨.agg h1,k1⟩
   | fn g' m =>
     cases x<;>simp[matchA] at hm;rename_i gg fi c;obtain⟨⟨rfl,rfl⟩,hm⟩:=hm;cases hv with
     | f ha hc =>
       cases ha;obtain⟨h1,k1⟩:=hL hm hc;exact⟨.fn h1,k1⟩
   | cellp m =>
     cases x<;>simp[matchA] at hm;rename_i i o;obtain⟨rfl,hm⟩:=hm;split at hm
     ·rename_i l hl;obtain⟨b,cs,k1,k2,k3⟩:=cellsG_ok g hl;cases hv with
      | p hb =>
        rw[k1] at hb;cases hb;obtain⟨h1,k1⟩:=hL hm k3;exact⟨.cellp k2 h1,k1⟩
     ·cases hm
   | _=>exact hsc (f+1) (by simp) (by simp) (by simp) hm hv
theorem matchL_low(g:Ga C R F h0 n0 s ν β t h n){f:Nat}:∀ {l:List SV}{m:List AT}{vs:List Value},matchA.ml C s .low f l m=true→VL ν β l vs→AOkL C h (R-1) m vs∧(m.any (hasSl f)=true→0<R)
 | [],[],_,_,.nil=>⟨.nil,fun hh=>by simp at hh⟩
 | [],_ :: _,_,hm,_=>by simp[matchA.ml] at hm
 | _ :: _,[],_,hm,_=>by simp[matchA.ml] at hm
 | x :: l,a :: m,_,hm,.cons hx hl=>by
   simp only[matchA.ml,baT] at hm;obtain⟨h1,k1⟩:=matchA_low g f hm.1 hx;obtain⟨h2,k2⟩:=matchL_low g hm.2 hl;refine⟨.cons h1 h2,fun hh=>?_⟩;simp only[List.any_cons,Bool.or_eq_true] at hh;rcases hh with hh|hh
   ·exact k1 hh
   ·exact k2 hh
end
end Go.Sx.Az
namespace Go.Sx.Az
noncomputable section
def dR:Nat→RT→Bool
 | f+1,.agg l=>l.all (dR f)
 | f+1,.tup l=>l.all (dR f)
 | 0,.agg _=>false
 | 0,.tup _=>false
 | _,_=>true
def mkV(s:S)(q:Nat):S :=
 {(((((s.name (.int .i64)).name (.int .i64)).fact (ieC 0) ⟨.v s.ty.length,0⟩).fact ⟨.v s.ty.length,0⟩ ⟨.v (s.ty.length+1),0⟩).fact ⟨.v (s.ty.length+1),0⟩ (ieC 1000000000)) with nb:=s.nb+1,rv:=put1 s.rv s.nb (q,.cur,⟨.v (s.ty.length+1),0⟩)}
def mkA(C:Cfg):Nat→S→AT→Option (SV×S)
 | _,s,.int k=>some ((freshC C s .cur (.int k)).2,(freshC C s .cur (.int k)).1)
 | _,s,.bool=>some ((freshC C s .cur .bool).2,(freshC C s .cur .bool).1)
 | _,s,.str=>some ((freshC C s .cur .str).2,(freshC C s .cur .str).1)
 | _,s,.sl q=>some ((freshC C s .cur (.sl q)).2,(freshC C s .cur (.sl q)).1)
 | _,s,.nilf=>some (.lit .nilFunc,s)
 | _,s,.vs q m=>(match nth C.Γ q with
   | some cts=>some (.os s.nb ⟨.v s.ty.length,0⟩ ⟨.v (s.ty.length+1),0⟩ cts.length,(mkV s q).fact ⟨.v s.ty.length,0⟩ (ieC m))
   | none=>none)
 | f+1,s,.agg l=>(match ml f s l with|some r=>some (.agg r.1,r.2)|none=>none)
 | f+1,s,.fn g l=>(match ml f s l with|some r=>some (.f g [] r.1,r.2)|none=>none)
 | f+1,s,.cellp l=>(match ml f s l with|some r=>some (.p r.2.nb 0,{r.2 with nb:=r.2.nb+1,r:=put1 r.2.r r.2.nb r.1})|none=>none)
 | 0,_,_=>none
where
 ml (f:Nat):S→List AT→Option (List SV×S)
  | s,[]=>some ([],s)
  | s,a :: l=>(match mkA C f s a with
    | some x=>(match ml f x.2 l with|some r=>some (x.1 :: r.1,r.2)|none=>none)
    | none=>none)
def matchR(C:Cfg)(s:S):Nat→SV→RT→Option (List Nat)
 | _,.i j _,.int k=>bif kindEq j k then some [] else none
 | _,x,.bool=>bif isBool x then some [] else none
 | _,x,.str=>bif isStr x then some [] else none
 | _,x,.sl q=>bif svCT s .top x (.sl q) then some [] else none
 | _,.os i len low sz,.fresh q m=>(match get1 s.h i,nth C.Γ q with
   | some (.vec q' _ low'),some cts=>bif Nat.beq q q'&&ieEq low low'&&Nat.beq sz cts.length&&leQ s len (ieC m) then some [i] else none
   | _,_=>none)
 | _,.lit (.slice none 0 0),.fresh q _=>(match nth C.Γ q with|some cts=>bif Nat.blt 0 cts.length then some [] else none|none=>none)
 | f+1,.agg l,.agg m=>ml f l m
 | f+1,.tup l,.tup m=>ml f l m
 | _,_,_=>none
where
 ml (f:Nat):List SV→List RT→Option (List Nat)
  | [],[]=>some []
  | x :: l,r :: m=>(match matchR C s f x r,ml f l m with|some a,some b=>some (a ++ b)|_,_=>none)
  | _,_=>none
def nodN:List Nat→Bool
 | []=>true
 | x :: l=> !memN x l&&nodN l
def s00:S:={t:=[],ty:=[],nb:=0,h:=[],fs:=[],r:=[],rv:=[]}
def specChk(C:Cfg)(T Rr:List Spec)(fuel:Nat)(sp:Spec):Bool :=
 match mkA.ml C 4 s00 sp.args with
 | some (args,s) =>
   (match inlineS C (anF C T Rr fuel) s sp.f args with
    | some outs=>outs.all (fun p=>match matchR C p.2 4 p.1 sp.res with|some is=>nodN is|none=>false)
    | none=>false)
 | none=>false
end
section
variable {C:Cfg}{R:Nat}{F:Nat→Prop}{h0:T Blk}{n0:Nat}{s:S}{ν:List Value}{β:List (Option Nat)}{t:T Value}{h:T Blk}{n:Nat}
theorem osName_ok(g:Ga C R F h0 n0 s ν β t h n){q:Nat}{rk:RK}{cts:List CT}{L W b c:Nat}{cs:List Value}(hb:b<n)(hF:¬ F b)(hno:∀ i a,get1 s.h i=some a→β[i]? ≠some (some b))(hg:h.get b=some (.cells cs))(hq:nth C.Γ q=some cts)(hp:0<cts.length)(hl:cs.length=W * cts.length)(hLW:L≤W)(hW:W<1000000000)
 (hc:c=UNK * cts.length+W∨c=W) (hr:Rows C R h rk cts cs):∃ ν' β',Ext ν β ν' β'∧Ga C R F h0 n0 (addV C s (.os q rk cts.length)).2 ν' β' t h n∧V ν' β' (addV C s (.os q rk cts.length)).1 (.slice (some ⟨b,0,none⟩) L c) ∧
  ∀ i a d,get1 (addV C s (.os q rk cts.length)).2.h i=some a→β'[i]? =some (some d)→d=b∨∃ j a',get1 s.h j=some a'∧β[j]? =some (some d):=by
 obtain⟨g1,a1⟩:=g.name (N:= .int .i64) (v:= .int .i64 (L:Int)) ⟨_,rfl,by show(-9223372036854775808:Int)≤_;omega,by show _≤(9223372036854775807:Int);omega⟩;obtain⟨g2,a2⟩:=g1.name (N:= .int .i64) (v:= .int .i64 (W:Int)) ⟨_,rfl,by show(-9223372036854775808:Int)≤_;omega,by show _≤(9223372036854775807:Int);omega⟩;have hty:(s.name (.int .i64)).ty.length=s.ty.length+1:=by simp[S.name]
 rw[hty] at a2;have e1:=Ext.name ν β (.int .i64 (L:Int));have e2:=Ext.name (ν ++ [.int .i64 (L:Int)]) β (.int .i64 (W:Int));have hL:evI (ν ++ [.int .i64 (L:Int)] ++ [.int .i64 (W:Int)]) ⟨.v s.ty.length,0⟩=some (L:Int):=by simp only[evI,evB,e2.at a1,Int.add_zero]
 have hW':evI (ν ++ [.int .i64 (L:Int)] ++ [.int .i64 (W:Int)]) ⟨.v (s.ty.length+1),0⟩=some (W:Int):=by simp only[evI,evB,a2,Int.add_zero]
 have g3:=((g2.fact (a:=ieC 0) (b:=⟨.v s.ty.length,0⟩) ⟨_,_,evI_ieC 0,hL,by omega⟩).fact (a:=⟨.v s.ty.length,0⟩) (b:=⟨.v (s.ty.length+1),0⟩) ⟨_,_,hL,hW',by omega⟩).fact (a:=⟨.v (s.ty.length+1),0⟩) (b:=ieC 1000000000) ⟨_,_,hW',evI_ieC _,by omega⟩;have g4:=g3.addB (a:= .vec q rk ⟨.v (s.ty.length+1),0⟩) hb hF hno ⟨cs,cts,W,hg,hq,hp,hW',hl,hr⟩;have hnew:(β ++ [some b])[s.nb]? =some (some b):=by rw[←g.bl];simp
 refine⟨_,_,(e1.trans e2).trans (Ext.blk _ _ _),g4,.os hnew hL hW' hLW hW hc hp,fun i a d hi hd=>?_⟩;by_cases hn:i=s.nb
 ·subst hn;rw[hnew] at hd;cases hd;exact .inl rfl
 ·simp only[addV,S.blk,S.fact,S.name] at hi;rw[get1_put,if_neg hn] at hi;have hlt:=(gsI hd).1;rw[List.length_append] at hlt;simp only[List.length_cons,List.length_nil] at hlt;exact .inr ⟨i,a,hi,gpre (by have:=g.bl;omega) hd⟩
theorem osNil_ok(g:Ga C R F h0 n0 s ν β t h n){q:Nat}{rk:RK}{cts:List CT}(hq:nth C.Γ q=some cts)(hp:0<cts.length):∃ ν' β',Ext ν β ν' β'∧Ga C R F h0 n0 (addV C s (.os q rk cts.length)).2 ν' β' t h n∧V ν' β' (addV C s (.os q rk cts.length)).1 (.slice none 0 0) ∧
 ∀ i a d,get1 (addV C s (.os q rk cts.length)).2.h i=some a→β'[i]? =some (some d)→∃ j a',get1 s.h j=some a'∧β[j]? =some (some d):=by
 obtain⟨g1,a1⟩:=g.name (N:= .int .i64) (v:= .int .i64 0) ⟨_,rfl,by show(-9223372036854775808:Int)≤_;omega,by show _≤(9223372036854775807:Int);omega⟩;obtain⟨g2,a2⟩:=g1.name (N:= .int .i64) (v:= .int .i64 0) ⟨_,rfl,by show(-9223372036854775808:Int)≤_;omega,by show _≤(9223372036854775807:Int);omega⟩;have hty:(s.name (.int .i64)).ty.length=s.ty.length+1:=by simp[S.name]
 rw[hty] at a2;have e1:=Ext.name ν β (.int .i64 0);have e2:=Ext.name (ν ++ [.int .i64 0]) β (.int .i64 0);have hL:evI (ν ++ [.int .i64 0] ++ [.int .i64 0]) ⟨.v s.ty.length,0⟩=some 0:=by simp only[evI,evB,e2.at a1,Int.add_zero]
 have hW':evI (ν ++ [.int .i64 0] ++ [.int .i64 0]) ⟨.v (s.ty.length+1),0⟩=some 0:=by simp only[evI,evB,a2,Int.add_zero]
 have g3:=((g2.fact (a:=ieC 0) (b:=⟨.v s.ty.length,0⟩) ⟨_,_,evI_ieC 0,hL,by omega⟩).fact (a:=⟨.v s.ty.length,0⟩) (b:=⟨.v (s.ty.length+1),0⟩) ⟨_,_,hL,hW',by omega⟩).fact (a:=⟨.v (s.ty.length+1),0⟩) (b:=ieC 1000000000) ⟨_,_,hW',evI_ieC _,by omega⟩;have g4:=g3.nob (a:= .vec q rk ⟨.v (s.ty.length+1),0⟩) ⟨hW',cts,hq,hp⟩;have hnew:(β ++ [none])[s.nb]? =some none:=by rw[←g.bl];simp
 refine⟨_,_,(e1.trans e2).trans (Ext.blk _ _ _),g4,.osn hnew hL hW' hp,fun i a d hi hd=>?_⟩;by_cases hn:i=s.nb
 ·subst hn;rw[hnew] at hd;cases hd
 ·simp only[addV,S.blk,S.fact,S.name] at hi;rw[get1_put,if_neg hn] at hi;have hlt:=(gsI hd).1;rw[List.length_append] at hlt;simp only[List.length_cons,List.length_nil] at hlt;exact⟨i,a,hi,gpre (by have:=g.bl;omega) hd⟩
mutual
theorem ROk.bs{m:Nat}{rt:RT}{v:Value}{bs:List Nat}:ROk C h m n rt v bs→∀ b∈bs,m≤b∧b<n
 | .int _ _,b,hb=>by cases hb
 | .bool _,b,hb=>by cases hb
 | .str _,b,hb=>by cases hb
 | .sl _,b,hb=>by cases hb
 | .nil _ _,b,hb=>by cases hb
 | .fresh h1 h2 _ _ _ _ _ _ _ _ _,b,hb=>by simp only[List.mem_cons,List.not_mem_nil,or_false] at hb;subst hb;exact⟨h1,h2⟩
 | .agg hl,b,hb=>ROkL.bs hl b hb
 | .tup hl,b,hb=>ROkL.bs hl b hb
theorem ROkL.bs{m:Nat}{rt:List RT}{v:List Value}{bs:List Nat}:ROkL C h m n rt v bs→∀ b∈bs,m≤b∧b<n
 | .nil,b,hb=>by cases hb
 | .cons h1 h2,b,hb=>by
   rcases List.mem_append.1 hb with hb|hb
   ·exact ROk.bs h1 b hb
   ·exact ROkL.bs h2 b hb
end
theorem DR.top0{R R':Nat}{ct:CT}{v:Value}(hd:DR C R h .top ct v):DR C R' h .top ct v:=by
 cases ct with
 | sl q=>obtain⟨r,_,h2⟩:=hd;exact⟨r,trivial,h2⟩
 | int k=>exact hd
 | bool=>exact hd
 | str=>exact hd
def MkOK(C:Cfg)(R:Nat)(F:Nat→Prop)(h0:T Blk)(n0:Nat)(s:S)(ν:List Value)(β:List (Option Nat))(t:T Value)(h:T Blk)(n:Nat)(bs:List Nat)(s':S)(P:List Value→List (Option Nat)→Prop):Prop :=
 ∃ ν' β',Ext ν β ν' β'∧Ga C R F h0 n0 s' ν' β' t h n∧P ν' β'∧∀ i a d,get1 s'.h i=some a→β'[i]? =some (some d)→d∈bs∨∃ j a',get1 s.h j=some a'∧β[j]? =some (some d)
theorem mk_scalar(g:Ga C R F h0 n0 s ν β t h n)(hlim:C.lim≤16000000){rk:RK}{ct:CT}{v:Value}(hd:DR C R h rk ct v){bs:List Nat}:MkOK C R F h0 n0 s ν β t h n bs (freshC C s rk ct).1 (fun ν' β'=>V ν' β' (freshC C s rk ct).2 v):=by obtain⟨ν1,e1,g1,v1⟩:=freshC_ok g hlim hd;refine⟨ν1,β,e1,g1,v1,fun i a d hi hd=> .inr ⟨i,a,?_,hd⟩⟩;cases ct<;>exact hi
theorem mkR_ok(hlim:C.lim≤16000000){m:Nat}:∀ (f:Nat){rt:RT}{v:Value}{bs:List Nat}{s:S}{ν:List Value}{β:List (Option Nat)},Ga C R F h0 n0 s ν β t h n→ROk C h m n rt v bs→dR f rt=true→bs.Nodup→(∀ b∈bs,¬ F b∧∀ i a,get1 s.h i=some a→β[i]? ≠some (some b)) →
 MkOK C R F h0 n0 s ν β t h n bs (mkR C f s rt).2 (fun ν' β'=>V ν' β' (mkR C f s rt).1 v):=by
 have hsc:∀ (f:Nat) {rt:RT} {v:Value} {bs:List Nat} {s:S} {ν:List Value} {β:List (Option Nat)},(∀ l,rt≠ .agg l)→(∀ l,rt≠ .tup l)→Ga C R F h0 n0 s ν β t h n→ROk C h m n rt v bs→(∀ b∈bs,¬ F b∧∀ i a,get1 s.h i=some a→β[i]? ≠some (some b)) →
  MkOK C R F h0 n0 s ν β t h n bs (mkR C f s rt).2 (fun ν' β'=>V ν' β' (mkR C f s rt).1 v):=by
  intro f rt v bs s ν β n1 n2 g hr hbs;cases hr with
  | @int k x h1 h2=>cases f<;>exact mk_scalar g hlim (rk:= .top) (ct:= .int k) (v:= .int k x) (D.int h1 h2)
  | bool x=>cases f<;>exact mk_scalar g hlim (rk:= .top) (ct:= .bool) (v:= .bool x) (D.bool x)
  | @str z h1=>cases f<;>exact mk_scalar g hlim (rk:= .top) (ct:= .str) (v:= .string z) (D.str h1)
  | @sl q r v hd=>cases f<;>exact mk_scalar g hlim (rk:= .top) (ct:= .sl q) (v:=v) ⟨_,trivial,hd⟩
  | @nil q k cts hq hp =>
    obtain⟨ν',β',e1,g1,v1,l1⟩:=osNil_ok g (rk:= .top) hq hp;have:mkR C f s (.fresh q k)=((addV C s (.os q .top cts.length)).1,(addV C s (.os q .top cts.length)).2.fact ⟨.v s.ty.length,0⟩ (ieC k)):=by cases f<;>simp only[mkR,mkOs,hq]
    rw[this];have hlow:evI ν' ⟨.v s.ty.length,0⟩=some 0:=by cases v1;assumption
    exact⟨ν',β',e1,g1.fact ⟨_,_,hlow,evI_ieC _,by omega⟩,v1,fun i a d hi hd=> .inr (l1 i a d hi hd)⟩
  | @fresh q k b L W c cts cs hb hn hg hq hp hl hLW hW hc hr hk =>
    obtain⟨k1,k2⟩:=hbs b (mcS ..);obtain⟨ν',β',e1,g1,v1,l1⟩:=osName_ok g (rk:= .top) hn k1 k2 hg hq hp hl hLW hW hc (fun i x ct hx hct=>(hr i x ct hx hct).top0);have:mkR C f s (.fresh q k)=((addV C s (.os q .top cts.length)).1,(addV C s (.os q .top cts.length)).2.fact ⟨.v s.ty.length,0⟩ (ieC k)):=by cases f<;>simp only[mkR,mkOs,hq]
    rw[this];have hlow:evI ν' ⟨.v s.ty.length,0⟩=some (L:Int):=by
     cases v1 with
     | os a1 a2 a3 a4 a5 a6 a7=>exact a2
    refine⟨ν',β',e1,g1.fact ⟨_,_,hlow,evI_ieC _,by omega⟩,v1,fun i a d hi hd=>?_⟩;rcases l1 i a d hi hd with rfl|l1
    ·exact .inl (mcS ..)
    ·exact .inr l1
  | agg _=>exact absurd rfl (n1 _)
  | tup _=>exact absurd rfl (n2 _)
 intro f
 induction f with
 | zero =>
   intro rt v bs s ν β g hr hdep hnd hbs;exact hsc 0 (fun l e=>by subst e;cases hdep) (fun l e=>by subst e;cases hdep) g hr hbs
 | succ f ih =>
   have hL:∀ {l:List RT} {vs:List Value} {bs:List Nat} {s:S} {ν:List Value} {β:List (Option Nat)},Ga C R F h0 n0 s ν β t h n→ROkL C h m n l vs bs→l.all (dR f)=true→bs.Nodup→(∀ b∈bs,¬ F b∧∀ i a,get1 s.h i=some a→β[i]? ≠some (some b)) →
    MkOK C R F h0 n0 s ν β t h n bs (mkR.ml C f s l).2 (fun ν' β'=>VL ν' β' (mkR.ml C f s l).1 vs):=by
    intro l
    induction l with
    | nil =>
      intro vs bs s ν β g hr _ _ _;cases hr;exact⟨ν,β,.rfl',g,.nil,fun i a d hi hd=> .inr ⟨i,a,hi,hd⟩⟩
    | cons r l ihl =>
      intro vs bs s ν β g hr hdep hnd hbs;cases hr with
      | @cons _ _ v vs b1 b2 h1 h2 =>
        simp only[List.all_cons,baT] at hdep;rw[List.nodup_append] at hnd;obtain⟨d1,d2,d3⟩:=hnd;obtain⟨ν1,β1,e1,g1,v1,l1⟩:=ih g h1 hdep.1 d1 fun b hb=>hbs b (List.mem_append_left _ hb)
        obtain⟨ν2,β2,e2,g2,v2,l2⟩:=ihl g1 h2 hdep.2 d2 fun b hb=>by
         refine⟨(hbs b (List.mem_append_right _ hb)).1,fun i a hi hib=>?_⟩;rcases l1 i a b hi hib with hm|⟨j,a',j1,j2⟩
         ·exact d3 b hm b hb rfl
         ·exact(hbs b (List.mem_append_right _ hb)).2 j a' j1 j2
        refine⟨ν2,β2,e1.trans e2,g2,.cons (v1.ext e2) v2,fun i a d hi hd=>?_⟩;rcases l2 i a d hi hd with hm|⟨j,a',j1,j2⟩
        ·exact .inl (List.mem_append_right _ hm)
        ·rcases l1 j a' d j1 j2 with hm|hm
         ·exact .inl (List.mem_append_left _ hm)
         ·exact .inr hm
   intro rt v bs s ν β g hr hdep hnd hbs;cases rt with
   | agg l =>
     cases hr with
     | agg hl =>
       obtain⟨ν1,β1,e1,g1,v1,l1⟩:=hL g hl hdep hnd hbs;exact⟨ν1,β1,e1,g1,.agg v1,l1⟩
   | tup l =>
     cases hr with
     | tup hl =>
       obtain⟨ν1,β1,e1,g1,v1,l1⟩:=hL g hl hdep hnd hbs;exact⟨ν1,β1,e1,g1,.tup v1,l1⟩
   | _=>exact hsc (f+1) (by simp) (by simp) g hr hbs
theorem findSp_ok{rk:RK}{f:FuncId}{args:List SV}{sp:Spec}:∀ {l:List Spec},findSp C s rk f args l=some sp→sp∈l∧sp.f=f∧matchA.ml C s rk 4 args sp.args=true
 | [],hx=>by simp[findSp] at hx
 | x :: l,hx=>by
   simp only[findSp,biE] at hx;split at hx
   ·rename_i hc;cases hx;rw[baT,beqT] at hc;exact⟨mcS ..,hc.1,hc.2⟩
   ·obtain⟨h1,h2⟩:=findSp_ok hx;exact⟨mcM _ h1,h2⟩
theorem spCall_ok(hlim:C.lim≤16000000)(g:Ga C R F h0 n0 s ν β t h n){sp:Spec}{N:Nat}(hsp:SpecAt C N sp)(hdep:dR 4 sp.res=true){vs:List Value}(ha:AOkL C h N sp.args vs) :
 ∃ v h' n',Cl C.E sp.f vs h n (.ret v h' n')∧∃ p∈ [mkR C 4 s sp.res],∃ ν' β',Ext ν β ν' β'∧Ga C R F h0 n0 p.2 ν' β' t h' n'∧V ν' β' p.1 v:=by
 obtain⟨v,h',n',h1,h2,h3,h4,bs,h5,h6⟩:=hsp h n vs g.fr g.gr ha;have g':=g.kept h2 h3 h4;obtain⟨ν1,β1,e1,g1,v1,_⟩:=mkR_ok hlim 4 g' h5 hdep h6 fun b hb=>by
  have:=(h5.bs b hb).1;refine⟨fun hf=>?_,fun i a hi hib=>?_⟩
  ·have:=(g.pr b hf).1;omega
  ·have:=g.bb i b hib;omega
 exact⟨v,h',n',h1,_,mcS ..,ν1,β1,e1,g1,v1⟩
theorem resS1_ok(hlim:C.lim≤16000000):∀ {l:List ResultVar}{s:S}{ν:List Value}{xs:List SV}{s':S},Ga C R F h0 n0 s ν β t h n→resS1 C s l=some (xs,s')→∃ vs ν',resL C.E t h l=some vs∧Ext ν β ν' β∧Ga C R F h0 n0 s' ν' β t h n∧VL ν' β xs vs
 | [],s,ν,xs,s',g,hx=>by simp only[resS1,Option.some.injEq,Prod.mk.injEq] at hx;obtain⟨rfl,rfl⟩:=hx;exact⟨[],ν,rfl,.rfl',g,.nil⟩
 | .tmp k :: l,s,ν,xs,s',g,hx=>by
   simp only[resS1] at hx;split at hx
   ·rename_i x r hk hr;cases hx;obtain⟨v,h1,h2⟩:=g.tm k x hk;obtain⟨vs,ν',h3,h4,h5,h6⟩:=resS1_ok hlim g hr;exact⟨v :: vs,ν',by simp only[resL,h1,h3],h4,h5,.cons (h2.ext h4) h6⟩
   ·cases hx
 | .cell a ty :: l,s,ν,xs,s',g,hx=>by
   simp only[resS1] at hx;split at hx
   ·rename_i p hp;split at hx
    ·rename_i x s1 hl;split at hx
     ·rename_i r hr;cases hx;obtain⟨v,h1,h2⟩:=g.tm a p hp;obtain⟨w,ν1,h3,h4,h5,h6⟩:=ldS_ok g hlim hl h2;obtain⟨vs,ν',h7,h8,h9,h10⟩:=resS1_ok hlim h5 hr;exact⟨w :: vs,ν',by simp only[resL,h1,h3,h7],h4.trans h8,h9,.cons (h6.ext h8) h10⟩
     ·cases hx
    ·cases hx
   ·cases hx
theorem resS_ok(hlim:C.lim≤16000000)(g:Ga C R F h0 n0 s ν β t h n){fn:Func}{r:SV×S}(hr:resS C fn s=some r):∃ v ν',resA C.E fn t h=some v∧Ext ν β ν' β∧Ga C R F h0 n0 r.2 ν' β t h n∧V ν' β r.1 v:=by
 unfold resS at hr;split at hr
 ·rename_i x s' hx;cases hr;obtain⟨vs,ν',h1,h2,h3,h4⟩:=resS1_ok hlim g hx;cases h4 with
  | cons hv hl =>
    cases hl;exact⟨_,ν',by simp only[resA,h1],h2,h3,hv⟩
 ·rename_i l s' hne hx;cases hr;obtain⟨vs,ν',h1,h2,h3,h4⟩:=resS1_ok hlim g hx;refine⟨.tuple ⟨vs⟩,ν',?_,h2,h3,.tup h4⟩;unfold resA;rw[h1];split
  ·rename_i v hv;cases hv;cases h4 with
   | cons hv hl=>cases hl;exact(hne _ rfl).elim
  ·rename_i l' _ hl';cases hl';rfl
  ·rename_i hl';cases hl'
 ·cases hr
theorem argP_ok:∀ {l:List SV}{vs:List Value}{i:Nat}{t:T Value},VL ν β l vs→∀ k x,get1 (argP l i) k=some x→∃ v,(argsT vs i t).get k=some v∧V ν β x v:=by
 have low:∀ {vs:List Value} {i k:Nat} {t:T Value},k<i→(argsT vs i t).get k=t.get k:=by
  intro vs
  induction vs with
  | nil=>intro i k t _;rfl
  | cons v vs ih =>
    intro i k t hk;simp only[argsT];rw[ih (by omega),T.gnE _ _ (by omega)]
 intro l
 induction l with
 | nil=>intro vs i t _ k x hx;simp[argP,get1] at hx
 | cons y l ih =>
   intro vs i t hl k x hx;cases hl with
   | cons hv hl =>
     rename_i v vs;simp only[argP] at hx;rw[get1_cons] at hx;split at hx
     ·rename_i e;cases hx;simp only at e;subst e;refine⟨v,?_,hv⟩;simp only[argsT];rw[low (by omega),T.gsE]
     ·exact ih hl k x hx
theorem inlineS_ok(hlim:C.lim≤16000000){an:AnS}(han:AnOK none C R F h0 n0 an):CallOK C R F h0 n0 (inlineS C an):=by
 intro s ν β t h n f args outs vs hr g hl;unfold inlineS at hr;split at hr
 ·rename_i fn hfn;split at hr
  ·rename_i c hc;rw[biE] at hr;split at hr
   ·rename_i hb;rw[baT] at hb;split at hr
    ·rename_i o ho;have g0:Ga C R F h0 n0 {s with t:=argP args 0} ν β (argsT vs 0 .leaf) h n:=g.tmps (argP_ok hl);obtain⟨e,t1,h1,n1,x1,p,hp,he,ν1,β1,e1,g1⟩:=han _ _ _ _ _ _ _ _ _ ho g0;obtain⟨r,hr1,hr2⟩:=mapO_at hr _ hp;rw[biE] at hr2;split at hr2
     ·rename_i hne;split at hr2
      ·rename_i q hq;cases hr2;obtain⟨v,ν2,k1,k2,k3,k4⟩:=resS_ok hlim g1 hq;have e12:=e1.trans k2;refine⟨v,h1,n1,?_,_,hr1,ν2,β1,e12,?_,k4⟩
       ·refine Cl.body ?_ hfn hc ?_ ?_ x1 k1
        ·unfold memoA;rw[Option.isNone_iff_eq_none.1 hb.2]
        ·rw[←hl.len];exact hb.1
        ·intro id hid;subst he;rw[hid] at hne;cases hne
       ·refine Ga.tmps k3 fun k x hk=>?_
        obtain⟨w,w1,w2⟩:=g.tm k x hk;exact⟨w,w1,w2.ext e12⟩
      ·cases hr2
     ·cases hr2
    ·cases hr
   ·cases hr
  ·cases hr
 ·cases hr
theorem callW_ok(hlim:C.lim≤16000000){an:AnS}(han:AnOK none C R F h0 n0 an){T1 T2:List Spec}(h1:∀ sp∈T1,dR 4 sp.res=true∧∀ N,SpecAt C N sp)(h2:∀ sp∈T2,dR 4 sp.res=true∧∀ N,N<R→SpecAt C N sp):CallOK C R F h0 n0 (callW C T1 T2 an):=by
 intro s ν β t h n f args outs vs hr g hl;unfold callW at hr;split at hr
 ·rename_i sp hsp;cases hr;obtain⟨k1,k2,k3⟩:=findSp_ok hsp;obtain⟨N0,h3⟩:=matchL_top g k3 hl;rw[←k2];exact spCall_ok hlim g ((h1 sp k1).2 N0) (h1 sp k1).1 (h3 N0 (nlR _))
 ·split at hr
  ·rename_i sp hsp;rw[biE] at hr;split at hr
   ·rename_i hs;cases hr;obtain⟨k1,k2,k3⟩:=findSp_ok hsp;obtain⟨h3,h4⟩:=matchL_low g k3 hl;rw[←k2];exact spCall_ok hlim g ((h2 sp k1).2 (R-1) (by have:=h4 hs;omega)) (h2 sp k1).1 h3
   ·cases hr
  ·exact inlineS_ok hlim han s ν β t h n f args outs vs hr g hl
theorem anF_ok(hlim:C.lim≤16000000){T1 T2:List Spec}(h1:∀ sp∈T1,dR 4 sp.res=true∧∀ N,SpecAt C N sp)(h2:∀ sp∈T2,dR 4 sp.res=true∧∀ N,N<R→SpecAt C N sp):∀ f,AnOK none C R F h0 n0 (anF C T1 T2 f)
 | 0=>fun many c s outs ν β t h n hr=>by simp[anF] at hr
 | f+1=>by have ih:=anF_ok hlim h1 h2 f;exact stepAn_ok (callW_ok hlim ih h1 h2) hlim ih (fun many b s outs ν β t h n hr g=>loopS_ok ih hlim 12 hr g) (.inr rfl)
end
end Go.Sx.Az
namespace Go.Sx.Az
section
variable {C:Cfg}{R:Nat}{F:Nat→Prop}{h0:T Blk}{n0:Nat}{s:S}{ν:List Value}{β:List (Option Nat)}{t:T Value}{h:T Blk}{n:Nat}
theorem Ga.addV(g:Ga C R F h0 n0 s ν β t h n){o:Option Nat}{x:Nat×RK×IE}(hb:∀ b,o=some b→b<n∧F b)(ha:ABok C R ν (β ++ [o]) h0 (.vec x.1 x.2.1 x.2.2) o):Ga C R F h0 n0 {s with nb:=s.nb+1,rv:=put1 s.rv s.nb x} ν (β ++ [o]) t h n∧(β ++ [o])[s.nb]? =some o:=by
 have he:Ext ν β ν (β ++ [o]):=Ext.blk _ _ _;have hnew:(β ++ [o])[s.nb]? =some o:=by rw[←g.bl];simp
 have hold:∀ {i:Nat} {p},i≠s.nb→(β ++ [o])[i]? =some p→β[i]? =some p:=by intro i p hi ho;have hlt:=(gsI ho).1;rw[List.length_append,g.bl] at hlt;simp only[List.length_cons,List.length_nil] at hlt;exact gpre (by rw[g.bl];omega) ho
 have hlive:∀ {i a},get1 s.h i=some a→i≠s.nb:=by intro i a hi e;obtain⟨o,h1,_⟩:=g.hp i a hi;have:=(gsI h1).1;rw[g.bl] at this;omega
 refine⟨{tm:=fun j x hj=>?_,nt:=g.nt,nl:=g.nl,bl:=by simp[g.bl],bb:=fun i c hi=>?_,hp:=fun i a hi=>?_,nd:=fun i j a a' c hi hj hbi hbj=>g.nd i j a a' c hi hj (hold (hlive hi) hbi) (hold (hlive hj) hbj),ft:=g.ft,fr:=g.fr,gr:=g.gr,pr:=fun c hc=>⟨(g.pr c hc).1,(g.pr c hc).2.1,fun i a hi hbi=>(g.pr c hc).2.2 i a hi (hold (hlive hi) hbi)⟩,nn:=g.nn,rk:=g.rk.ext he,rvk:=fun i y hi=>?_,ro:=g.ro},hnew⟩
 ·obtain⟨w,h1,h2⟩:=g.tm j x hj;exact⟨w,h1,h2.ext he⟩
 ·by_cases hi':i=s.nb
  ·subst hi';rw[hnew] at hi;cases hi;exact(hb c rfl).1
  ·exact g.bb i c (hold hi' hi)
 ·obtain⟨p,h1,h2⟩:=g.hp i a hi;exact⟨p,he.be h1,h2.keep he (fun _ _ h=>h) fun _ _=>rfl⟩
 ·rw[get1_put] at hi;split at hi
  ·rename_i e;subst e;cases hi;exact⟨o,hnew,fun b hb'=>(hb b hb').2,ha⟩
  ·exact g.rvk.ext he i y hi
theorem Ga.addR(g:Ga C R F h0 n0 s ν β t h n){b:Nat}{l:List SV}{cs:List Value}(hb:b<n)(hF:F b)(hg:h.get b=some (.cells cs))(hl:VL ν β l cs):Ga C R F h0 n0 {s with nb:=s.nb+1,r:=put1 s.r s.nb l} ν (β ++ [some b]) t h n∧(β ++ [some b])[s.nb]? =some (some b):=by
 have he:Ext ν β ν (β ++ [some b]):=Ext.blk _ _ _;have hnew:(β ++ [some b])[s.nb]? =some (some b):=by rw[←g.bl];simp
 have hold:∀ {i:Nat} {o},i≠s.nb→(β ++ [some b])[i]? =some o→β[i]? =some o:=by intro i o hi ho;have hlt:=(gsI ho).1;rw[List.length_append,g.bl] at hlt;simp only[List.length_cons,List.length_nil] at hlt;exact gpre (by rw[g.bl];omega) ho
 have hlive:∀ {i a},get1 s.h i=some a→i≠s.nb:=by intro i a hi e;obtain⟨o,h1,_⟩:=g.hp i a hi;have:=(gsI h1).1;rw[g.bl] at this;omega
 refine⟨{tm:=fun j x hj=>?_,nt:=g.nt,nl:=g.nl,bl:=by simp[g.bl],bb:=fun i c hi=>?_,hp:=fun i a hi=>?_,nd:=fun i j a a' c hi hj hbi hbj=>g.nd i j a a' c hi hj (hold (hlive hi) hbi) (hold (hlive hj) hbj),ft:=g.ft,fr:=g.fr,gr:=g.gr,pr:=fun c hc=>⟨(g.pr c hc).1,(g.pr c hc).2.1,fun i a hi hbi=>(g.pr c hc).2.2 i a hi (hold (hlive hi) hbi)⟩,nn:=g.nn,rk:=fun i l' hi=>?_,rvk:=g.rvk.ext he,ro:=g.ro},hnew⟩
 ·obtain⟨w,h1,h2⟩:=g.tm j x hj;exact⟨w,h1,h2.ext he⟩
 ·by_cases hi':i=s.nb
  ·subst hi';rw[hnew] at hi;cases hi;exact hb
  ·exact g.bb i c (hold hi' hi)
 ·obtain⟨o,h1,h2⟩:=g.hp i a hi;exact⟨o,he.be h1,h2.keep he (fun _ _ h=>h) fun _ _=>rfl⟩
 ·rw[get1_put] at hi;split at hi
  ·rename_i e;subst e;cases hi;exact⟨b,cs,hnew,hF,by rw[←(g.pr b hF).2.1];exact hg,hl.ext he⟩
  ·exact g.rk.ext he i l' hi
theorem mkA_ok(hlim:C.lim≤16000000)(hF:∀ b,b<n→F b)(hh:h0=h):∀ (f:Nat){a:AT}{v:Value}{s:S}{ν:List Value}{β:List (Option Nat)}{r:SV×S},Ga C R F h0 n0 s ν β t h n→AOk C h R a v→mkA C f s a=some r→∃ ν' β',Ext ν β ν' β'∧Ga C R F h0 n0 r.2 ν' β' t h n∧V ν' β' r.1 v:=by
 have hsc:∀ (f:Nat) {a:AT} {v:Value} {s:S} {ν:List Value} {β:List (Option Nat)} {r:SV×S},(∀ l,a≠ .agg l)→(∀ f l,a≠ .fn f l)→(∀ l,a≠ .cellp l)→Ga C R F h0 n0 s ν β t h n→AOk C h R a v→mkA C f s a=some r→∃ ν' β',Ext ν β ν' β'∧Ga C R F h0 n0 r.2 ν' β' t h n∧V ν' β' r.1 v:=by
  intro f a v s ν β r n1 n2 n3 g ha hr;have up:(∃ ν',Ext ν β ν' β∧Ga C R F h0 n0 r.2 ν' β t h n∧V ν' β r.1 v)→∃ ν' β',Ext ν β ν' β'∧Ga C R F h0 n0 r.2 ν' β' t h n∧V ν' β' r.1 v:=fun⟨ν',h1,h2,h3⟩=>⟨ν',β,h1,h2,h3⟩
  cases ha with
  | @int k x h1 h2 =>
    have:r=((freshC C s .cur (.int k)).2,(freshC C s .cur (.int k)).1):=by cases f<;>(cases hr;rfl)
    subst this;exact up (freshC_ok (rk:= .cur) (ct:= .int k) (v:= .int k x) g hlim (D.int h1 h2))
  | bool x =>
    have:r=((freshC C s .cur .bool).2,(freshC C s .cur .bool).1):=by cases f<;>(cases hr;rfl)
    subst this;exact up (freshC_ok (rk:= .cur) (ct:= .bool) (v:= .bool x) g hlim (D.bool x))
  | @str z h1 =>
    have:r=((freshC C s .cur .str).2,(freshC C s .cur .str).1):=by cases f<;>(cases hr;rfl)
    subst this;exact up (freshC_ok (rk:= .cur) (ct:= .str) (v:= .string z) g hlim (D.str h1))
  | @sl q k v hr' hd =>
    have:r=((freshC C s .cur (.sl q)).2,(freshC C s .cur (.sl q)).1):=by cases f<;>(cases hr;rfl)
    subst this;exact up (freshC_ok (rk:= .cur) (ct:= .sl q) (v:=v) g hlim ⟨k,hr',hd⟩)
  | nilf =>
    have:r=(.lit .nilFunc,s):=by cases f<;>(cases hr;rfl)
    subst this;exact⟨ν,β,.rfl',g,.lit rfl⟩
  | @vsn q m cts hq hp =>
    have:r=(.os s.nb ⟨.v s.ty.length,0⟩ ⟨.v (s.ty.length+1),0⟩ cts.length,(mkV s q).fact ⟨.v s.ty.length,0⟩ (ieC m)):=by cases f<;>(simp only[mkA,hq] at hr;cases hr;rfl)
    subst this;obtain⟨g1,a1⟩:=g.name (N:= .int .i64) (v:= .int .i64 0) ⟨_,rfl,by show(-9223372036854775808:Int)≤_;omega,by show _≤(9223372036854775807:Int);omega⟩;obtain⟨g2,a2⟩:=g1.name (N:= .int .i64) (v:= .int .i64 0) ⟨_,rfl,by show(-9223372036854775808:Int)≤_;omega,by show _≤(9223372036854775807:Int);omega⟩;have hty:(s.name (.int .i64)).ty.length=s.ty.length+1:=by simp[S.name]
    rw[hty] at a2;have e1:=Ext.name ν β (.int .i64 0);have e2:=Ext.name (ν ++ [.int .i64 0]) β (.int .i64 0);have hL:evI (ν ++ [.int .i64 0] ++ [.int .i64 0]) ⟨.v s.ty.length,0⟩=some 0:=by simp only[evI,evB,e2.at a1,Int.add_zero]
    have hW:evI (ν ++ [.int .i64 0] ++ [.int .i64 0]) ⟨.v (s.ty.length+1),0⟩=some 0:=by simp only[evI,evB,a2,Int.add_zero]
    have g3:=((g2.fact (a:=ieC 0) (b:=⟨.v s.ty.length,0⟩) ⟨_,_,evI_ieC 0,hL,by omega⟩).fact (a:=⟨.v s.ty.length,0⟩) (b:=⟨.v (s.ty.length+1),0⟩) ⟨_,_,hL,hW,by omega⟩).fact (a:=⟨.v (s.ty.length+1),0⟩) (b:=ieC 1000000000) ⟨_,_,hW,evI_ieC _,by omega⟩;obtain⟨g4,hnew⟩:=g3.addV (o:=none) (x:=(q,.cur,⟨.v (s.ty.length+1),0⟩)) (fun b hb=>by cases hb) ⟨hW,cts,hq,hp⟩;exact⟨_,_,(e1.trans e2).trans (Ext.blk _ _ _),g4.fact ⟨_,_,hL,evI_ieC _,by omega⟩,.osn hnew hL hW hp⟩
  | @vs q m b L W c cts cs hg hq hp hl hLW hW' hc hrw hm =>
    have:r=(.os s.nb ⟨.v s.ty.length,0⟩ ⟨.v (s.ty.length+1),0⟩ cts.length,(mkV s q).fact ⟨.v s.ty.length,0⟩ (ieC m)):=by cases f<;>(simp only[mkA,hq] at hr;cases hr;rfl)
    subst this;subst hh;have hlt:b<n:=by apply Classical.byContradiction;intro hno;rw[g.fr b (by omega)] at hg;cases hg
    obtain⟨g1,a1⟩:=g.name (N:= .int .i64) (v:= .int .i64 (L:Int)) ⟨_,rfl,by show(-9223372036854775808:Int)≤_;omega,by show _≤(9223372036854775807:Int);omega⟩;obtain⟨g2,a2⟩:=g1.name (N:= .int .i64) (v:= .int .i64 (W:Int)) ⟨_,rfl,by show(-9223372036854775808:Int)≤_;omega,by show _≤(9223372036854775807:Int);omega⟩;have hty:(s.name (.int .i64)).ty.length=s.ty.length+1:=by simp[S.name]
    rw[hty] at a2;have e1:=Ext.name ν β (.int .i64 (L:Int));have e2:=Ext.name (ν ++ [.int .i64 (L:Int)]) β (.int .i64 (W:Int));have hL:evI (ν ++ [.int .i64 (L:Int)] ++ [.int .i64 (W:Int)]) ⟨.v s.ty.length,0⟩=some (L:Int):=by simp only[evI,evB,e2.at a1,Int.add_zero]
    have hW:evI (ν ++ [.int .i64 (L:Int)] ++ [.int .i64 (W:Int)]) ⟨.v (s.ty.length+1),0⟩=some (W:Int):=by simp only[evI,evB,a2,Int.add_zero]
    have g3:=((g2.fact (a:=ieC 0) (b:=⟨.v s.ty.length,0⟩) ⟨_,_,evI_ieC 0,hL,by omega⟩).fact (a:=⟨.v s.ty.length,0⟩) (b:=⟨.v (s.ty.length+1),0⟩) ⟨_,_,hL,hW,by omega⟩).fact (a:=⟨.v (s.ty.length+1),0⟩) (b:=ieC 1000000000) ⟨_,_,hW,evI_ieC _,by omega⟩;obtain⟨g4,hnew⟩:=g3.addV (o:=some b) (x:=(q,.cur,⟨.v (s.ty.length+1),0⟩)) (fun d hd=>by cases hd;exact⟨hlt,hF _ hlt⟩) ⟨cs,cts,W,hg,hq,hp,hW,hl,hrw⟩;exact⟨_,_,(e1.trans e2).trans (Ext.blk _ _ _),g4.fact ⟨_,_,hL,evI_ieC _,by omega⟩,.os hnew hL hW hLW hW' hc hp⟩
  | agg _=>exact absurd rfl (n1 _)
  | fn _=>exact absurd rfl (n2 _ _)
  | cellp _ _=>exact absurd rfl (n3 _)
 intro f
 induction f with
 | zero =>
   intro a v s ν β r g ha hr;exact hsc 0 (fun l e=>by subst e;cases hr) (fun f l e=>by subst e;cases hr) (fun l e=>by subst e;cases hr) g ha hr
 | succ f ih =>
   have hL:∀ {l:List AT} {vs:List Value} {s:S} {ν:List Value} {β:List (Option Nat)} {r:List SV×S},Ga C R F h0 n0 s ν β t h n→AOkL C h R l vs→mkA.ml C f s l=some r→∃ ν' β',Ext ν β ν' β'∧Ga C R F h0 n0 r.2 ν' β' t h n∧VL ν' β' r.1 vs:=by
    intro l
    induction l with
    | nil =>
      intro vs s ν β r g ha hr;cases ha;cases hr;exact⟨ν,β,.rfl',g,.nil⟩
    | cons a l ihl =>
      intro vs s ν β r g ha hr;cases ha with
      | cons h1 h2 =>
        simp only[mkA.ml] at hr;split at hr
        ·rename_i x hx;split at hr
         ·rename_i y hy;cases hr;obtain⟨ν1,β1,e1,g1,v1⟩:=ih g h1 hx;obtain⟨ν2,β2,e2,g2,v2⟩:=ihl g1 h2 hy;exact⟨ν2,β2,e1.trans e2,g2,.cons (v1.ext e2) v2⟩
         ·cases hr
        ·cases hr
   intro a v s ν β r g ha hr;cases a with
   | agg l =>
     cases ha with
     | agg hl =>
       simp only[mkA] at hr;split at hr
       ·rename_i x hx;cases hr;obtain⟨ν1,β1,e1,g1,v1⟩:=hL g hl hx;exact⟨ν1,β1,e1,g1,.agg v1⟩
       ·cases hr
   | fn gg l =>
     cases ha with
     | fn hl =>
       simp only[mkA] at hr;split at hr
       ·rename_i x hx;cases hr;obtain⟨ν1,β1,e1,g1,v1⟩:=hL g hl hx;exact⟨ν1,β1,e1,g1,.f .nil v1⟩
       ·cases hr
   | cellp l =>
     cases ha with
     | cellp hb hl =>
       rename_i b cs;simp only[mkA] at hr;split at hr
       ·rename_i x hx;cases hr;obtain⟨ν1,β1,e1,g1,v1⟩:=hL g hl hx;have hlt:b<n:=by
         apply Classical.byContradiction;intro hno;rw[g.fr b (by omega)] at hb;cases hb
        obtain⟨g2,hnew⟩:=g1.addR hlt (hF b hlt) hb v1;exact⟨ν1,_,e1.trans (Ext.blk _ _ _),g2,.p hnew⟩
       ·cases hr
   | _=>exact hsc (f+1) (by simp) (by simp) (by simp) g ha hr
theorem mkAL_ok(hlim:C.lim≤16000000)(hF:∀ b,b<n→F b)(hh:h0=h){f:Nat}:∀ {l:List AT}{vs:List Value}{s:S}{ν:List Value}{β:List (Option Nat)}{r:List SV×S},Ga C R F h0 n0 s ν β t h n→AOkL C h R l vs→mkA.ml C f s l=some r→∃ ν' β',Ext ν β ν' β'∧Ga C R F h0 n0 r.2 ν' β' t h n∧VL ν' β' r.1 vs
 | [],_,s,ν,β,r,g,.nil,hr=>by cases hr;exact⟨ν,β,.rfl',g,.nil⟩
 | a :: l,_,s,ν,β,r,g,.cons h1 h2,hr=>by
   simp only[mkA.ml] at hr;split at hr
   ·rename_i x hx;split at hr
    ·rename_i y hy;cases hr;obtain⟨ν1,β1,e1,g1,v1⟩:=mkA_ok hlim hF hh f g h1 hx;obtain⟨ν2,β2,e2,g2,v2⟩:=mkAL_ok hlim hF hh g1 h2 hy;exact⟨ν2,β2,e1.trans e2,g2,.cons (v1.ext e2) v2⟩
    ·cases hr
   ·cases hr
def RMok(C:Cfg)(m:Nat)(s:S)(β:List (Option Nat))(h:T Blk)(n:Nat)(is:List Nat)(P:List Nat→Prop):Prop :=
 ∃ bs,P bs∧(∀ b∈bs,∃ i∈is,(∃ a,get1 s.h i=some a)∧β[i]? =some (some b))∧(is.Nodup→bs.Nodup)
theorem bifN{b:Bool}{is:List Nat}(h:(bif b then some ([]:List Nat) else none)=some is):b=true:=by
 cases b with
 | true=>rfl
 | false=>cases h
theorem matchR_ok(g:Ga C R F h0 n0 s ν β t h n){m:Nat}(hF:∀ b,b<m→F b):∀ (f:Nat){x:SV}{r:RT}{v:Value}{is:List Nat},matchR C s f x r=some is→V ν β x v→RMok C m s β h n is (ROk C h m n r v):=by
 have hsc:∀ (f:Nat) {x:SV} {r:RT} {v:Value} {is:List Nat},(∀ l,r≠ .agg l)→(∀ l,r≠ .tup l)→matchR C s f x r=some is→V ν β x v→RMok C m s β h n is (ROk C h m n r v):=by
  intro f x r v is n1 n2 hm hv;have nil:ROk C h m n r v []→RMok C m s β h n is (ROk C h m n r v):=fun h=>⟨[],h,fun b hb=>by(cases hb),fun _=>List.nodup_nil⟩
  cases r with
  | int k =>
    have:∃ e,x= .i k e:=by
     cases x<;>(cases f<;>simp[matchR] at hm)
     all_goals (rw[kindB_eq (bifN hm)];exact⟨_,rfl⟩)
    obtain⟨e,rfl⟩:=this;cases hv with
    | i h1 h2 h3=>exact nil (.int h2 h3)
  | bool =>
    have:isBool x=true:=bifN (is:=is) (by cases x<;>(cases f<;>exact hm));obtain⟨b,rfl⟩:=isBool_ok this hv;exact nil (.bool b)
  | str =>
    have:isStr x=true:=bifN (is:=is) (by cases x<;>(cases f<;>exact hm));obtain⟨z,rfl,hz⟩:=isStr_ok this hv;exact nil (.str hz)
  | sl q =>
    have:svCT s .top x (.sl q)=true:=bifN (is:=is) (by cases x<;>(cases f<;>exact hm));obtain⟨k,_,hd⟩:=svCT_ok g this hv;exact nil (.sl hd)
  | fresh q k =>
    have hcase:(∃ i len low sz,x= .os i len low sz)∨x= .lit (.slice none 0 0):=by
     cases x with
     | os i len low sz=>exact .inl ⟨_,_,_,_,rfl⟩
     | lit w =>
       right;cases w with
       | slice a l c =>
         cases a with
         | some a=>cases f<;>simp[matchR] at hm
         | none=>cases l<;>cases c<;>first|rfl|(cases f<;>simp[matchR] at hm)
       | _=>cases f<;>simp[matchR] at hm
     | _=>cases f<;>simp[matchR] at hm
    rcases hcase with⟨i,len,low,sz,rfl⟩|rfl
    ·have hm':(match get1 s.h i,nth C.Γ q with
      | some (.vec q' _ low'),some cts=>bif Nat.beq q q'&&ieEq low low'&&Nat.beq sz cts.length&&leQ s len (ieC k) then some [i] else none
      | _,_=>none)=some is:=by cases f<;>exact hm
     split at hm'
     ·rename_i q' rk low' cts hi hq;rw[biE] at hm';split at hm'
      ·rename_i hc;cases hm';simp only[baT,beqT] at hc;obtain⟨⟨⟨rfl,c2⟩,rfl⟩,hle⟩:=hc;have:=ieEq_ok c2;subst this;obtain⟨o,ho,hao⟩:=g.hp i _ hi;cases hv with
       | osn hb h1 h2 h3=>exact⟨[],.nil hq h3,fun b hb=>by(cases hb),fun _=>List.nodup_nil⟩
       | os hb h1 h2 h3 h4 h5 h6 =>
         rename_i b L W c;rw[hb] at ho;cases ho;obtain⟨cs,cts',W',k1,k2,k3,k4,k5,k6⟩:=hao;rw[hq] at k2;cases k2;have:W'=W:=by have:=evI_inj h2 k4;omega
         subst this;have hmb:m≤b:=by apply Classical.byContradiction;intro hlt;exact(g.pr b (hF b (by omega))).2.2 i _ hi hb
         refine⟨[b],.fresh hmb (g.bb i b hb) k1 hq k3 k5 h3 h4 h5 (fun j x ct hx hct=>(k6 j x ct hx hct).le (r':= .top) (by cases rk<;>rfl) |>.top0) (by have:=g.ie hle h1 (evI_ieC _);omega),fun d hd=>?_,fun _=>by simp⟩;simp only[List.mem_cons,List.not_mem_nil,or_false] at hd;subst hd;exact⟨i,mcS ..,⟨_,hi⟩,hb⟩
      ·cases hm'
     ·cases hm'
    ·have hm':(match nth C.Γ q with|some cts=>bif Nat.blt 0 cts.length then some [] else none|none=>none)=some is:=by cases f<;>exact hm
     split at hm'
     ·rename_i cts hq;rw[biE] at hm';split at hm'
      ·rename_i hp;cases hv;exact nil (.nil hq (by rw[bltT] at hp;exact hp))
      ·cases hm'
     ·cases hm'
  | agg l=>exact absurd rfl (n1 _)
  | tup l=>exact absurd rfl (n2 _)
 intro f
 induction f with
 | zero =>
   intro x r v is hm hv;exact hsc 0 (fun l e=>by subst e;cases x<;>simp[matchR] at hm) (fun l e=>by subst e;cases x<;>simp[matchR] at hm) hm hv
 | succ f ih =>
   have hL:∀ {l:List SV} {rs:List RT} {vs:List Value} {is:List Nat},matchR.ml C s f l rs=some is→VL ν β l vs→RMok C m s β h n is (ROkL C h m n rs vs):=by
    intro l
    induction l with
    | nil =>
      intro rs vs is hm hl;cases hl;cases rs with
      | nil=>cases hm;exact⟨[],.nil,fun b hb=>by(cases hb),fun _=>List.nodup_nil⟩
      | cons _ _=>simp[matchR.ml] at hm
    | cons x l ihl =>
      intro rs vs is hm hl;cases rs with
      | nil=>simp[matchR.ml] at hm
      | cons r rs =>
        cases hl with
        | cons hx hl =>
          simp only[matchR.ml] at hm;split at hm
          ·rename_i a b ha hb;cases hm;obtain⟨b1,p1,q1,w1⟩:=ih ha hx;obtain⟨b2,p2,q2,w2⟩:=ihl hb hl;refine⟨b1 ++ b2,.cons p1 p2,fun d hd=>?_,fun hnd=>?_⟩
           ·rcases List.mem_append.1 hd with hd|hd
            ·obtain⟨i,i1,i2⟩:=q1 d hd;exact⟨i,List.mem_append_left _ i1,i2⟩
            ·obtain⟨i,i1,i2⟩:=q2 d hd;exact⟨i,List.mem_append_right _ i1,i2⟩
           ·rw[List.nodup_append] at hnd ⊢;obtain⟨d1,d2,d3⟩:=hnd;refine⟨w1 d1,w2 d2,fun x hx y hy e=>?_⟩;subst e;obtain⟨i,i1,⟨a1,i2⟩,i3⟩:=q1 x hx;obtain⟨j,j1,⟨a2,j2⟩,j3⟩:=q2 x hy;exact d3 i i1 j j1 (g.nd i j a1 a2 x i2 j2 i3 j3)
          ·cases hm
   intro x r v is hm hv;cases r with
   | agg l =>
     cases x<;>simp[matchR] at hm;cases hv with
     | agg hl =>
       obtain⟨bs,p1,p2,p3⟩:=hL hm hl;exact⟨bs,.agg p1,p2,p3⟩
   | tup l =>
     cases x<;>simp[matchR] at hm;cases hv with
     | tup hl =>
       obtain⟨bs,p1,p2,p3⟩:=hL hm hl;exact⟨bs,.tup p1,p2,p3⟩
   | _=>exact hsc (f+1) (by simp) (by simp) hm hv
theorem nodN_ok:∀ {l:List Nat},nodN l=true→l.Nodup
 | [],_=>List.nodup_nil
 | x :: l,h=>by simp only[nodN,baT,Bool.not_eq_true'] at h;refine List.nodup_cons.2 ⟨fun hm=>?_,nodN_ok h.2⟩;rw[memN_iff.2 hm] at h;cases h.1
end
theorem spec_at{C:Cfg}(hlim:C.lim≤16000000){T1 T2:List Spec}{fuel N:Nat}{sp:Spec}(h1:∀ sp∈T1,dR 4 sp.res=true∧∀ N,SpecAt C N sp)(h2:∀ sp∈T2,dR 4 sp.res=true∧∀ M,M<N→SpecAt C M sp)(hc:specChk C T1 T2 fuel sp=true):SpecAt C N sp:=by
 intro h n vs hfr hgr ha;unfold specChk at hc;split at hc
 ·rename_i args s hs;split at hc
  ·rename_i outs ho;have g0:Ga C N (fun b=>b<n) h n s00 [] [] .leaf h n :=
    {tm:=fun k x hk=>by simp[s00,get1] at hk,nt:=fun j T hj=>by simp[s00,nth] at hj,nl:=rfl,bl:=rfl,rk:=fun i l hi=>by simp[s00,get1] at hi,rvk:=fun i l hi=>by simp[s00,get1] at hi,bb:=fun i b hi=>by simp at hi,hp:=fun i a hi=>by simp[s00,get1] at hi
     nd:=fun i j a a' b hi=>by simp[s00,get1] at hi,ft:=fun f hf=>by simp[s00] at hf,fr:=hfr,gr:=hgr,pr:=fun b hb=>⟨hb,rfl,fun i a hi=>by simp[s00,get1] at hi⟩,nn:=nlR _,ro:=fun b cs hb=>hb}
   obtain⟨ν1,β1,e1,g1,v1⟩:=mkAL_ok hlim (fun b hb=>hb) rfl g0 ha hs;have hcall:=inlineS_ok hlim (anF_ok (R:=N) (F:=fun b=>b<n) (h0:=h) (n0:=n) hlim h1 h2 fuel);obtain⟨v,h',n',x1,p,hp,ν2,β2,e2,g2,v2⟩:=hcall _ _ _ _ _ _ _ _ _ _ ho g1 v1;have hp2:=List.all_eq_true.1 hc p hp;split at hp2
   ·rename_i is hm;obtain⟨bs,b1,b2,b3⟩:=matchR_ok g2 (m:=n) (fun b hb=>hb) 4 hm v2;exact⟨v,h',n',x1,fun b hb=>(g2.pr b hb).2.1,g2.nn,g2.fr,bs,b1,b3 (nodN_ok hp2)⟩
   ·cases hp2
  ·cases hc
 ·cases hc
theorem specs_all{C:Cfg}(hlim:C.lim≤16000000){T1 T2:List Spec}{fuel:Nat}(h1:∀ sp∈T1,dR 4 sp.res=true∧∀ N,SpecAt C N sp)(hc:T2.all (fun sp=>dR 4 sp.res&&specChk C T1 T2 fuel sp)=true):∀ sp∈T2,dR 4 sp.res=true∧∀ N,SpecAt C N sp:=by
 have hall:=List.all_eq_true.1 hc;have:∀ N,∀ sp∈T2,SpecAt C N sp:=by
  intro N
  induction N using Nat.strongRecOn with
  | _ N ih =>
    intro sp hsp;have:=hall sp hsp;rw[baT] at this;refine spec_at hlim h1 (fun sp' hsp'=>?_) this.2;have h3:=hall sp' hsp';rw[baT] at h3;exact⟨h3.1,fun M hM=>ih M hM sp' hsp'⟩
 intro sp hsp;have h3:=hall sp hsp;rw[baT] at h3;exact⟨h3.1,fun N=>this N sp hsp⟩
theorem specs_app{C:Cfg}{T1 T2:List Spec}(h1:∀ sp∈T1,dR 4 sp.res=true∧∀ N,SpecAt C N sp)(h2:∀ sp∈T2,dR 4 sp.res=true∧∀ N,SpecAt C N sp):∀ sp∈T1 ++ T2,dR 4 sp.res=true∧∀ N,SpecAt C N sp:=fun sp hsp=>by
 rcases List.mem_append.1 hsp with h|h
 ·exact h1 sp h
 ·exact h2 sp h
end Go.Sx.Az
namespace Go.Sx
open Go.Proofs
def fl0:List (TypeId×List CK):=[(43,[.int .i64,.bool]),(208,[.str,.int .i64]),(40,[.str,.int .i64,.int .i64]),(77,[.int .i64,.int .i64]),(51,[.str,.int .i64,.int .i64,.int .i64,.bool]),(243,[.int .i64,.bool,.int .i64,.bool])]
def gro0:List (Nat×List Value):=[(0,[.string ⟨#[43]⟩,.string ⟨#[45]⟩,.string ⟨#[42]⟩,.string ⟨#[47]⟩,.string ⟨#[109,111,100]⟩,.string ⟨#[45]⟩])]
noncomputable def EE(l:List (FuncId×List (Ct×Value))):Env:=envOf Tryz.prog fl0 (memoT l) gro0
set_option maxRecDepth 1000000
theorem flat0:flatChk Tryz.prog fl0=true:=by kernel_rfl
theorem fld0:fldOK (T.tab 10 (tyI Tryz.prog)) Tryz.prog.types.size=true:=by kernel_rfl
theorem names0:Tryz.prog.funcs.toList.all (fun fn=> !(fn.name == "runtime.NumGoroutine"))=true:=by kernel_rfl
theorem mixed0:Tryz.prog.follows .mixedOrders=true:=by kernel_rfl
theorem glob0:Nat.ble Tryz.prog.globals.size 1000=true:=by kernel_rfl
theorem gro0_ok:gro0.all (fun x=>Nat.blt x.1 1000&&x.2.all (lit 6))=true:=by kernel_rfl
theorem EE_ok{l:List (FuncId×List (Ct×Value))}(h:∀ f r,(f,r)∈l→∀ e∈r,MemoOk Tryz.prog Tryz.prog.globals.size gro0 f e.1 e.2):EOk (EE l) Tryz.prog :=
 eok_env fld0 names0 (flat_ok flat0) fun f r hr=>h f r (memoT_some hr)
theorem EE_calls{l:List (FuncId×List (Ct×Value))}(K:EOk (EE l) Tryz.prog){fuel:Nat}{f:FuncId}{r:List (Ct×Value)}(h:callsOK (EE l) fuel f r=true):∀ e∈r,MemoOk Tryz.prog Tryz.prog.globals.size gro0 f e.1 e.2 :=
 calls_ok K mixed0 (by have:=glob0;rw[bleT] at this;exact this) gro0_ok h
namespace Az
def Γ0:List (List CT):=[[.str,.int .i64,.sl 1],[.int .i64,.int .i64,.sl 2,.sl 2,.sl 2],[.int .i64,.int .i64,.str,.sl 2],[.int .i64],[.str,.int .i64],[.str],[.sl 2],[.int .i64,.bool],[.sl 7],[.sl 8],[.str,.int .i64,.int .i64],[.str,.int .i64,.int .i64,.int .i64,.bool],[.sl 11],[.int .i64,.int .i64],[.bool]]
def rc0:List (TypeId×Nat):=[(70,0),(67,1),(63,2),(3,3),(208,4),(9,5),(25,6),(43,7),(31,8),(29,9),(40,10),(51,11),(49,12),(77,13),(4,14)]
noncomputable def C0:Cfg:={E0:=EE [],Γ:=Γ0,rc:=rc0,lim:=4400}
def tm:AT:= .agg [.int .i64,.int .i64,.str,.sl 2]
def cl:AT:= .agg [.int .i64,.int .i64,.sl 2,.sl 2,.sl 2]
end Az
end Go.Sx
namespace Go.Sx
set_option maxRecDepth 100000
abbrev LT:=List (Nat×Value)
def lk:LT→Nat→Option Value
 | [],_=>none
 | p :: l,k=>bif Nat.beq p.1 k then some p.2 else lk l k
def Has(t:T Value)(L:LT):Prop:=∀ k v,lk L k=some v→t.get k=some v
theorem Has.put{t:T Value}{L:LT}(h:Has t L)(d:Nat)(v:Value):Has (t.upd (some v) d) ((d,v) :: L):=by
 intro k x hk;rw[T.get_upd];rw[lk,biE] at hk;split at hk
 ·rename_i e;rw[beqT] at e;have e:d=k:=e;rw[if_pos e.symm];exact hk
 ·rename_i e;rw[beqT] at e;have e:¬ d=k:=e;rw[if_neg (fun h=>e h.symm)];exact h k x hk
section
variable {E:Env}{h:T Blk}{n:Nat}{t t':T Value}
def More(t t':T Value):Prop:=∀ k v,t.get k=some v→t'.get k=some v
end
def Does(E:Env)(L:LT)(h:T Blk)(n:Nat)(o:Oper)(r:OO):Prop:=∀ t,Has t L→opA E t h n o=r
def evL(E:Env)(L:LT):Operand→Option Value
 | .tmp k=>lk L k
 | .const v=>bif lit 6 v then some v else none
 | .global g=>bif Nat.blt g E.glob then some (.pointer (some ⟨g,0,none⟩)) else none
 | .func f=>some (.func (.func f) #[] #[])
theorem evL_ok{E:Env}{L:LT}{t:T Value}(ht:Has t L){x:Operand}{v:Value}(hx:evL E L x=some v):evA E t x=some v:=by
 cases x with
 | tmp k=>exact ht k v hx
 | const c=>exact hx
 | global g=>exact hx
 | func f=>exact hx
def evLs(E:Env)(L:LT):List Operand→Option (List Value)
 | []=>some []
 | x :: l=>match evL E L x,evLs E L l with
   | some v,some r=>some (v :: r)
   | _,_=>none
theorem evLs_ok{E:Env}{L:LT}{t:T Value}(ht:Has t L):∀ {l:List Operand}{v:List Value},evLs E L l=some v→evAll E t l=some v
 | [],v,h=>h
 | x :: l,v,h=>by
   simp only[evLs] at h;split at h
   ·rename_i a b h1 h2;simp only[evAll,evL_ok ht h1,evLs_ok ht h2];exact h
   ·cases h
def WantL(all:List Oper)(L:LT)(g:Option (Nat×Bool))(b:Bool):Prop :=
 match g with
 | none=>b=true
 | some (j,want)=>∃ oj d,nth all j=some oj∧oj.dst=some d∧((∃ c,lk L d=some (.bool c)∧b=(c == want))∨(∃ a,lk L d=some (.tuple a)∧b=false))
theorem WantL.ok{all:List Oper}{L:LT}{t:T Value}(ht:Has t L){o:Oper}{b:Bool}(h:WantL all L o.guard b):wantedA all t o=some b:=by
 unfold WantL at h;unfold wantedA;cases hg:o.guard with
 | none=>rw[hg] at h;simp only at h;rw[h]
 | some jw =>
   obtain⟨j,want⟩:=jw;rw[hg] at h;obtain⟨oj,d,h1,h2,h3⟩:=h;simp only[h1,h2];rcases h3 with⟨c,h3,h4⟩|⟨a,h3,h4⟩
   ·rw[ht d _ h3,h4]
   ·rw[ht d _ h3,h4]
def OL(E:Env)(many:Nat)(all l:List Oper)(L:LT)(h:T Blk)(n:Nat)(Q:LT→T Blk→Nat→Prop):Prop :=
 ∀ t,Has t L→OpsW E many all l t h n (fun t' h' n'=>∃ L',Has t' L'∧Q L' h' n')
section
variable {E:Env}{many:Nat}{all l:List Oper}{L:LT}{h h':T Blk}{n n':Nat}{Q:LT→T Blk→Nat→Prop}{o:Oper}
theorem OL.nil(hq:Q L h n):OL E many all [] L h n Q:=fun _ ht=>⟨L,ht,hq⟩
theorem OL.val{v:Value}{d:Tmp}(hw:WantL all L o.guard true)(ho:Does E L h n o (.val v h' n'))(hd:o.dst=some d)(hm:Nat.blt d many=true)(hk:OL E many all l ((d,v) :: L) h' n' Q):OL E many all (o :: l) L h n Q:=by intro t ht;simp only[OpsW,hw.ok ht,ho t ht,putT,hd,hm,cond_true];exact hk _ (ht.put d v)
theorem OL.skip(hw:WantL all L o.guard true)(ho:Does E L h n o (.skip h' n'))(hd:o.dst=none)(hk:OL E many all l L h' n' Q):OL E many all (o :: l) L h n Q:=by intro t ht;simp only[OpsW,hw.ok ht,ho t ht,putT,hd];exact hk _ ht
theorem OL.call{f:FuncId}{args:List Value}{v:Value}{d:Tmp}(hw:WantL all L o.guard true)(ho:Does E L h n o (.enter f args))(hc:Cl E f args h n (.ret v h' n'))(hd:o.dst=some d)(hm:Nat.blt d many=true)
 (hk:OL E many all l ((d,v) :: L) h' n' Q):OL E many all (o :: l) L h n Q:=by
 intro t ht;simp only[OpsW,hw.ok ht,ho t ht];refine⟨v,h',n',hc,?_⟩;simp only[putT,hd,hm,cond_true];exact hk _ (ht.put d v)
theorem OL.pass{d:Tmp}(hw:WantL all L o.guard false)(hd:o.dst=some d)(hm:Nat.blt d many=true)(hk:OL E many all l ((d,undefV) :: L) h n Q):OL E many all (o :: l) L h n Q:=by intro t ht;simp only[OpsW,hw.ok ht,putT,hd,hm,cond_true];exact hk _ (ht.put d undefV)
end
def WL(E:Env)(many:Nat)(c:Code)(L:LT)(h:T Blk)(n:Nat)(Q:Ex→LT→T Blk→Nat→Prop):Prop :=
 ∀ t,Has t L→WP E many c t h n (fun e t' h' n'=>∃ L',Has t' L'∧Q e L' h' n')
section
variable {E:Env}{many:Nat}{L:LT}{h:T Blk}{n:Nat}{Q:Ex→LT→T Blk→Nat→Prop}
def SeqL(E:Env)(many:Nat)(b:Code)(Q:Ex→LT→T Blk→Nat→Prop)(e:Ex)(L:LT)(h:T Blk)(n:Nat):Prop :=
 match e with
 | .normal=>WL E many b L h n Q
 | e=>Q e L h n
theorem WL.mono{c:Code}{Q':Ex→LT→T Blk→Nat→Prop}(hw:WL E many c L h n Q)(hq:∀ e L h n,Q e L h n→Q' e L h n):WL E many c L h n Q' :=
 fun t ht=>(hw t ht).mono fun _ _ _ _ ⟨L',h1,h2⟩=>⟨L',h1,hq _ _ _ _ h2⟩
theorem WL.keep{c:Code}{L':LT}(hs:∀ k v,lk L' k=some v→lk L k=some v)(hk:WL E many c L' h n Q):WL E many c L h n Q :=
 fun t ht=>hk t fun k v hv=>ht k v (hs k v hv)
theorem WL.seq{a b:Code}(hw:WL E many a L h n (SeqL E many b Q)):WL E many (.seq a b) L h n Q:=by
 intro t ht;refine WP.seq ((hw t ht).mono fun e t' h' n' ⟨L',h1,h2⟩=>?_);cases e with
 | normal=>exact h2 t' h1
 | exit id=>exact⟨L',h1,h2⟩
 | ret=>exact⟨L',h1,h2⟩
theorem WL.reg{id:Nat}{ops:Array Oper}(hw:OL E many ops.toList ops.toList L h n (Q .normal)):WL E many (.region id ops false) L h n Q:=fun t ht=>WP.reg (hw t ht)
theorem WL.ret(hq:Q .ret L h n):WL E many .ret L h n Q:=fun _ ht=>WP.ret ⟨L,ht,hq⟩
theorem WL.skip(hq:Q .normal L h n):WL E many .skip L h n Q:=fun _ ht=>WP.skip ⟨L,ht,hq⟩
theorem WL.exit{id:Nat}(hq:Q (.exit id) L h n):WL E many (.exit id) L h n Q:=fun _ ht=>WP.exit ⟨L,ht,hq⟩
theorem WL.condT{x:Operand}{a b:Code}(hx:evL E L x=some (.bool true))(ha:WL E many a L h n Q):WL E many (.cond x a b) L h n Q :=
 fun t ht=>WP.cond (evL_ok ht hx) (fun _=>ha t ht) (fun e=>by cases e)
theorem WL.condF{x:Operand}{a b:Code}(hx:evL E L x=some (.bool false))(hb:WL E many b L h n Q):WL E many (.cond x a b) L h n Q :=
 fun t ht=>WP.cond (evL_ok ht hx) (fun e=>by cases e) (fun _=>hb t ht)
def BlockL(id:Nat)(Q:Ex→LT→T Blk→Nat→Prop)(e:Ex)(L:LT)(h:T Blk)(n:Nat):Prop :=
 match e with
 | .exit i=>bif Nat.beq i id then Q .normal L h n else Q (.exit i) L h n
 | e=>Q e L h n
theorem WL.block{id:Nat}{b:Code}(hw:WL E many b L h n (BlockL id Q)):WL E many (.block id b) L h n Q:=by
 intro t ht;refine WP.block ((hw t ht).mono fun e t' h' n' ⟨L',h1,h2⟩=>?_);cases e with
 | normal=>exact⟨L',h1,h2⟩
 | ret=>exact⟨L',h1,h2⟩
 | exit i =>
   simp only[BlockQ,BlockL] at h2 ⊢;cases hb:Nat.beq i id with
   | true=>rw[hb] at h2;exact⟨L',h1,h2⟩
   | false=>rw[hb] at h2;exact⟨L',h1,h2⟩
def LoopL(k:Nat)(I:Nat→LT→T Blk→Nat→Prop)(Q:Ex→LT→T Blk→Nat→Prop)(e:Ex)(L:LT)(h:T Blk)(n:Nat):Prop :=
 match e with
 | .normal=>∃ k',k'<k∧I k' L h n
 | e=>Q e L h n
theorem WL.loop{b:Code}(I:Nat→LT→T Blk→Nat→Prop)(hb:∀ k L h n,I k L h n→WL E many b L h n (LoopL k I Q)){k:Nat}(hi:I k L h n):WL E many (.loop b) L h n Q:=by
 intro t ht;refine WP.loop (fun k t h n=>∃ L,Has t L∧I k L h n) (fun k t h n ⟨L,ht,hi⟩=>?_) k t h n ⟨L,ht,hi⟩;refine((hb k L h n hi) t ht).mono fun e t' h' n' ⟨L',h1,h2⟩=>?_
 cases e with
 | normal =>
   obtain⟨k',h3,h4⟩:=h2;exact⟨k',h3,L',h1,h4⟩
 | exit id=>exact⟨L',h1,h2⟩
 | ret=>exact⟨L',h1,h2⟩
end
def argL:List Value→Nat→LT→LT
 | [],_,L=>L
 | v :: l,i,L=>argL l (i+1) ((i,v) :: L)
theorem argL_has:∀ (l:List Value)(i:Nat)(L:LT)(t:T Value),Has t L→Has (argsT l i t) (argL l i L)
 | [],_,_,_,ht=>ht
 | v :: l,i,L,t,ht=>argL_has l (i+1) ((i,v) :: L) (t.upd (some v) i) (ht.put i v)
def resV:List Value→Value
 | [v]=>v
 | l=> .tuple ⟨l⟩
def ResOK(E:Env)(h:T Blk)(L:LT):List ResultVar→List Value→Prop
 | [],vs=>vs=[]
 | .tmp k :: l,v :: vs=>lk L k=some v∧ResOK E h L l vs
 | .cell k ty :: l,v :: vs=>∃ p,lk L k=some p∧loadA E h ty p=some v∧ResOK E h L l vs
 | _ :: _,[]=>False
theorem ResOK.ok{E:Env}{L:LT}{t:T Value}{h:T Blk}(ht:Has t L):∀ {rs:List ResultVar}{vs:List Value},ResOK E h L rs vs→resL E t h rs=some vs
 | [],vs,hx=>by cases hx;rfl
 | .tmp k :: l,v :: vs,hx=>by obtain⟨h1,h2⟩:=hx;simp only[resL,ht k v h1,ResOK.ok ht h2]
 | .cell k ty :: l,v :: vs,hx=>by obtain⟨p,h1,h2,h3⟩:=hx;simp only[resL,ht k p h1,h2,ResOK.ok ht h3]
theorem Cl.wl{E:Env}{g:FuncId}{args:List Value}{h:T Blk}{n:Nat}{R:Value→T Blk→Nat→Prop}{fn:Func}{c:Code}{many:Nat}{rs:List ResultVar}(hm:memoA E g args h=none)(hx:E.ext g args h n=none)(hf:E.fn.get g=some fn)(hb:fn.body=some c)(hmany:fn.ntmps=many)
 (hrs:fn.results.toList=rs) (hl:Nat.ble args.length many=true) (hw:WL E many c (argL args 0 []) h n (fun e L' h' n'=>(∀ id,e≠ .exit id)∧∃ vs,ResOK E h' L' rs vs∧R (resV vs) h' n')) :
 ∃ v h' n',Cl E g args h n (.ret v h' n')∧R v h' n':=by
 refine Cl.wp (hx:=hx) hm hf hb hmany hl ((hw (argsT args 0 .leaf) (argL_has args 0 [] .leaf fun k v hv=>by cases hv)).mono fun e t' h' n' ⟨L',h1,h2,vs,h3,h4⟩=>?_);refine⟨h2,resV vs,?_,h4⟩;subst hrs;unfold resA;rw[ResOK.ok h1 h3]
 match vs with
 | []=>rfl
 | [v]=>rfl
 | _ :: _ :: _=>rfl
section
variable {E:Env}{L:LT}{h h':T Blk}{n n':Nat}{o:Oper}
theorem D.move{x:Operand}{v:Value}(ho:o.op= .move x)(hx:evL E L x=some v):Does E L h n o (.val v h n):=fun t ht=>by simp only[opA,ho,evL_ok ht hx,val?]
theorem D.assign{x:Operand}{v:Value}(ho:o.op= .assign x)(hx:evL E L x=some v):Does E L h n o (.val v h n):=fun t ht=>by simp only[opA,ho,evL_ok ht hx,val?]
theorem D.bin{op:BinOp}{ty yt:TypeId}{x y:Operand}{a b v:Value}(ho:o.op= .binOp op ty x y yt)(hx:evL E L x=some a)(hy:evL E L y=some b)(hb:binA E op ty (isConstO x||isConstO y) a b=some v) :
 Does E L h n o (.val v h n):=fun t ht=>by simp only[opA,ho,evL_ok ht hx,evL_ok ht hy,hb,val?]
theorem D.un{op:UnOp}{ty:TypeId}{x:Operand}{a v:Value}(ho:o.op= .unOp op ty x)(hx:evL E L x=some a)(hb:unA op a=some v):Does E L h n o (.val v h n):=fun t ht=>by simp only[opA,ho,evL_ok ht hx,hb,val?]
theorem D.pickT{c x y:Operand}{v:Value}(ho:o.op= .pick c x y)(hc:evL E L c=some (.bool true))(hx:evL E L x=some v):Does E L h n o (.val v h n):=fun t ht=>by simp only[opA,ho,evL_ok ht hc,evL_ok ht hx,val?]
theorem D.pickF{c x y:Operand}{v:Value}(ho:o.op= .pick c x y)(hc:evL E L c=some (.bool false))(hy:evL E L y=some v):Does E L h n o (.val v h n):=fun t ht=>by simp only[opA,ho,evL_ok ht hc,evL_ok ht hy,val?]
theorem D.extract{x:Operand}{k:Nat}{vs:Array Value}{v:Value}(ho:o.op= .extract x k)(hx:evL E L x=some (.tuple vs))(hv:nth vs.toList k=some v):Does E L h n o (.val v h n):=fun t ht=>by simp only[opA,ho,evL_ok ht hx,hv,val?]
theorem D.load{ty:TypeId}{x:Operand}{p v:Value}(ho:o.op= .load ty x)(hx:evL E L x=some p)(hv:loadA E h ty p=some v):Does E L h n o (.val v h n):=fun t ht=>by simp only[opA,ho,evL_ok ht hx,hv,val?]
theorem D.store{ty:TypeId}{x y:Operand}{p v:Value}(ho:o.op= .store ty x y)(hx:evL E L x=some p)(hy:evL E L y=some v)(hv:storeA E h ty p v=some h'):Does E L h n o (.skip h' n):=fun t ht=>by simp only[opA,ho,evL_ok ht hx,evL_ok ht hy,hv]
theorem D.alloc{e:TypeId}{i:TyI}(ho:o.op= .alloc e)(hi:E.ty.get e=some i)(hz:i.zok=true):Does E L h n o (.val (ptrTo n) (h.upd (some (.cells i.zero)) n) (n+1)):=fun t _=>by simp only[opA,ho,hi,hz,cond_true,newA]
theorem D.box{e:TypeId}{x:Operand}{v:Value}(ho:o.op= .box e x)(hx:evL E L x=some v):Does E L h n o (.val (ptrTo n) (h.upd (some (.cells (cellsL v))) n) (n+1)):=fun t ht=>by simp only[opA,ho,evL_ok ht hx,newA]
theorem D.field{s:TypeId}{x:Operand}{k b off f:Nat}(ho:o.op= .fieldAddr s x k)(hx:evL E L x=some (.pointer (some ⟨b,off,none⟩)))(hf:fieldOff E s k=some f):Does E L h n o (.val (.pointer (some ⟨b,off+f,none⟩)) h n):=fun t ht=>by simp only[opA,ho,evL_ok ht hx,hf]
theorem D.index{ty:TypeId}{x i:Operand}{a k v:Value}(ho:o.op= .indexAddr ty x i)(hx:evL E L x=some a)(hi:evL E L i=some k)(hv:idxA E ty a k=some v):Does E L h n o (.val v h n):=fun t ht=>by simp only[opA,ho,evL_ok ht hx,evL_ok ht hi,hv,val?]
theorem D.builtinV{c:Call}{b:Builtin}{args:List Value}{v:Value}(ho:o.op= .call c)(hc:c.callee= .builtin b)(ha:evLs E L c.args.toList=some args)(hr:builtinA E b c.argTypes.toList args h n= .val v h' n'):Does E L h n o (.val v h' n'):=fun t ht=>by simp only[opA,ho,hc,evLs_ok ht ha,hr]
theorem D.callF{c:Call}{f:FuncId}{fn:Func}{args:List Value}(ho:o.op= .call c)(hc:c.callee= .value (.func f))(ha:evLs E L c.args.toList=some args)(hf:E.fn.get f=some fn):Does E L h n o (.enter f args):=fun t ht=>by simp only[opA,ho,hc,evLs_ok ht ha,evA,callA,hf,List.nil_append,List.append_nil]
end
def evPs(E:Env)(L:LT):List (Nat×Operand)→Option (List (Nat×Value))
 | []=>some []
 | (i,x) :: l=>match evL E L x,evPs E L l with
   | some v,some r=>some ((i,v) :: r)
   | _,_=>none
theorem evPs_ok{E:Env}{L:LT}{t:T Value}(ht:Has t L):∀ {l:List (Nat×Operand)}{v:List (Nat×Value)},evPs E L l=some v→evParts E t l=some v
 | [],v,h=>h
 | (i,x) :: l,v,h=>by
   simp only[evPs] at h;split at h
   ·rename_i a b h1 h2;simp only[evParts,evL_ok ht h1,evPs_ok ht h2];exact h
   ·cases h
section
variable {E:Env}{L:LT}{h h':T Blk}{n n':Nat}{o:Oper}
theorem D.build{ty:TypeId}{ps:Array (Nat×Operand)}{l:List (Nat×Value)}{v:Value}(ho:o.op= .build ty ps)(hp:evPs E L ps.toList=some l)(hv:buildA E ty l=some v):Does E L h n o (.val v h n):=fun t ht=>by simp only[opA,ho,evPs_ok ht hp,hv,val?]
theorem D.buildSlice{ty:TypeId}{len:Nat}{ps:Array (Nat×Operand)}{l:List (Nat×Value)}{cs:List Value}(ho:o.op= .buildSlice ty len ps)(hp:evPs E L ps.toList=some l)(hv:buildSliceA E ty len l=some cs) :
 Does E L h n o (.val (.slice (some ⟨n,0,none⟩) len len) (h.upd (some (.cells cs)) n) (n+1)):=fun t ht=>by simp only[opA,ho,evPs_ok ht hp,hv,newA]
end
def tInt:TyI:={size:=1,bytes:=8,d:= .int .i64,zero:=[.int .i64 0],zok:=true}
def tBool:TyI:={size:=1,bytes:=1,d:= .bool,zero:=[.bool false],zok:=true}
def tSl(e:TypeId):TyI:={size:=1,bytes:=24,d:= .slice e,zero:=[.slice none 0 0],zok:=true}
section
variable {E:Env}{h:T Blk}{n:Nat}
theorem load1{ty:TypeId}{i:TyI}(hty:E.ty.get ty=some i)(hi:isAgg i.d=false){b o:Nat}{cs:List Value}(hc:cellsOf h b=some cs){v:Value}(hv:cs[o]? =some v):loadA E h ty (.pointer (some ⟨b,o,none⟩))=some v:=by simp only[loadA,hty,hc,ldA,hi,cond_false,nth_eq,hv]
theorem cells_of{b:Nat}{cs:List Value}(hb:h.get b=some (.cells cs)):cellsOf h b=some cs:=by simp only[cellsOf,hb]
theorem cells_ro{b:Nat}{cs:List Value}(hb:h.get b=some (.ro cs)):cellsOf h b=some cs:=by simp only[cellsOf,hb]
theorem overAt1{v:Value}:∀ {cs:List Value}{o:Nat},o<cs.length→overAt [v] cs o=some (cs.set o v)
 | [],o,h=>by simp at h
 | a :: cs,0,_=>by simp[overAt,over]
 | a :: cs,o+1,h=>by have:=overAt1 (v:=v) (cs:=cs) (o:=o) (by simpa using h);simp[overAt,biE,this]
theorem store1{ty:TypeId}{i:TyI}(hty:E.ty.get ty=some i)(hi:i.size=1){b o:Nat}{cs:List Value}(hc:h.get b=some (.cells cs)){v:Value}(hv:isCell v=true)(ho:o<cs.length) :
 storeA E h ty (.pointer (some ⟨b,o,none⟩)) v=some (h.upd (some (.cells (cs.set o v))) b):=by
 simp only[storeA,hty,cellsL_cell hv,hi,putA,hc,allCells,hv,overAt1 ho,List.length_singleton,Nat.beq_refl,cond_true]
theorem idx_slice{ty e:TypeId}{j:TyI}(hty:E.ty.get ty=some (tSl e))(he:E.ty.get e=some j){b o len cap k:Nat}(hk:k<len) :
 idxA E ty (.slice (some ⟨b,o,none⟩) len cap) (.int .i64 (k:Int))=some (.pointer (some ⟨b,o+k * j.size,none⟩)):=by
 have h1:natV (.int .i64 (k:Int)) (len-1)=some k:=by show natV (.int .i64 (Int.ofNat k)) (len-1)=some k;simp only[natV,biE,bleT];rw[if_pos (by omega)]
 have h2:Nat.blt k len=true:=by rw[bltT];exact hk
 simp only[idxA,hty,tSl,he,h1,h2,cond_true]
end
theorem WantL.yes{all:List Oper}{L:LT}{j:Nat}{want:Bool}{oj:Oper}{d:Tmp}(h1:nth all j=some oj)(h2:oj.dst=some d)(h3:lk L d=some (.bool want)):WantL all L (some (j,want)) true :=
 ⟨oj,d,h1,h2,.inl ⟨want,h3,by simp⟩⟩
theorem WantL.no{all:List Oper}{L:LT}{j:Nat}{want:Bool}{oj:Oper}{d:Tmp}(h1:nth all j=some oj)(h2:oj.dst=some d)(h3:lk L d=some (.bool (!want))):WantL all L (some (j,want)) false :=
 ⟨oj,d,h1,h2,.inl ⟨!want,h3,by cases want<;>rfl⟩⟩
theorem WantL.un{all:List Oper}{L:LT}{j:Nat}{want:Bool}{oj:Oper}{d:Tmp}{a:Array Value}(h1:nth all j=some oj)(h2:oj.dst=some d)(h3:lk L d=some (.tuple a)):WantL all L (some (j,want)) false :=
 ⟨oj,d,h1,h2,.inr ⟨a,h3,rfl⟩⟩
section
variable {E:Env}{L:LT}{h:T Blk}{n:Nat}{o:Oper}
theorem D.binT{op:BinOp}{ty yt:TypeId}{x y:Operand}{a b:Value}{P:Prop}{i:Decidable P}(ho:o.op= .binOp op ty x y yt)(hx:evL E L x=some a)(hy:evL E L y=some b)(hb:binA E op ty (isConstO x||isConstO y) a b=some (.bool (@decide P i)))(hp:P) :
 Does E L h n o (.val (.bool true) h n):=D.bin ho hx hy (by rw[hb,decide_eq_true hp])
theorem D.binF{op:BinOp}{ty yt:TypeId}{x y:Operand}{a b:Value}{P:Prop}{i:Decidable P}(ho:o.op= .binOp op ty x y yt)(hx:evL E L x=some a)(hy:evL E L y=some b)(hb:binA E op ty (isConstO x||isConstO y) a b=some (.bool (@decide P i)))(hp:¬ P) :
 Does E L h n o (.val (.bool false) h n):=D.bin ho hx hy (by rw[hb,decide_eq_false hp])
theorem D.neT{ty yt:TypeId}{x y:Operand}{a b:Value}{P:Prop}{i:Decidable P}(ho:o.op= .binOp .neq ty x y yt)(hx:evL E L x=some a)(hy:evL E L y=some b)(hb:binA E .neq ty (isConstO x||isConstO y) a b=some (.bool (!@decide P i)))(hp:¬ P) :
 Does E L h n o (.val (.bool true) h n):=D.bin ho hx hy (by rw[hb,decide_eq_false hp];rfl)
theorem D.neF{ty yt:TypeId}{x y:Operand}{a b:Value}{P:Prop}{i:Decidable P}(ho:o.op= .binOp .neq ty x y yt)(hx:evL E L x=some a)(hy:evL E L y=some b)(hb:binA E .neq ty (isConstO x||isConstO y) a b=some (.bool (!@decide P i)))(hp:P) :
 Does E L h n o (.val (.bool false) h n):=D.bin ho hx hy (by rw[hb,decide_eq_true hp];rfl)
theorem D.add{ty yt:TypeId}{x y:Operand}{a b:Int}(ho:o.op= .binOp .add ty x y yt)(hx:evL E L x=some (.int .i64 a))(hy:evL E L y=some (.int .i64 b))(hr: -9223372036854775808≤a+b∧a+b≤9223372036854775807) :
 Does E L h n o (.val (.int .i64 (a+b)) h n):=D.bin ho hx hy (by
 show(bif kindEq .i64 .i64 then some (Value.int .i64 (IntKind.i64.wrap (a+b))) else none)=_;rw[IntWalk.i64_in _ hr];rfl)
theorem D.addN{ty yt:TypeId}{x y:Operand}{a:Nat}(ho:o.op= .binOp .add ty x y yt)(hx:evL E L x=some (.int .i64 (a:Int)))(hy:evL E L y=some (.int .i64 1))(hr:a<9223372036854775807) :
 Does E L h n o (.val (.int .i64 ((a+1:Nat):Int)) h n):=by
 have:=D.add (E:=E) (L:=L) (h:=h) (n:=n) ho hx hy (by omega)
 rwa [show((a+1:Nat):Int)=(a:Int)+1 by omega]
theorem D.sub{ty yt:TypeId}{x y:Operand}{a b:Int}(ho:o.op= .binOp .sub ty x y yt)(hx:evL E L x=some (.int .i64 a))(hy:evL E L y=some (.int .i64 b))(hr: -9223372036854775808≤a-b∧a-b≤9223372036854775807) :
 Does E L h n o (.val (.int .i64 (a-b)) h n):=D.bin ho hx hy (by
 show(bif kindEq .i64 .i64 then some (Value.int .i64 (IntKind.i64.wrap (a-b))) else none)=_;rw[IntWalk.i64_in _ hr];rfl)
end
def Sub(L' L:LT):Prop:=∀ k v,lk L' k=some v→lk L k=some v
theorem Sub.nil{L:LT}:Sub [] L:=fun k v h=>by cases h
theorem Sub.cons{L' L:LT}{k:Nat}{v:Value}(h:lk L k=some v)(hs:Sub L' L):Sub ((k,v) :: L') L:=by
 intro j x hx;rw[lk,biE] at hx;split at hx
 ·rename_i e;rw[beqT] at e;have e:k=j:=e;cases hx;rw[←e];exact h
 ·exact hs j x hx
theorem lenA_slice{E:Env}{ty e:TypeId}(hty:E.ty.get ty=some (tSl e)){h:T Blk}{n:Nat}{eb:Option Addr}{l c:Nat}:builtinA E .len [ty] [.slice eb l c] h n= .val (.int .i64 (l:Int)) h n:=by simp only[builtinA,lenA,hty,tSl,val?]
def Fresh(h:T Blk)(n:Nat):Prop:=∀ b,n≤b→h.get b=none
def Keep(n:Nat)(h h':T Blk):Prop:=∀ b,b<n→h'.get b=h.get b
theorem Fresh.upd{h:T Blk}{n:Nat}(hf:Fresh h n)(k:Option Blk):Fresh (h.upd k n) (n+1):=fun b hb=>by rw[T.gnE _ _ (by omega)];exact hf b (by omega)
theorem Fresh.set{h:T Blk}{n:Nat}(hf:Fresh h n){b:Nat}(hb:b<n)(k:Option Blk):Fresh (h.upd k b) n:=fun c hc=>by rw[T.gnE _ _ (by omega)];exact hf c hc
theorem Fresh.lt{h:T Blk}{n b:Nat}{k:Blk}(hf:Fresh h n)(hb:h.get b=some k):b<n:=by
 rcases Nat.lt_or_ge b n with h1|h1
 ·exact h1
 ·rw[hf b h1] at hb;cases hb
theorem Keep.refl(n:Nat)(h:T Blk):Keep n h h:=fun _ _=>rfl
theorem Keep.upd{n m:Nat}{h h':T Blk}(hk:Keep n h h')(hm:n≤m)(k:Option Blk):Keep n h (h'.upd k m):=fun b hb=>by rw[T.gnE _ _ (by omega)];exact hk b hb
theorem Keep.trans{n m:Nat}{h h' h2:T Blk}(hk:Keep n h h')(hm:n≤m)(hk':Keep m h' h2):Keep n h h2:=fun b hb=>(hk' b (by omega)).trans (hk b hb)
theorem Keep.cells{n:Nat}{h h':T Blk}(hf:Fresh h n)(hk:Keep n h h'){b:Nat}{cs:List Value}(hc:cellsOf h b=some cs):cellsOf h' b=some cs:=by
 have hb:b<n:=by
  rcases Nat.lt_or_ge b n with h1|h1
  ·exact h1
  ·unfold cellsOf at hc;rw[hf b h1] at hc;cases hc
 unfold cellsOf at hc ⊢;rw[hk b hb];exact hc
def BelV(n:Nat):Value→Prop
 | .pointer (some a)=>a.block<n
 | .slice (some a) _ _=>a.block<n
 | .map (some b)=>b<n
 | .bool _=>True
 | .int _ _=>True
 | .string _=>True
 | .pointer none=>True
 | .slice none _ _=>True
 | .map none=>True
 | .nilFunc=>True
 | .nilIface=>True
 | .agg a=>belowV.belowL n 7 a.toList=true
 | .tuple a=>belowV.belowL n 7 a.toList=true
 | .func (.func _) a b=>belowV.belowL n 7 a.toList=true∧belowV.belowL n 7 b.toList=true
 | _=>False
theorem BelV.ok{n:Nat}{v:Value}(h:BelV n v):belowV n 8 v=true:=by unfold BelV at h;split at h<;>first|exact h.elim|rfl|(simp only[belowV,bltT];exact h)|(simp only[belowV];exact h)|(simp only[belowV,h.1,h.2];rfl)
theorem BelV.fn1{n b:Nat}{g:FuncId}(h:b<n):BelV n (.func (.func g) ⟨[]⟩ ⟨[.pointer (some ⟨b,0,none⟩)]⟩):=⟨rfl,by
 have e:Nat.blt b n=true:=by rw[bltT];exact h
 simp only[belowV.belowL,belowV,e];rfl⟩
theorem BelV.fn2{n b c:Nat}{g:FuncId}(h:b<n)(h':c<n):BelV n (.func (.func g) ⟨[]⟩ ⟨[.pointer (some ⟨b,0,none⟩),.pointer (some ⟨c,0,none⟩)]⟩):=⟨rfl,by
 have e:Nat.blt b n=true:=by rw[bltT];exact h
 have e':Nat.blt c n=true:=by rw[bltT];exact h'
 simp only[belowV.belowL,belowV,e,e'];rfl⟩
theorem BelV.ptr{n b o:Nat}(h:b<n):BelV n (.pointer (some ⟨b,o,none⟩)):=h
theorem BelV.sl{n b o l c:Nat}(h:b<n):BelV n (.slice (some ⟨b,o,none⟩) l c):=h
def BelT(n:Nat)(L:LT):List Tmp→Prop
 | []=>True
 | k :: l=>(∃ v,lk L k=some v∧BelV n v)∧BelT n L l
theorem BelT.ok{n:Nat}{L:LT}{t:T Value}(ht:Has t L):∀ {l:List Tmp},BelT n L l→belowT n t l=true
 | [],_=>rfl
 | k :: l,h=>by obtain⟨⟨v,h1,h2⟩,h3⟩:=h;simp only[belowT,ht k v h1,h2.ok,BelT.ok ht h3,Bool.and_self]
section
variable {E:Env}{many:Nat}{all l:List Oper}{acc:List Ent}{L:LT}{h h':T Blk}{n n':Nat}{t:T Value}{o:Oper}{Q:List Ent→T Value→T Blk→Nat→Prop}
theorem OT.val{v:Value}{d:Tmp}(ht:Has t L)(hw:WantL all L o.guard true)(hb:BelT n L (opTmps o))(ho:Does E L h n o (.val v h' n'))(hd:o.dst=some d)(hm:Nat.blt d many=true)
 (hk:OpsDW E many all l (acc ++ [⟨true,t,v,h,h',n,n'⟩]) (t.upd (some v) d) h' n' Q):OpsDW E many all (o :: l) acc t h n Q:=by
 simp only[OpsDW,hw.ok ht,hb.ok ht,ho t ht,putT,hd,hm,cond_true,true_and];exact hk
theorem OT.skip(ht:Has t L)(hw:WantL all L o.guard true)(hb:BelT n L (opTmps o))(ho:Does E L h n o (.skip h' n'))(hd:o.dst=none)
 (hk:OpsDW E many all l (acc ++ [⟨true,t,undefV,h,h',n,n'⟩]) t h' n' Q):OpsDW E many all (o :: l) acc t h n Q:=by
 simp only[OpsDW,hw.ok ht,hb.ok ht,ho t ht,putT,hd,true_and];exact hk
theorem OT.call{f:FuncId}{args:List Value}{v:Value}{d:Tmp}(ht:Has t L)(hw:WantL all L o.guard true)(hb:BelT n L (opTmps o))(ho:Does E L h n o (.enter f args))(hc:Cl E f args h n (.ret v h' n'))(hd:o.dst=some d)(hm:Nat.blt d many=true)
 (hk:OpsDW E many all l (acc ++ [⟨true,t,v,h,h',n,n'⟩]) (t.upd (some v) d) h' n' Q):OpsDW E many all (o :: l) acc t h n Q:=by
 simp only[OpsDW,hw.ok ht,hb.ok ht,ho t ht,true_and];refine⟨v,h',n',hc,?_⟩;simp only[putT,hd,hm,cond_true];exact hk
theorem OT.pass{d:Tmp}(ht:Has t L)(hw:WantL all L o.guard false)(hd:o.dst=some d)(hm:Nat.blt d many=true)(hk:OpsDW E many all l (acc ++ [⟨false,t,undefV,h,h,n,n⟩]) (t.upd (some undefV) d) h n Q) :
 OpsDW E many all (o :: l) acc t h n Q:=by
 simp only[OpsDW,hw.ok ht,putT,hd,hm,cond_true];exact hk
end
def OD(E:Env)(many:Nat)(all l:List Oper)(L:LT)(h:T Blk)(n:Nat)(Q:LT→T Blk→Nat→Prop):Prop :=
 ∀ t acc,Has t L→OpsDW E many all l acc t h n (fun _ t' h' n'=>∃ L',Has t' L'∧Q L' h' n')
section
variable {E:Env}{many:Nat}{all l:List Oper}{L:LT}{h h':T Blk}{n n':Nat}{Q:LT→T Blk→Nat→Prop}{o:Oper}
theorem OD.nil(hq:Q L h n):OD E many all [] L h n Q:=fun _ _ ht=>⟨L,ht,hq⟩
theorem OD.val{v:Value}{d:Tmp}(hw:WantL all L o.guard true)(hb:BelT n L (opTmps o))(ho:Does E L h n o (.val v h' n'))(hd:o.dst=some d)(hm:Nat.blt d many=true)(hk:OD E many all l ((d,v) :: L) h' n' Q):OD E many all (o :: l) L h n Q :=
 fun _ _ ht=>OT.val ht hw hb ho hd hm (hk _ _ (ht.put d v))
theorem OD.skip(hw:WantL all L o.guard true)(hb:BelT n L (opTmps o))(ho:Does E L h n o (.skip h' n'))(hd:o.dst=none)(hk:OD E many all l L h' n' Q):OD E many all (o :: l) L h n Q :=
 fun _ _ ht=>OT.skip ht hw hb ho hd (hk _ _ ht)
theorem OD.call{f:FuncId}{args:List Value}{v:Value}{d:Tmp}(hw:WantL all L o.guard true)(hb:BelT n L (opTmps o))(ho:Does E L h n o (.enter f args))(hc:Cl E f args h n (.ret v h' n'))(hd:o.dst=some d)(hm:Nat.blt d many=true)
 (hk:OD E many all l ((d,v) :: L) h' n' Q):OD E many all (o :: l) L h n Q:=fun _ _ ht=>OT.call ht hw hb ho hc hd hm (hk _ _ (ht.put d v))
theorem OD.pass{d:Tmp}(hw:WantL all L o.guard false)(hd:o.dst=some d)(hm:Nat.blt d many=true)(hk:OD E many all l ((d,undefV) :: L) h n Q):OD E many all (o :: l) L h n Q :=
 fun _ _ ht=>OT.pass ht hw hd hm (hk _ _ (ht.put d undefV))
end
theorem WL.regD{E:Env}{many:Nat}{L:LT}{h:T Blk}{n:Nat}{Q:Ex→LT→T Blk→Nat→Prop}{id:Nat}{ops:Array Oper}(hR:regOK ops.toList=true)(hF:regFl ops.toList=[])(hw:OD E many ops.toList ops.toList L h n (Q .normal)) :
 WL E many (.region id ops true) L h n Q:=by
 intro t ht;refine WP.regD hR ?_;rw[hF];have:=hw t [] ht;have mono:∀ {l:List Oper} {acc:List Ent} {t:T Value} {h:T Blk} {n:Nat} {Q Q':List Ent→T Value→T Blk→Nat→Prop},(∀ a t h n,Q a t h n→Q' a t h n)→OpsDW E many ops.toList l acc t h n Q→OpsDW E many ops.toList l acc t h n Q':=by
  intro l
  induction l with
  | nil=>intro acc t h n Q Q' hq hx;exact hq _ _ _ _ hx
  | cons o l ih =>
    intro acc t h n Q Q' hq hx;simp only[OpsDW] at hx ⊢;split
    ·rename_i hw;rw[hw] at hx;refine⟨hx.1,?_⟩;have hx:=hx.2;split
     ·rename_i ho;rw[ho] at hx;simp only at hx;split
      ·rename_i hp;rw[hp] at hx;exact ih hq hx
      ·rename_i hp;rw[hp] at hx;exact hx
     ·rename_i ho;rw[ho] at hx;simp only at hx;split
      ·rename_i hp;rw[hp] at hx;exact ih hq hx
      ·rename_i hp;rw[hp] at hx;exact hx
     ·rename_i ho;rw[ho] at hx;simp only at hx;obtain⟨v,h1,n1,h2,hx⟩:=hx;refine⟨v,h1,n1,h2,?_⟩;split
      ·rename_i hp;rw[hp] at hx;exact ih hq hx
      ·rename_i hp;rw[hp] at hx;exact hx
     ·rename_i h1 h2 h3;split at hx
      ·rename_i e;exact(h1 _ _ _ e).elim
      ·rename_i e;exact(h2 _ _ e).elim
      ·rename_i e;exact(h3 _ _ e).elim
      ·exact hx
    ·rename_i hw;rw[hw] at hx;simp only at hx;split
     ·rename_i hp;rw[hp] at hx;exact ih hq hx
     ·rename_i hp;rw[hp] at hx;exact hx
    ·rename_i hw;rw[hw] at hx;exact hx
 exact mono (fun a t h n hq=>⟨rfl,hq⟩) this
def UnL(E:Env)(many:Nat)(b:Code)(Q:Ex→LT→T Blk→Nat→Prop)(e:Ex)(L:LT)(h:T Blk)(n:Nat):Prop :=
 match e with
 | .normal=>WL E many (.loop b) L h n Q
 | e=>Q e L h n
theorem WL.unroll{E:Env}{many:Nat}{L:LT}{h:T Blk}{n:Nat}{Q:Ex→LT→T Blk→Nat→Prop}{b:Code}(hw:WL E many b L h n (UnL E many b Q)):WL E many (.loop b) L h n Q:=by
 intro t ht;obtain⟨e,t',h',n',h1,L',h2,h3⟩:=hw t ht;cases e with
 | normal =>
   obtain⟨e2,t2,h2',n2,h4,h5⟩:=h3 t' h2;exact⟨e2,t2,h2',n2,.loop_step h1 h4,h5⟩
 | exit id=>exact⟨_,t',h',n',.loop_out h1 (by simp),L',h2,h3⟩
 | ret=>exact⟨_,t',h',n',.loop_out h1 (by simp),L',h2,h3⟩
section
variable {E:Env}{many:Nat}{all l:List Oper}{L:LT}{h h':T Blk}{n n':Nat}{Q:LT→T Blk→Nat→Prop}{o:Oper}{d:Tmp}{v:Value}
theorem OL.mv{x:Operand}(hk:OL E many all l ((d,v) :: L) h n Q)(ho:o.op= .move x:=by rfl)(hx:evL E L x=some v:=by rfl)(hw:WantL all L o.guard true:=by first|rfl|exact WantL.yes rfl rfl rfl)(hd:o.dst=some d:=by rfl)(hm:Nat.blt d many=true:=by rfl):OL E many all (o :: l) L h n Q:=OL.val hw (D.move ho hx) hd hm hk
theorem OL.asg{x:Operand}(hk:OL E many all l ((d,v) :: L) h n Q)(ho:o.op= .assign x:=by rfl)(hx:evL E L x=some v:=by rfl)(hw:WantL all L o.guard true:=by first|rfl|exact WantL.yes rfl rfl rfl)(hd:o.dst=some d:=by rfl)(hm:Nat.blt d many=true:=by rfl):OL E many all (o :: l) L h n Q:=OL.val hw (D.assign ho hx) hd hm hk
theorem OL.ps(hk:OL E many all l ((d,undefV) :: L) h n Q)(hw:WantL all L o.guard false:=by first|exact WantL.no rfl rfl rfl|exact WantL.un rfl rfl rfl)(hd:o.dst=some d:=by rfl)(hm:Nat.blt d many=true:=by rfl):OL E many all (o :: l) L h n Q:=OL.pass hw hd hm hk
theorem OL.pT{c x y:Operand}(hk:OL E many all l ((d,v) :: L) h n Q)(ho:o.op= .pick c x y:=by rfl)(hc:evL E L c=some (.bool true):=by rfl)(hx:evL E L x=some v:=by rfl)(hw:WantL all L o.guard true:=by first|rfl|exact WantL.yes rfl rfl rfl)(hd:o.dst=some d:=by rfl)(hm:Nat.blt d many=true:=by rfl):OL E many all (o :: l) L h n Q:=OL.val hw (D.pickT ho hc hx) hd hm hk
theorem OL.pF{c x y:Operand}(hk:OL E many all l ((d,v) :: L) h n Q)(ho:o.op= .pick c x y:=by rfl)(hc:evL E L c=some (.bool false):=by rfl)(hx:evL E L y=some v:=by rfl)(hw:WantL all L o.guard true:=by first|rfl|exact WantL.yes rfl rfl rfl)(hd:o.dst=some d:=by rfl)(hm:Nat.blt d many=true:=by rfl):OL E many all (o :: l) L h n Q:=OL.val hw (D.pickF ho hc hx) hd hm hk
theorem OL.un{op:UnOp}{ty:TypeId}{x:Operand}{a:Value}(hk:OL E many all l ((d,v) :: L) h n Q)(ho:o.op= .unOp op ty x:=by rfl)(hx:evL E L x=some a:=by rfl)(hb:unA op a=some v:=by rfl)(hw:WantL all L o.guard true:=by first|rfl|exact WantL.yes rfl rfl rfl)(hd:o.dst=some d:=by rfl)(hm:Nat.blt d many=true:=by rfl):OL E many all (o :: l) L h n Q:=OL.val hw (D.un ho hx hb) hd hm hk
theorem OL.ext{x:Operand}{k:Nat}{vs:Array Value}(hk:OL E many all l ((d,v) :: L) h n Q)(ho:o.op= .extract x k:=by rfl)(hx:evL E L x=some (.tuple vs):=by rfl)(hv:nth vs.toList k=some v:=by rfl)(hw:WantL all L o.guard true:=by first|rfl|exact WantL.yes rfl rfl rfl)(hd:o.dst=some d:=by rfl)(hm:Nat.blt d many=true:=by rfl):OL E many all (o :: l) L h n Q:=OL.val hw (D.extract ho hx hv) hd hm hk
theorem OL.ix{ty:TypeId}{x i:Operand}{a k:Value}(hv:idxA E ty a k=some v)(hk:OL E many all l ((d,v) :: L) h n Q)(ho:o.op= .indexAddr ty x i:=by rfl)(hx:evL E L x=some a:=by rfl)(hi:evL E L i=some k:=by rfl)(hw:WantL all L o.guard true:=by first|rfl|exact WantL.yes rfl rfl rfl)(hd:o.dst=some d:=by rfl)(hm:Nat.blt d many=true:=by rfl):OL E many all (o :: l) L h n Q:=OL.val hw (D.index ho hx hi hv) hd hm hk
theorem OL.ld{ty:TypeId}{x:Operand}{p:Value}(hv:loadA E h ty p=some v)(hk:OL E many all l ((d,v) :: L) h n Q)(ho:o.op= .load ty x:=by rfl)(hx:evL E L x=some p:=by rfl)(hw:WantL all L o.guard true:=by first|rfl|exact WantL.yes rfl rfl rfl)(hd:o.dst=some d:=by rfl)(hm:Nat.blt d many=true:=by rfl):OL E many all (o :: l) L h n Q:=OL.val hw (D.load ho hx hv) hd hm hk
theorem OL.st{ty:TypeId}{x y:Operand}{p w:Value}(hv:storeA E h ty p w=some h')(hk:OL E many all l L h' n Q)(ho:o.op= .store ty x y:=by rfl)(hx:evL E L x=some p:=by rfl)(hy:evL E L y=some w:=by rfl)(hw:WantL all L o.guard true:=by first|rfl|exact WantL.yes rfl rfl rfl)(hd:o.dst=none:=by rfl):OL E many all (o :: l) L h n Q:=OL.skip hw (D.store ho hx hy hv) hd hk
theorem OL.fd{s:TypeId}{x:Operand}{k b off f:Nat}(hf:fieldOff E s k=some f)(hk:OL E many all l ((d,.pointer (some ⟨b,off+f,none⟩)) :: L) h n Q)(ho:o.op= .fieldAddr s x k:=by rfl)(hx:evL E L x=some (.pointer (some ⟨b,off,none⟩)):=by rfl)(hw:WantL all L o.guard true:=by first|rfl|exact WantL.yes rfl rfl rfl)(hd:o.dst=some d:=by rfl)(hm:Nat.blt d many=true:=by rfl):OL E many all (o :: l) L h n Q:=OL.val hw (D.field ho hx hf) hd hm hk
theorem OL.bT{op:BinOp}{ty yt:TypeId}{x y:Operand}{a b:Value}{P:Prop}{i:Decidable P}(hk:OL E many all l ((d,.bool true) :: L) h n Q)(ho:o.op= .binOp op ty x y yt:=by rfl)(hx:evL E L x=some a:=by rfl)(hy:evL E L y=some b:=by rfl)(hb:binA E op ty (isConstO x||isConstO y) a b=some (.bool (@decide P i)):=by rfl)(hp:P:=by first|assumption|omega)(hw:WantL all L o.guard true:=by first|rfl|exact WantL.yes rfl rfl rfl)(hd:o.dst=some d:=by rfl)(hm:Nat.blt d many=true:=by rfl):OL E many all (o :: l) L h n Q:=OL.val hw (D.binT ho hx hy hb hp) hd hm hk
theorem OL.bF{op:BinOp}{ty yt:TypeId}{x y:Operand}{a b:Value}{P:Prop}{i:Decidable P}(hk:OL E many all l ((d,.bool false) :: L) h n Q)(ho:o.op= .binOp op ty x y yt:=by rfl)(hx:evL E L x=some a:=by rfl)(hy:evL E L y=some b:=by rfl)(hb:binA E op ty (isConstO x||isConstO y) a b=some (.bool (@decide P i)):=by rfl)(hp:¬ P:=by first|assumption|omega)(hw:WantL all L o.guard true:=by first|rfl|exact WantL.yes rfl rfl rfl)(hd:o.dst=some d:=by rfl)(hm:Nat.blt d many=true:=by rfl):OL E many all (o :: l) L h n Q:=OL.val hw (D.binF ho hx hy hb hp) hd hm hk
theorem OL.nT{ty yt:TypeId}{x y:Operand}{a b:Value}{P:Prop}{i:Decidable P}(hk:OL E many all l ((d,.bool true) :: L) h n Q)(ho:o.op= .binOp .neq ty x y yt:=by rfl)(hx:evL E L x=some a:=by rfl)(hy:evL E L y=some b:=by rfl)(hb:binA E .neq ty (isConstO x||isConstO y) a b=some (.bool (!@decide P i)):=by rfl)(hp:¬ P:=by first|assumption|omega)(hw:WantL all L o.guard true:=by first|rfl|exact WantL.yes rfl rfl rfl)(hd:o.dst=some d:=by rfl)(hm:Nat.blt d many=true:=by rfl):OL E many all (o :: l) L h n Q:=OL.val hw (D.neT ho hx hy hb hp) hd hm hk
theorem OL.nF{ty yt:TypeId}{x y:Operand}{a b:Value}{P:Prop}{i:Decidable P}(hk:OL E many all l ((d,.bool false) :: L) h n Q)(ho:o.op= .binOp .neq ty x y yt:=by rfl)(hx:evL E L x=some a:=by rfl)(hy:evL E L y=some b:=by rfl)(hb:binA E .neq ty (isConstO x||isConstO y) a b=some (.bool (!@decide P i)):=by rfl)(hp:P:=by first|assumption|omega)(hw:WantL all L o.guard true:=by first|rfl|exact WantL.yes rfl rfl rfl)(hd:o.dst=some d:=by rfl)(hm:Nat.blt d many=true:=by rfl):OL E many all (o :: l) L h n Q:=OL.val hw (D.neF ho hx hy hb hp) hd hm hk
theorem OL.bv{op:BinOp}{ty yt:TypeId}{x y:Operand}{a b:Value}(hb:binA E op ty (isConstO x||isConstO y) a b=some v)(hk:OL E many all l ((d,v) :: L) h n Q)(ho:o.op= .binOp op ty x y yt:=by rfl)(hx:evL E L x=some a:=by rfl)(hy:evL E L y=some b:=by rfl)(hw:WantL all L o.guard true:=by first|rfl|exact WantL.yes rfl rfl rfl)(hd:o.dst=some d:=by rfl)(hm:Nat.blt d many=true:=by rfl):OL E many all (o :: l) L h n Q:=OL.val hw (D.bin ho hx hy hb) hd hm hk
theorem OL.ad1{ty yt:TypeId}{x y:Operand}{a:Nat}(hk:OL E many all l ((d,.int .i64 ((a+1:Nat):Int)) :: L) h n Q)(ho:o.op= .binOp .add ty x y yt:=by rfl)(hx:evL E L x=some (.int .i64 (a:Int)):=by rfl)(hy:evL E L y=some (.int .i64 1):=by rfl)(hr:a<9223372036854775807:=by omega)(hw:WantL all L o.guard true:=by first|rfl|exact WantL.yes rfl rfl rfl)(hd:o.dst=some d:=by rfl)(hm:Nat.blt d many=true:=by rfl):OL E many all (o :: l) L h n Q:=OL.val hw (D.addN ho hx hy hr) hd hm hk
theorem OL.ad{ty yt:TypeId}{x y:Operand}{a b:Int}(hk:OL E many all l ((d,.int .i64 (a+b)) :: L) h n Q)(ho:o.op= .binOp .add ty x y yt:=by rfl)(hx:evL E L x=some (.int .i64 a):=by rfl)(hy:evL E L y=some (.int .i64 b):=by rfl)(hr: -9223372036854775808≤a+b∧a+b≤9223372036854775807:=by omega)(hw:WantL all L o.guard true:=by first|rfl|exact WantL.yes rfl rfl rfl)(hd:o.dst=some d:=by rfl)(hm:Nat.blt d many=true:=by rfl):OL E many all (o :: l) L h n Q:=OL.val hw (D.add ho hx hy hr) hd hm hk
theorem OL.sb{ty yt:TypeId}{x y:Operand}{a b:Int}(hk:OL E many all l ((d,.int .i64 (a-b)) :: L) h n Q)(ho:o.op= .binOp .sub ty x y yt:=by rfl)(hx:evL E L x=some (.int .i64 a):=by rfl)(hy:evL E L y=some (.int .i64 b):=by rfl)(hr: -9223372036854775808≤a-b∧a-b≤9223372036854775807:=by omega)(hw:WantL all L o.guard true:=by first|rfl|exact WantL.yes rfl rfl rfl)(hd:o.dst=some d:=by rfl)(hm:Nat.blt d many=true:=by rfl):OL E many all (o :: l) L h n Q:=OL.val hw (D.sub ho hx hy hr) hd hm hk
theorem OL.al{e:TypeId}{i:TyI}(hi:E.ty.get e=some i)(hk:OL E many all l ((d,ptrTo n) :: L) (h.upd (some (.cells i.zero)) n) (n+1) Q)(ho:o.op= .alloc e:=by rfl)(hz:i.zok=true:=by rfl)(hw:WantL all L o.guard true:=by first|rfl|exact WantL.yes rfl rfl rfl)(hd:o.dst=some d:=by rfl)(hm:Nat.blt d many=true:=by rfl):OL E many all (o :: l) L h n Q:=OL.val hw (D.alloc ho hi hz) hd hm hk
theorem OL.bx{e:TypeId}{x:Operand}{w:Value}(hk:OL E many all l ((d,ptrTo n) :: L) (h.upd (some (.cells (cellsL w))) n) (n+1) Q)(ho:o.op= .box e x:=by rfl)(hx:evL E L x=some w:=by rfl)(hw:WantL all L o.guard true:=by first|rfl|exact WantL.yes rfl rfl rfl)(hd:o.dst=some d:=by rfl)(hm:Nat.blt d many=true:=by rfl):OL E many all (o :: l) L h n Q:=OL.val hw (D.box ho hx) hd hm hk
theorem OL.bs{ty:TypeId}{len:Nat}{ps:Array (Nat×Operand)}{q:List (Nat×Value)}{cs:List Value}(hv:buildSliceA E ty len q=some cs)(hk:OL E many all l ((d,.slice (some ⟨n,0,none⟩) len len) :: L) (h.upd (some (.cells cs)) n) (n+1) Q)(ho:o.op= .buildSlice ty len ps:=by rfl)(hp:evPs E L ps.toList=some q:=by rfl)(hw:WantL all L o.guard true:=by first|rfl|exact WantL.yes rfl rfl rfl)(hd:o.dst=some d:=by rfl)(hm:Nat.blt d many=true:=by rfl):OL E many all (o :: l) L h n Q:=OL.val hw (D.buildSlice ho hp hv) hd hm hk
theorem OL.bd{ty:TypeId}{ps:Array (Nat×Operand)}{q:List (Nat×Value)}(hv:buildA E ty q=some v)(hk:OL E many all l ((d,v) :: L) h n Q)(ho:o.op= .build ty ps:=by rfl)(hp:evPs E L ps.toList=some q:=by rfl)(hw:WantL all L o.guard true:=by first|rfl|exact WantL.yes rfl rfl rfl)(hd:o.dst=some d:=by rfl)(hm:Nat.blt d many=true:=by rfl):OL E many all (o :: l) L h n Q:=OL.val hw (D.build ho hp hv) hd hm hk
theorem OL.bi{c:Call}{b:Builtin}{args:List Value}(hr:builtinA E b c.argTypes.toList args h n= .val v h' n')(hk:OL E many all l ((d,v) :: L) h' n' Q)(ho:o.op= .call c:=by rfl)(hc:c.callee= .builtin b:=by rfl)(ha:evLs E L c.args.toList=some args:=by rfl)(hw:WantL all L o.guard true:=by first|rfl|exact WantL.yes rfl rfl rfl)(hd:o.dst=some d:=by rfl)(hm:Nat.blt d many=true:=by rfl):OL E many all (o :: l) L h n Q:=OL.val hw (D.builtinV ho hc ha hr) hd hm hk
theorem OL.cf{c:Call}{f:FuncId}{fn:Func}{args:List Value}(hf:E.fn.get f=some fn)(hcl:Cl E f args h n (.ret v h' n'))(hk:OL E many all l ((d,v) :: L) h' n' Q)(ho:o.op= .call c:=by rfl)(hc:c.callee= .value (.func f):=by rfl)(ha:evLs E L c.args.toList=some args:=by rfl)(hw:WantL all L o.guard true:=by first|rfl|exact WantL.yes rfl rfl rfl)(hd:o.dst=some d:=by rfl)(hm:Nat.blt d many=true:=by rfl):OL E many all (o :: l) L h n Q:=OL.call hw (D.callF ho hc ha hf) hcl hd hm hk
theorem OL.l1{ty:TypeId}{i:TyI}(hty:E.ty.get ty=some i){x:Operand}{b k:Nat}{cs:List Value}(hk:OL E many all l ((d,v) :: L) h n Q)(ho:o.op= .load ty x:=by rfl)(hx:evL E L x=some (.pointer (some ⟨b,k,none⟩)):=by rfl)(hc:cellsOf h b=some cs:=by first|exact cells_of (by repeat (first|exact T.gsE _ _ _|assumption|refine(T.gnE _ _ (by omega)).trans ?_))|assumption)(hv:cs[k]? =some v:=by rfl)(hi:isAgg i.d=false:=by rfl)(hw:WantL all L o.guard true:=by first|rfl|exact WantL.yes rfl rfl rfl)(hd:o.dst=some d:=by rfl)(hm:Nat.blt d many=true:=by rfl):OL E many all (o :: l) L h n Q:=OL.val hw (D.load ho hx (load1 hty hi hc hv)) hd hm hk
end
section
variable {E:Env}{many:Nat}{all l:List Oper}{L:LT}{h h':T Blk}{n n':Nat}{Q:LT→T Blk→Nat→Prop}{o:Oper}{d:Tmp}{v:Value}
theorem D.callV{c:Call}{x:Operand}{f:FuncId}{fs cs:Array Value}{fn:Func}{args al:List Value}(ho:o.op= .call c)(hc:c.callee= .value x)(hx:evL E L x=some (.func (.func f) fs cs))(ha:evLs E L c.args.toList=some args)(hf:E.fn.get f=some fn)(has:fs.toList ++ args ++ cs.toList=al) :
 Does E L h n o (.enter f al):=fun t ht=>by
 subst has;simp only[opA,ho,hc,evLs_ok ht ha,evL_ok ht hx,callA,hf]
theorem D.callY{c:Call}{x:Operand}{r:Nat}{args:List Value}(ho:o.op= .call c)(hc:c.callee= .value x)(hx:evL E L x=some (.func (.yield r) #[] #[]))(ha:evLs E L c.args.toList=some args):Does E L h n o (.round r args):=fun t ht=>by simp only[opA,ho,hc,evLs_ok ht ha,evL_ok ht hx,callA];rfl
theorem OL.round{r:Nat}{args:List Value}(hw:WantL all L o.guard true)(ho:Does E L h n o (.round r args))(hc:Rd E r args h n (.ret v h' n'))(hd:o.dst=some d)(hm:Nat.blt d many=true)
 (hk:OL E many all l ((d,v) :: L) h' n' Q):OL E many all (o :: l) L h n Q:=by
 intro t ht;simp only[OpsW,hw.ok ht,ho t ht];refine⟨v,h',n',hc,?_⟩;simp only[putT,hd,hm,cond_true];exact hk _ (ht.put d v)
theorem OL.cv{c:Call}{x:Operand}{f:FuncId}{fs cs:Array Value}{fn:Func}{args al:List Value}(hf:E.fn.get f=some fn)(hcl:Cl E f al h n (.ret v h' n'))(hk:OL E many all l ((d,v) :: L) h' n' Q)(ho:o.op= .call c:=by rfl)(hc:c.callee= .value x:=by rfl)(hx:evL E L x=some (.func (.func f) fs cs):=by rfl)(ha:evLs E L c.args.toList=some args:=by rfl)(has:fs.toList ++ args ++ cs.toList=al:=by rfl)(hw:WantL all L o.guard true:=by first|rfl|exact WantL.yes rfl rfl rfl)(hd:o.dst=some d:=by rfl)(hm:Nat.blt d many=true:=by rfl):OL E many all (o :: l) L h n Q:=OL.call hw (D.callV ho hc hx ha hf has) hcl hd hm hk
theorem OL.cy{c:Call}{x:Operand}{r:Nat}{args:List Value}(hcl:Rd E r args h n (.ret v h' n'))(hk:OL E many all l ((d,v) :: L) h' n' Q)(ho:o.op= .call c:=by rfl)(hc:c.callee= .value x:=by rfl)(hx:evL E L x=some (.func (.yield r) #[] #[]):=by rfl)(ha:evLs E L c.args.toList=some args:=by rfl)(hw:WantL all L o.guard true:=by first|rfl|exact WantL.yes rfl rfl rfl)(hd:o.dst=some d:=by rfl)(hm:Nat.blt d many=true:=by rfl):OL E many all (o :: l) L h n Q:=OL.round hw (D.callY ho hc hx ha) hcl hd hm hk
end
def calmC:Code→Bool
 | .seq a b=>calmC a&&calmC b
 | .cond _ a b=>calmC a&&calmC b
 | .block _ b=>calmC b
 | .loop b=>calmC b
 | .region _ _ dr=> !dr
 | .scope _=>false
 | .rangeFunc _ _ _ _=>false
 | _=>true
section
variable {E:Env}
theorem opC_d{ih:Run}{t:T Value}{d:List Deferred}{h:T Blk}{n:Nat}{o:Oper}{v:Value}{d':List Deferred}{h':T Blk}{n':Nat}(hx:opC E ih none t d h n o= .inl (some (v,d',h',n'))) :
 d.length≤d'.length∧(d'.length=d.length→∀ rd d2,opC E ih rd t d2 h n o= .inl (some (v,d2,h',n'))):=by
 unfold opC at hx;split at hx
 ·rename_i ho;cases hx;exact⟨nlR _,fun _ rd d2=>by simp only[opC,ho]⟩
 ·rename_i ho;cases hx;exact⟨nlR _,fun _ rd d2=>by simp only[opC,ho]⟩
 ·cases hx;exact⟨by simp,fun h=>by simp at h⟩
 ·rename_i ho;split at hx
  ·rename_i hc;cases hx;exact⟨nlR _,fun _ rd d2=>by simp only[opC,ho,hc]⟩
  ·cases hx
 ·rename_i ho;split at hx
  ·rename_i hc;cases hx;exact⟨nlR _,fun _ rd d2=>by simp only[opC,ho,hc]⟩
  ·cases hx
 ·cases hx
 ·cases hx
theorem opsS_d{ih:Run}{many:Nat}{all:List Oper}:∀ {l:List Oper}{t:T Value}{d:List Deferred}{h:T Blk}{n:Nat}{e:Ex}{t':T Value}{d':List Deferred}{h':T Blk}{n':Nat},opsS E ih none many all l t d h n= .ok e t' d' h' n' →
 d.length≤d'.length∧(d'.length=d.length→∀ rd d2,opsS E ih rd many all l t d2 h n= .ok e t' d2 h' n')
 | [],t,d,h,n,e,t',d',h',n',hx=>by cases hx;exact⟨nlR _,fun _ rd d2=>rfl⟩
 | o :: l,t,d,h,n,e,t',d',h',n',hx=>by
   simp only[opsS] at hx;split at hx
   ·rename_i hw;split at hx
    ·rename_i v d1 h1 n1 ho;obtain⟨a1,a2⟩:=opC_d ho;split at hx
     ·rename_i t1 hp;obtain⟨b1,b2⟩:=opsS_d hx;exact⟨by omega,fun hl rd d2=>by simp only[opsS,hw,a2 (by omega) rd d2,hp,b2 (by omega) rd d2]⟩
     ·cases hx
    ·cases hx
    ·cases hx
   ·rename_i hw;split at hx
    ·rename_i t1 hp;obtain⟨b1,b2⟩:=opsS_d hx;exact⟨b1,fun hl rd d2=>by simp only[opsS,hw,hp,b2 hl rd d2]⟩
    ·cases hx
   ·cases hx
theorem exec_d:∀ (f:Nat){c:Code}{many:Nat}{t:T Value}{d:List Deferred}{h:T Blk}{n:Nat}{e:Ex}{t':T Value}{d':List Deferred}{h':T Blk}{n':Nat},calmC c=true→exec E f c none many t d h n= .ok e t' d' h' n' →
 d.length≤d'.length∧(d'.length=d.length→∀ rd d2,exec E f c rd many t d2 h n= .ok e t' d2 h' n'):=by
 intro f
 induction f with
 | zero=>intro c many t d h n e t' d' h' n' _ hx;cases hx
 | succ f ih =>
   intro c many t d h n e t' d' h' n' hc hx;simp only[exec] at hx ⊢;cases c with
   | skip=>cases hx;exact⟨nlR _,fun _ rd d2=>rfl⟩
   | label l=>cases hx;exact⟨nlR _,fun _ rd d2=>rfl⟩
   | exit i=>cases hx;exact⟨nlR _,fun _ rd d2=>rfl⟩
   | ret=>cases hx;exact⟨nlR _,fun _ rd d2=>rfl⟩
   | seq a b =>
     simp only[calmC,baT] at hc;simp only[stepA] at hx ⊢;split at hx
     ·rename_i t1 d1 h1 n1 h2;obtain⟨a1,a2⟩:=ih hc.1 h2;obtain⟨b1,b2⟩:=ih hc.2 hx;exact⟨by omega,fun hl rd d2=>by simp only[a2 (by omega) rd d2,b2 (by omega) rd d2]⟩
     ·rename_i hne;obtain⟨a1,a2⟩:=ih hc.1 hx;refine⟨a1,fun hl rd d2=>?_⟩;rw[a2 hl rd d2];cases e with
      | normal=>exact absurd hx (hne _ _ _ _)
      | exit i=>rfl
      | ret=>rfl
   | cond x a b =>
     simp only[calmC,baT] at hc;simp only[stepA] at hx ⊢;split at hx
     ·obtain⟨a1,a2⟩:=ih hc.1 hx;exact⟨a1,fun hl rd d2=>a2 hl rd d2⟩
     ·obtain⟨a1,a2⟩:=ih hc.2 hx;exact⟨a1,fun hl rd d2=>a2 hl rd d2⟩
     ·cases hx
   | block id b =>
     simp only[calmC] at hc;simp only[stepA] at hx ⊢;split at hx
     ·rename_i i t1 d1 h1 n1 h2;obtain⟨a1,a2⟩:=ih hc h2;rw[biE] at hx;split at hx
      ·rename_i hi;cases hx;exact⟨a1,fun hl rd d2=>by simp only[a2 hl rd d2,hi,_root_.cond_true]⟩
      ·rename_i hi;cases hx;exact⟨a1,fun hl rd d2=>by simp only[a2 hl rd d2,Bool.not_eq_true _▸hi,_root_.cond_false]⟩
     ·rename_i hne;obtain⟨a1,a2⟩:=ih hc hx;refine⟨a1,fun hl rd d2=>?_⟩;rw[a2 hl rd d2];cases e with
      | normal=>rfl
      | exit i=>exact absurd hx (hne _ _ _ _ _)
      | ret=>rfl
   | loop b =>
     have hc':=hc;simp only[calmC] at hc';simp only[stepA] at hx ⊢;split at hx
     ·rename_i t1 d1 h1 n1 h2;obtain⟨a1,a2⟩:=ih hc' h2;obtain⟨b1,b2⟩:=ih hc hx;exact⟨by omega,fun hl rd d2=>by simp only[a2 (by omega) rd d2,b2 (by omega) rd d2]⟩
     ·rename_i hne;obtain⟨a1,a2⟩:=ih hc' hx;refine⟨a1,fun hl rd d2=>?_⟩;rw[a2 hl rd d2];cases e with
      | normal=>exact absurd hx (hne _ _ _ _)
      | exit i=>rfl
      | ret=>rfl
   | region id ops dr =>
     cases dr with
     | true=>cases hc
     | false=>exact opsS_d hx
   | scope b=>cases hc
   | rangeFunc a b c d=>cases hc
   | _=>cases hx
theorem Ev.lift{c:Code}{many:Nat}{t:T Value}{h:T Blk}{n:Nat}{e:Ex}{t':T Value}{h':T Blk}{n':Nat}(hc:calmC c=true)(hx:Ev E c none many t [] h n (.ok e t' [] h' n'))(rd:Option Nat)(d:List Deferred):Ev E c rd many t d h n (.ok e t' d h' n'):=by obtain⟨F,hF⟩:=hx;exact⟨F,fun f hf=>(exec_d f hc (hF f hf)).2 rfl rd d⟩
end
theorem Rd.ok{E:Env}{l:Nat}{r:ALoop}{h:T Blk}{n:Nat}{L:LT}{p:Tmp}{v:Value}{Q:T Blk→Nat→Prop}(hg:getL h l=some r)(hs:r.state= .ready)(ht:Has r.tmps L)(hp:r.params=[p])(hpm:Nat.blt p r.many=true)(ha:calmC r.assign=true)(hb:calmC r.body=true)
 (hw:WL E r.many r.assign ((p,v) :: L) h n fun e L1 h1 n1=>e= .normal∧getL h1 l=some r∧WL E r.many r.body L1 (h1.upd (some (.loop {r with state:= .busy})) l) n1 fun e L2 h2 n2=>e= .normal∧getL h2 l=some {r with state:= .busy}∧Q (h2.upd (some (.loop {r with state:= .ready,pending:=none})) l) n2) :
 ∃ h' n',Rd E l [v] h n (.ret (.bool true) h' n')∧Q h' n':=by
 obtain⟨st,pd,tm,mn,ps,a9,bd,df⟩:=r;simp only at hs ht hp hpm ha hb hw;subst hs;subst hp;obtain⟨e,t1,h1,n1,h2,L1,ht1,rfl,hg1,hw2⟩:=hw (tm.upd (some v) p) (ht.put p v);obtain⟨e,t2,h3,n3,h4,L2,ht2,rfl,hg2,hq⟩:=hw2 t1 ht1;obtain⟨F1,hF1⟩:=Ev.lift ha h2 (some l) [];obtain⟨F2,hF2⟩:=Ev.lift hb h4 (some l) [];refine⟨_,_,⟨max F1 F2,fun f hf=>?_⟩,hq⟩;unfold roundF;simp only[hg,setParams,hpm,_root_.cond_true,hF1 f (by omega),hg1,hF2 f (by omega),hg2]
theorem takeL_of{α:Type}:∀ {n:Nat}{l:List α},n≤l.length→takeL n l=some (l.take n)
 | 0,l,_=>by simp[takeL]
 | n+1,[],h=>by simp at h
 | n+1,a :: l,h=>by simp only[takeL,takeL_of (show n≤l.length by simpa using h),List.take_succ_cons]
theorem seg_of{α:Type}{l:List α}{o n:Nat}(h:o+n≤l.length):seg l o n=some ((l.drop o).take n):=by rw[seg,dropL_eq];exact takeL_of (by rw[List.length_drop];omega)
theorem seg_zero{α:Type}{l:List α}{o:Nat}:seg l o 0=some []:=rfl
theorem seg_all{α:Type}(l:List α):seg l 0 l.length=some l:=by rw[seg_of (by omega),List.drop_zero,List.take_length]
theorem seg_sub{α:Type}{l r:List α}{o n k m:Nat}(h:seg l o n=some r)(hk:k+m≤n):seg l (o+k) m=some ((r.drop k).take m):=by
 rw[seg,dropL_eq] at h;obtain⟨h1,h2⟩:=takeL_some _ _ _ h;rw[List.length_drop] at h2;by_cases hm:m=0
 ·subst hm;simp[seg,takeL]
 rw[seg_of (by omega),h1]
 congr 1
 rw[List.drop_take,List.drop_drop,List.take_take,Nat.min_eq_left (by omega)]
theorem seg_len{α:Type}{l r:List α}{o n:Nat}(h:seg l o n=some r):r.length=n:=(seg_some h).1
theorem seg_at{α:Type}{l r:List α}{o n i:Nat}(h:seg l o n=some r)(hi:i<n):l[o+i]? =r[i]? :=((seg_some h).2 i hi).1.symm
set_option maxRecDepth 100000
set_option maxHeartbeats 1000000
structure ElT(E:Env)(st e:TypeId)(j:TyI):Prop where
 hs:E.ty.get st=some (tSl e)
 he:E.ty.get e=some j
 b1:Nat.ble j.bytes 4096=true
 b2:Nat.blt 0 j.size=true
 b3:Nat.blt 0 j.bytes=true
 zk:j.zok=true
 zl:Nat.beq j.zero.length j.size=true
def App(sz lo:Nat)(h:T Blk)(v:Value)(len:Nat)(cs:List Value):Prop :=
 (v= .slice none 0 0∧len=0∧cs=[])∨∃ b o cap all,v= .slice (some ⟨b,o,none⟩) len cap∧(cap=UNK * sz+len∨cap=len)∧lo≤b∧h.get b=some (.cells all)∧seg all o (len * sz)=some cs
def blkOf:Value→Option Nat
 | .slice (some a) _ _=>some a.block
 | _=>none
section
variable {E:Env}{st e:TypeId}{j:TyI}{lo n len xl:Nat}{h:T Blk}{v x:Value}{cs new:List Value}
theorem App.csl{sz:Nat}(a:App sz lo h v len cs):cs.length=len * sz:=by
 rcases a with⟨_,rfl,rfl⟩|⟨b,o,cap,all,_,_,_,_,h5⟩
 ·simp
 ·exact seg_len h5
theorem App.keep{sz:Nat}{h':T Blk}(a:App sz lo h v len cs)(hk:∀ b,blkOf v=some b→h'.get b=h.get b):App sz lo h' v len cs:=by
 rcases a with h1|⟨b,o,cap,all,rfl,h2,h3,h4,h5⟩
 ·exact .inl h1
 ·exact .inr ⟨b,o,cap,all,rfl,h2,h3,by rw[hk b rfl];exact h4,h5⟩
theorem App.low{sz lo':Nat}(a:App sz lo h v len cs)(hl:lo'≤lo):App sz lo' h v len cs:=by
 rcases a with h1|⟨b,o,cap,all,h1,h2,h3,h4,h5⟩
 ·exact .inl h1
 ·exact .inr ⟨b,o,cap,all,h1,h2,by omega,h4,h5⟩
theorem App.blk{sz:Nat}(a:App sz lo h v len cs){b:Nat}(hb:blkOf v=some b):lo≤b∧∃ all,h.get b=some (.cells all):=by
 rcases a with⟨rfl,_⟩|⟨b',o,cap,all,rfl,_,h3,h4,_⟩
 ·cases hb
 ·cases hb;exact⟨h3,all,h4⟩
theorem App.row{sz:Nat}(a:App sz lo h v len cs):rowA h sz len v=some cs:=by
 rcases a with⟨rfl,rfl,rfl⟩|⟨b',o,cap,all,rfl,_,h3,h4,h5⟩
 ·rfl
 ·simp only[rowA,cells_of h4];exact h5
theorem App.isC{sz:Nat}(a:App sz lo h v len cs):isCell v=true:=by rcases a with⟨rfl,rfl,rfl⟩|⟨b',o,cap,all,rfl,_,h3,h4,h5⟩<;>rfl
theorem append_own(el:ElT E st e j)(a:App j.size lo h v len cs)(hf:Fresh h n)(hx:∃ xb xc,x= .slice xb xl xc)(hr:rowA h j.size xl x=some new)(h0:0<xl)(hxl:xl≤1000000000)(hc:allCells new=true)(hl:len≤1000000000) :
 ∃ w h',appendA E st (some st) v x h n=some (w,h',n+1)∧Fresh h' (n+1)∧(∀ b,b<n→blkOf v≠some b→h'.get b=h.get b)∧blkOf w=some n∧App j.size n h' w (len+xl) (cs ++ new)∧w= .slice (some ⟨n,0,none⟩) (len+xl) (UNK * j.size+(len+xl))∧h'.get n=some (.cells (cs ++ new)):=by
 obtain⟨xb,xc,rfl⟩:=hx;have hu:len<UNK:=by unfold UNK;omega
 have hu2:len+xl<UNK:=by unfold UNK;omega
 have e2:newCells E h j (some st) (.slice xb xl xc)=some (xl,new):=by simp only[newCells,el.hs,tSl,hr];rw[show Nat.ble xl 1000000000=true by rw[bleT];exact hxl];rfl
 have e3:Nat.beq xl 0=false:=by
  cases hb:Nat.beq xl 0 with
  | false=>rfl
  | true=>rw[beqT] at hb;omega
 have e4:Nat.ble len 1000000000=true:=by rw[bleT];exact hl
 have e5:Nat.ble len len=true:=by rw[bleT];exact nlR _
 have e6:Nat.ble (len+xl) len=false:=by
  cases hb:Nat.ble (len+xl) len with
  | false=>rfl
  | true=>rw[bleT] at hb;omega
 have hrow:=a.row;have fin:∀ (h1:T Blk),Fresh h1 n→App j.size n (h1.upd (some (.cells (cs ++ new))) n) (.slice (some ⟨n,0,none⟩) (len+xl) (UNK * j.size+(len+xl))) (len+xl) (cs ++ new):=fun h1 _=>by
  refine .inr ⟨n,0,_,cs ++ new,rfl,.inl rfl,nlR n,T.gsE _ _ _,?_⟩;have h1:=a.csl;have h2:new.length=xl * j.size:=by
   cases xb with
   | none =>
     simp only[rowA,e3,cond_false] at hr;cases hr
   | some a' =>
     obtain⟨b',o',s'⟩:=a';cases s' with
     | some s'=>simp[rowA] at hr
     | none =>
       simp only[rowA] at hr;split at hr
       ·exact seg_len hr
       ·cases hr
  rw[show(len+xl) * j.size=(cs ++ new).length by rw[List.length_append,h1,h2,Nat.add_mul]];exact seg_all _
 rcases a with⟨rfl,rfl,rfl⟩|⟨b,o,cap,all,rfl,hcap,h3,h4,h5⟩
 ·refine⟨_,h.upd (some (.cells ([] ++ new))) n,?_,hf.upd _,fun b hb _=>T.gnE _ _ (by omega),rfl,fin h hf,rfl,T.gsE _ _ _⟩;simp only[appendA,el.hs,tSl,el.he,e2,el.b1,el.b2,el.b3,el.zk,el.zl,show lowCap 0=0 from rfl,e4,e5,Bool.and_self,cond_true,e3,cond_false,e6,hrow,show unkCap 0=false from rfl]
 ·have hbn:=hf.lt h4;rcases hcap with rfl|hcap
  ·have q1:lowCap (UNK * j.size+len)=len:=lowCap_u hu;have q2:(UNK * j.size+len) / UNK=j.size:=divCap_u hu;have q3:unkCap (UNK * j.size+len)=true:=by
    have hz:0<j.size:=by have:=el.b2;rwa [bltT] at this
    unfold unkCap;rw[bleT];have:=Nat.le_mul_of_pos_right UNK hz;omega
   refine⟨_,(h.upd none b).upd (some (.cells (cs ++ new))) n,?_,(hf.set hbn none).upd _,fun c hc hcb=>?_,rfl,fin _ (hf.set hbn none),rfl,T.gsE _ _ _⟩
   ·simp only[appendA,el.hs,tSl,el.he,e2,el.b1,el.b2,el.b3,el.zk,el.zl,q1,e4,e5,Bool.and_self,cond_true,e3,cond_false,e6,hrow,q3,q2,Nat.beq_refl,hc,h4,Bool.not_true]
   ·rw[T.gnE _ _ (by omega),T.gnE _ _ (fun e=>hcb (by subst e;rfl))]
  ·have hcap:=hcap.symm;subst hcap;have q1:lowCap len=len:=by unfold lowCap;exact Nat.mod_eq_of_lt hu
   have q3:unkCap len=false:=by
    unfold unkCap;cases hb:Nat.ble UNK len with
    | false=>rfl
    | true=>rw[bleT] at hb;omega
   refine⟨_,h.upd (some (.cells (cs ++ new))) n,?_,hf.upd _,fun c hc _=>T.gnE _ _ (by omega),rfl,fin h hf,rfl,T.gsE _ _ _⟩;simp only[appendA,el.hs,tSl,el.he,e2,el.b1,el.b2,el.b3,el.zk,el.zl,q1,e4,e5,Bool.and_self,cond_true,e3,cond_false,e6,hrow,q3]
theorem appendB{h':T Blk}{n':Nat}{s x v:Value}(ha:appendA E st (some st) s x h n=some (v,h',n')):builtinA E .append [st,st] [s,x] h n= .val v h' n':=by simp only[builtinA,nth];show(match appendA E st (some st) s x h n with|some (v,h',n')=>OO.val v h' n'|none=> .no "append")=_;rw[ha]
end
section
variable {E:Env}{L:LT}{h h':T Blk}{n n':Nat}{o:Oper}
theorem D.cutTo{ty:TypeId}{x hi:Operand}{v c w:Value}(ho:o.op= .slice ty x none (some hi) none)(hx:evL E L x=some v)(hl:evL E L hi=some c)(hs:∃ a len cap,v= .slice a len cap)(hv:sliceA E ty v none (some c) none=some w):Does E L h n o (.val w h n):=fun t ht=>by obtain⟨a,len,cap,rfl⟩:=hs;simp only[opA,ho,evL_ok ht hx,evOpt,evL_ok ht hl,hv,val?]
theorem D.conv{s d:TypeId}{x:Operand}{i:TyI}{a v:Value}(ho:o.op= .convert s d x)(hi:E.ty.get s=some i)(hx:evL E L x=some a)(hv:convA E d a=some v):Does E L h n o (.val v h n):=fun t ht=>by simp only[opA,ho,hi,evL_ok ht hx,hv,val?]
theorem D.makeFunc{k:Nat}{fs cs:Array Operand}{a b:List Value}(ho:o.op= .makeFunc (.func k) fs cs)(ha:evLs E L fs.toList=some a)(hb:evLs E L cs.toList=some b):Does E L h n o (.val (.func (.func k) ⟨a⟩ ⟨b⟩) h n):=fun t ht=>by simp only[opA,ho,evLs_ok ht ha,evLs_ok ht hb]
end
section
variable {E:Env}{many:Nat}{all l:List Oper}{L:LT}{h h':T Blk}{n n':Nat}{Q:LT→T Blk→Nat→Prop}{o:Oper}{d:Tmp}{v:Value}
theorem OD.mv{x:Operand}(hk:OD E many all l ((d,v) :: L) h n Q)(ho:o.op= .move x:=by rfl)(hx:evL E L x=some v:=by rfl)(hw:WantL all L o.guard true:=by first|rfl|exact WantL.yes rfl rfl rfl)(hd:o.dst=some d:=by rfl)(hm:Nat.blt d many=true:=by rfl)(hb':BelT n L (opTmps o):=by repeat' (first|exact trivial|assumption|exact BelV.ptr (by omega)|exact BelV.sl (by omega)|exact BelV.fn1 (by omega)|exact BelV.fn2 (by omega) (by omega)|exact rfl|exact(show ∀ k,_≤k→BelV k _ from by assumption) _ (by omega)|refine And.intro (Exists.intro _ (And.intro rfl ?_)) ?_)):OD E many all (o :: l) L h n Q:=OD.val hw hb' (D.move ho hx) hd hm hk
theorem OD.asg{x:Operand}(hk:OD E many all l ((d,v) :: L) h n Q)(ho:o.op= .assign x:=by rfl)(hx:evL E L x=some v:=by rfl)(hw:WantL all L o.guard true:=by first|rfl|exact WantL.yes rfl rfl rfl)(hd:o.dst=some d:=by rfl)(hm:Nat.blt d many=true:=by rfl)(hb':BelT n L (opTmps o):=by repeat' (first|exact trivial|assumption|exact BelV.ptr (by omega)|exact BelV.sl (by omega)|exact BelV.fn1 (by omega)|exact BelV.fn2 (by omega) (by omega)|exact rfl|exact(show ∀ k,_≤k→BelV k _ from by assumption) _ (by omega)|refine And.intro (Exists.intro _ (And.intro rfl ?_)) ?_)):OD E many all (o :: l) L h n Q:=OD.val hw hb' (D.assign ho hx) hd hm hk
theorem OD.ps(hk:OD E many all l ((d,undefV) :: L) h n Q)(hw:WantL all L o.guard false:=by first|exact WantL.no rfl rfl rfl|exact WantL.un rfl rfl rfl)(hd:o.dst=some d:=by rfl)(hm:Nat.blt d many=true:=by rfl):OD E many all (o :: l) L h n Q:=OD.pass hw hd hm hk
theorem OD.pT{c x y:Operand}(hk:OD E many all l ((d,v) :: L) h n Q)(ho:o.op= .pick c x y:=by rfl)(hc:evL E L c=some (.bool true):=by rfl)(hx:evL E L x=some v:=by rfl)(hw:WantL all L o.guard true:=by first|rfl|exact WantL.yes rfl rfl rfl)(hd:o.dst=some d:=by rfl)(hm:Nat.blt d many=true:=by rfl)(hb':BelT n L (opTmps o):=by repeat' (first|exact trivial|assumption|exact BelV.ptr (by omega)|exact BelV.sl (by omega)|exact BelV.fn1 (by omega)|exact BelV.fn2 (by omega) (by omega)|exact rfl|exact(show ∀ k,_≤k→BelV k _ from by assumption) _ (by omega)|refine And.intro (Exists.intro _ (And.intro rfl ?_)) ?_)):OD E many all (o :: l) L h n Q:=OD.val hw hb' (D.pickT ho hc hx) hd hm hk
theorem OD.pF{c x y:Operand}(hk:OD E many all l ((d,v) :: L) h n Q)(ho:o.op= .pick c x y:=by rfl)(hc:evL E L c=some (.bool false):=by rfl)(hx:evL E L y=some v:=by rfl)(hw:WantL all L o.guard true:=by first|rfl|exact WantL.yes rfl rfl rfl)(hd:o.dst=some d:=by rfl)(hm:Nat.blt d many=true:=by rfl)(hb':BelT n L (opTmps o):=by repeat' (first|exact trivial|assumption|exact BelV.ptr (by omega)|exact BelV.sl (by omega)|exact BelV.fn1 (by omega)|exact BelV.fn2 (by omega) (by omega)|exact rfl|exact(show ∀ k,_≤k→BelV k _ from by assumption) _ (by omega)|refine And.intro (Exists.intro _ (And.intro rfl ?_)) ?_)):OD E many all (o :: l) L h n Q:=OD.val hw hb' (D.pickF ho hc hx) hd hm hk
theorem OD.un{op:UnOp}{ty:TypeId}{x:Operand}{a:Value}(hk:OD E many all l ((d,v) :: L) h n Q)(ho:o.op= .unOp op ty x:=by rfl)(hx:evL E L x=some a:=by rfl)(hb:unA op a=some v:=by rfl)(hw:WantL all L o.guard true:=by first|rfl|exact WantL.yes rfl rfl rfl)(hd:o.dst=some d:=by rfl)(hm:Nat.blt d many=true:=by rfl)(hb':BelT n L (opTmps o):=by repeat' (first|exact trivial|assumption|exact BelV.ptr (by omega)|exact BelV.sl (by omega)|exact BelV.fn1 (by omega)|exact BelV.fn2 (by omega) (by omega)|exact rfl|exact(show ∀ k,_≤k→BelV k _ from by assumption) _ (by omega)|refine And.intro (Exists.intro _ (And.intro rfl ?_)) ?_)):OD E many all (o :: l) L h n Q:=OD.val hw hb' (D.un ho hx hb) hd hm hk
theorem OD.ext{x:Operand}{k:Nat}{vs:Array Value}(hk:OD E many all l ((d,v) :: L) h n Q)(ho:o.op= .extract x k:=by rfl)(hx:evL E L x=some (.tuple vs):=by rfl)(hv:nth vs.toList k=some v:=by rfl)(hw:WantL all L o.guard true:=by first|rfl|exact WantL.yes rfl rfl rfl)(hd:o.dst=some d:=by rfl)(hm:Nat.blt d many=true:=by rfl)(hb':BelT n L (opTmps o):=by repeat' (first|exact trivial|assumption|exact BelV.ptr (by omega)|exact BelV.sl (by omega)|exact BelV.fn1 (by omega)|exact BelV.fn2 (by omega) (by omega)|exact rfl|exact(show ∀ k,_≤k→BelV k _ from by assumption) _ (by omega)|refine And.intro (Exists.intro _ (And.intro rfl ?_)) ?_)):OD E many all (o :: l) L h n Q:=OD.val hw hb' (D.extract ho hx hv) hd hm hk
theorem OD.ix{ty:TypeId}{x i:Operand}{a k:Value}(hv:idxA E ty a k=some v)(hk:OD E many all l ((d,v) :: L) h n Q)(ho:o.op= .indexAddr ty x i:=by rfl)(hx:evL E L x=some a:=by rfl)(hi:evL E L i=some k:=by rfl)(hw:WantL all L o.guard true:=by first|rfl|exact WantL.yes rfl rfl rfl)(hd:o.dst=some d:=by rfl)(hm:Nat.blt d many=true:=by rfl)(hb':BelT n L (opTmps o):=by repeat' (first|exact trivial|assumption|exact BelV.ptr (by omega)|exact BelV.sl (by omega)|exact BelV.fn1 (by omega)|exact BelV.fn2 (by omega) (by omega)|exact rfl|exact(show ∀ k,_≤k→BelV k _ from by assumption) _ (by omega)|refine And.intro (Exists.intro _ (And.intro rfl ?_)) ?_)):OD E many all (o :: l) L h n Q:=OD.val hw hb' (D.index ho hx hi hv) hd hm hk
theorem OD.ld{ty:TypeId}{x:Operand}{p:Value}(hv:loadA E h ty p=some v)(hk:OD E many all l ((d,v) :: L) h n Q)(ho:o.op= .load ty x:=by rfl)(hx:evL E L x=some p:=by rfl)(hw:WantL all L o.guard true:=by first|rfl|exact WantL.yes rfl rfl rfl)(hd:o.dst=some d:=by rfl)(hm:Nat.blt d many=true:=by rfl)(hb':BelT n L (opTmps o):=by repeat' (first|exact trivial|assumption|exact BelV.ptr (by omega)|exact BelV.sl (by omega)|exact BelV.fn1 (by omega)|exact BelV.fn2 (by omega) (by omega)|exact rfl|exact(show ∀ k,_≤k→BelV k _ from by assumption) _ (by omega)|refine And.intro (Exists.intro _ (And.intro rfl ?_)) ?_)):OD E many all (o :: l) L h n Q:=OD.val hw hb' (D.load ho hx hv) hd hm hk
theorem OD.st{ty:TypeId}{x y:Operand}{p w:Value}(hv:storeA E h ty p w=some h')(hk:OD E many all l L h' n Q)(ho:o.op= .store ty x y:=by rfl)(hx:evL E L x=some p:=by rfl)(hy:evL E L y=some w:=by rfl)(hw:WantL all L o.guard true:=by first|rfl|exact WantL.yes rfl rfl rfl)(hd:o.dst=none:=by rfl)(hb':BelT n L (opTmps o):=by repeat' (first|exact trivial|assumption|exact BelV.ptr (by omega)|exact BelV.sl (by omega)|exact BelV.fn1 (by omega)|exact BelV.fn2 (by omega) (by omega)|exact rfl|exact(show ∀ k,_≤k→BelV k _ from by assumption) _ (by omega)|refine And.intro (Exists.intro _ (And.intro rfl ?_)) ?_)):OD E many all (o :: l) L h n Q:=OD.skip hw hb' (D.store ho hx hy hv) hd hk
theorem OD.fd{s:TypeId}{x:Operand}{k b off f:Nat}(hf:fieldOff E s k=some f)(hk:OD E many all l ((d,.pointer (some ⟨b,off+f,none⟩)) :: L) h n Q)(ho:o.op= .fieldAddr s x k:=by rfl)(hx:evL E L x=some (.pointer (some ⟨b,off,none⟩)):=by rfl)(hw:WantL all L o.guard true:=by first|rfl|exact WantL.yes rfl rfl rfl)(hd:o.dst=some d:=by rfl)(hm:Nat.blt d many=true:=by rfl)(hb':BelT n L (opTmps o):=by repeat' (first|exact trivial|assumption|exact BelV.ptr (by omega)|exact BelV.sl (by omega)|exact BelV.fn1 (by omega)|exact BelV.fn2 (by omega) (by omega)|exact rfl|exact(show ∀ k,_≤k→BelV k _ from by assumption) _ (by omega)|refine And.intro (Exists.intro _ (And.intro rfl ?_)) ?_)):OD E many all (o :: l) L h n Q:=OD.val hw hb' (D.field ho hx hf) hd hm hk
theorem OD.bT{op:BinOp}{ty yt:TypeId}{x y:Operand}{a b:Value}{P:Prop}{i:Decidable P}(hk:OD E many all l ((d,.bool true) :: L) h n Q)(ho:o.op= .binOp op ty x y yt:=by rfl)(hx:evL E L x=some a:=by rfl)(hy:evL E L y=some b:=by rfl)(hb:binA E op ty (isConstO x||isConstO y) a b=some (.bool (@decide P i)):=by rfl)(hp:P:=by first|assumption|omega)(hw:WantL all L o.guard true:=by first|rfl|exact WantL.yes rfl rfl rfl)(hd:o.dst=some d:=by rfl)(hm:Nat.blt d many=true:=by rfl)(hb':BelT n L (opTmps o):=by repeat' (first|exact trivial|assumption|exact BelV.ptr (by omega)|exact BelV.sl (by omega)|exact BelV.fn1 (by omega)|exact BelV.fn2 (by omega) (by omega)|exact rfl|exact(show ∀ k,_≤k→BelV k _ from by assumption) _ (by omega)|refine And.intro (Exists.intro _ (And.intro rfl ?_)) ?_)):OD E many all (o :: l) L h n Q:=OD.val hw hb' (D.binT ho hx hy hb hp) hd hm hk
theorem OD.bF{op:BinOp}{ty yt:TypeId}{x y:Operand}{a b:Value}{P:Prop}{i:Decidable P}(hk:OD E many all l ((d,.bool false) :: L) h n Q)(ho:o.op= .binOp op ty x y yt:=by rfl)(hx:evL E L x=some a:=by rfl)(hy:evL E L y=some b:=by rfl)(hb:binA E op ty (isConstO x||isConstO y) a b=some (.bool (@decide P i)):=by rfl)(hp:¬ P:=by first|assumption|omega)(hw:WantL all L o.guard true:=by first|rfl|exact WantL.yes rfl rfl rfl)(hd:o.dst=some d:=by rfl)(hm:Nat.blt d many=true:=by rfl)(hb':BelT n L (opTmps o):=by repeat' (first|exact trivial|assumption|exact BelV.ptr (by omega)|exact BelV.sl (by omega)|exact BelV.fn1 (by omega)|exact BelV.fn2 (by omega) (by omega)|exact rfl|exact(show ∀ k,_≤k→BelV k _ from by assumption) _ (by omega)|refine And.intro (Exists.intro _ (And.intro rfl ?_)) ?_)):OD E many all (o :: l) L h n Q:=OD.val hw hb' (D.binF ho hx hy hb hp) hd hm hk
theorem OD.nT{ty yt:TypeId}{x y:Operand}{a b:Value}{P:Prop}{i:Decidable P}(hk:OD E many all l ((d,.bool true) :: L) h n Q)(ho:o.op= .binOp .neq ty x y yt:=by rfl)(hx:evL E L x=some a:=by rfl)(hy:evL E L y=some b:=by rfl)(hb:binA E .neq ty (isConstO x||isConstO y) a b=some (.bool (!@decide P i)):=by rfl)(hp:¬ P:=by first|assumption|omega)(hw:WantL all L o.guard true:=by first|rfl|exact WantL.yes rfl rfl rfl)(hd:o.dst=some d:=by rfl)(hm:Nat.blt d many=true:=by rfl)(hb':BelT n L (opTmps o):=by repeat' (first|exact trivial|assumption|exact BelV.ptr (by omega)|exact BelV.sl (by omega)|exact BelV.fn1 (by omega)|exact BelV.fn2 (by omega) (by omega)|exact rfl|exact(show ∀ k,_≤k→BelV k _ from by assumption) _ (by omega)|refine And.intro (Exists.intro _ (And.intro rfl ?_)) ?_)):OD E many all (o :: l) L h n Q:=OD.val hw hb' (D.neT ho hx hy hb hp) hd hm hk
theorem OD.nF{ty yt:TypeId}{x y:Operand}{a b:Value}{P:Prop}{i:Decidable P}(hk:OD E many all l ((d,.bool false) :: L) h n Q)(ho:o.op= .binOp .neq ty x y yt:=by rfl)(hx:evL E L x=some a:=by rfl)(hy:evL E L y=some b:=by rfl)(hb:binA E .neq ty (isConstO x||isConstO y) a b=some (.bool (!@decide P i)):=by rfl)(hp:P:=by first|assumption|omega)(hw:WantL all L o.guard true:=by first|rfl|exact WantL.yes rfl rfl rfl)(hd:o.dst=some d:=by rfl)(hm:Nat.blt d many=true:=by rfl)(hb':BelT n L (opTmps o):=by repeat' (first|exact trivial|assumption|exact BelV.ptr (by omega)|exact BelV.sl (by omega)|exact BelV.fn1 (by omega)|exact BelV.fn2 (by omega) (by omega)|exact rfl|exact(show ∀ k,_≤k→BelV k _ from by assumption) _ (by omega)|refine And.intro (Exists.intro _ (And.intro rfl ?_)) ?_)):OD E many all (o :: l) L h n Q:=OD.val hw hb' (D.neF ho hx hy hb hp) hd hm hk
theorem OD.bv{op:BinOp}{ty yt:TypeId}{x y:Operand}{a b:Value}(hb:binA E op ty (isConstO x||isConstO y) a b=some v)(hk:OD E many all l ((d,v) :: L) h n Q)(ho:o.op= .binOp op ty x y yt:=by rfl)(hx:evL E L x=some a:=by rfl)(hy:evL E L y=some b:=by rfl)(hw:WantL all L o.guard true:=by first|rfl|exact WantL.yes rfl rfl rfl)(hd:o.dst=some d:=by rfl)(hm:Nat.blt d many=true:=by rfl)(hb':BelT n L (opTmps o):=by repeat' (first|exact trivial|assumption|exact BelV.ptr (by omega)|exact BelV.sl (by omega)|exact BelV.fn1 (by omega)|exact BelV.fn2 (by omega) (by omega)|exact rfl|exact(show ∀ k,_≤k→BelV k _ from by assumption) _ (by omega)|refine And.intro (Exists.intro _ (And.intro rfl ?_)) ?_)):OD E many all (o :: l) L h n Q:=OD.val hw hb' (D.bin ho hx hy hb) hd hm hk
theorem OD.sb{ty yt:TypeId}{x y:Operand}{a b:Int}(hk:OD E many all l ((d,.int .i64 (a-b)) :: L) h n Q)(ho:o.op= .binOp .sub ty x y yt:=by rfl)(hx:evL E L x=some (.int .i64 a):=by rfl)(hy:evL E L y=some (.int .i64 b):=by rfl)(hr: -9223372036854775808≤a-b∧a-b≤9223372036854775807:=by omega)(hw:WantL all L o.guard true:=by first|rfl|exact WantL.yes rfl rfl rfl)(hd:o.dst=some d:=by rfl)(hm:Nat.blt d many=true:=by rfl)(hb':BelT n L (opTmps o):=by repeat' (first|exact trivial|assumption|exact BelV.ptr (by omega)|exact BelV.sl (by omega)|exact BelV.fn1 (by omega)|exact BelV.fn2 (by omega) (by omega)|exact rfl|exact(show ∀ k,_≤k→BelV k _ from by assumption) _ (by omega)|refine And.intro (Exists.intro _ (And.intro rfl ?_)) ?_)):OD E many all (o :: l) L h n Q:=OD.val hw hb' (D.sub ho hx hy hr) hd hm hk
theorem OD.bi{c:Call}{b:Builtin}{args:List Value}(hr:builtinA E b c.argTypes.toList args h n= .val v h' n')(hk:OD E many all l ((d,v) :: L) h' n' Q)(ho:o.op= .call c:=by rfl)(hc:c.callee= .builtin b:=by rfl)(ha:evLs E L c.args.toList=some args:=by rfl)(hw:WantL all L o.guard true:=by first|rfl|exact WantL.yes rfl rfl rfl)(hd:o.dst=some d:=by rfl)(hm:Nat.blt d many=true:=by rfl)(hb':BelT n L (opTmps o):=by repeat' (first|exact trivial|assumption|exact BelV.ptr (by omega)|exact BelV.sl (by omega)|exact BelV.fn1 (by omega)|exact BelV.fn2 (by omega) (by omega)|exact rfl|exact(show ∀ k,_≤k→BelV k _ from by assumption) _ (by omega)|refine And.intro (Exists.intro _ (And.intro rfl ?_)) ?_)):OD E many all (o :: l) L h n Q:=OD.val hw hb' (D.builtinV ho hc ha hr) hd hm hk
theorem OD.cf{c:Call}{f:FuncId}{fn:Func}{args:List Value}(hf:E.fn.get f=some fn)(hcl:Cl E f args h n (.ret v h' n'))(hk:OD E many all l ((d,v) :: L) h' n' Q)(ho:o.op= .call c:=by rfl)(hc:c.callee= .value (.func f):=by rfl)(ha:evLs E L c.args.toList=some args:=by rfl)(hw:WantL all L o.guard true:=by first|rfl|exact WantL.yes rfl rfl rfl)(hd:o.dst=some d:=by rfl)(hm:Nat.blt d many=true:=by rfl)(hb':BelT n L (opTmps o):=by repeat' (first|exact trivial|assumption|exact BelV.ptr (by omega)|exact BelV.sl (by omega)|exact BelV.fn1 (by omega)|exact BelV.fn2 (by omega) (by omega)|exact rfl|exact(show ∀ k,_≤k→BelV k _ from by assumption) _ (by omega)|refine And.intro (Exists.intro _ (And.intro rfl ?_)) ?_)):OD E many all (o :: l) L h n Q:=OD.call hw hb' (D.callF ho hc ha hf) hcl hd hm hk
theorem OD.l1{ty:TypeId}{i:TyI}(hty:E.ty.get ty=some i){x:Operand}{b k:Nat}{cs:List Value}(hk:OD E many all l ((d,v) :: L) h n Q)(ho:o.op= .load ty x:=by rfl)(hx:evL E L x=some (.pointer (some ⟨b,k,none⟩)):=by rfl)(hc:cellsOf h b=some cs:=by first|exact cells_of (by repeat (first|exact T.gsE _ _ _|assumption|refine(T.gnE _ _ (by omega)).trans ?_))|assumption)(hv:cs[k]? =some v:=by rfl)(hi:isAgg i.d=false:=by rfl)(hw:WantL all L o.guard true:=by first|rfl|exact WantL.yes rfl rfl rfl)(hd:o.dst=some d:=by rfl)(hm:Nat.blt d many=true:=by rfl)(hb':BelT n L (opTmps o):=by repeat' (first|exact trivial|assumption|exact BelV.ptr (by omega)|exact BelV.sl (by omega)|exact BelV.fn1 (by omega)|exact BelV.fn2 (by omega) (by omega)|exact rfl|exact(show ∀ k,_≤k→BelV k _ from by assumption) _ (by omega)|refine And.intro (Exists.intro _ (And.intro rfl ?_)) ?_)):OD E many all (o :: l) L h n Q:=OD.val hw hb' (D.load ho hx (load1 hty hi hc hv)) hd hm hk
end
inductive Evt where
 | pure
 | pass
 | rd (ty:TypeId) (p v:Value)
 | loud (h0 h1:T Blk)
def EvtOK(E:Env)(all:List Oper)(i:Nat)(x:Ent):Evt→Prop
 | .pure=>True
 | .pass=>x.did=false
 | .rd ty p v=>x.did=true∧x.v=v∧∃ o,nth all i=some o∧∀ h,loadA E h ty p=some v→opA E x.t h 0 o= .val v h 0
 | .loud h0 h1=>x.h0=h0∧x.h1=h1
def EvtsOK(E:Env)(all:List Oper)(acc:List Ent)(evs:List Evt):Prop:=acc.length=evs.length∧∀ i e,nth evs i=some e→∃ x,nth acc i=some x∧EvtOK E all i x e
theorem EvtsOK.add{E:Env}{all:List Oper}{acc:List Ent}{evs:List Evt}(h:EvtsOK E all acc evs){x:Ent}{e:Evt}(he:EvtOK E all acc.length x e):EvtsOK E all (acc ++ [x]) (evs ++ [e]):=by
 refine⟨by simp[h.1],fun i e' hi=>?_⟩;rw[nth_eq] at hi;rcases Nat.lt_or_ge i evs.length with h1|h1
 ·rw[List.getElem?_append_left h1] at hi;obtain⟨x',h2,h3⟩:=h.2 i e' (by rw[nth_eq];exact hi);exact⟨x',nth_keep' h2,h3⟩
 ·rw[List.getElem?_append_right h1] at hi;have h2:i-evs.length=0:=by
   rcases Nat.eq_zero_or_pos (i-evs.length) with h3|h3
   ·exact h3
   ·rw[List.getElem?_eq_none_iff.2 (by simp;omega)] at hi;cases hi
  rw[h2] at hi;cases hi;have h3:i=acc.length:=by have:=h.1;omega
  subst h3;exact⟨x,by rw[nth_eq,List.getElem?_append_right (nlR _)];simp,he⟩
where
 nth_keep' {acc:List Ent} {k:Nat} {x e:Ent} (h:nth acc k=some x):nth (acc ++ [e]) k=some x:=by rw[nth_eq] at h ⊢;rw[List.getElem?_append_left (gsI h).1];exact h
theorem EvtsOK.radd{E:Env}{all:List Oper}{acc:List Ent}{evs:List Evt}(h:EvtsOK E all acc evs.reverse){x:Ent}{e:Evt}(he:EvtOK E all acc.length x e):EvtsOK E all (acc ++ [x]) (e :: evs).reverse:=by rw[List.reverse_cons];exact h.add he
def FlOK(E:Env)(evs:List Evt):List (Nat×Nat)→Prop
 | []=>True
 | (r,l) :: fl=>(match nth evs r,nth evs l with
   | some .pass,some _=>True
   | some (.rd ty p v),some (.loud h0 h1)=>loadA E (bif Nat.blt r l then h1 else h0) ty p=some v∧sameV 8 v v=true
   | _,some .pass=>False
   | _,_=>False)∧FlOK E evs fl
theorem FlOK.nil{E:Env}{evs:List Evt}:FlOK E evs []:=trivial
theorem FlOK.cons{E:Env}{evs:List Evt}{r l:Nat}{fl:List (Nat×Nat)}{ty:TypeId}{p v:Value}{h0 h1:T Blk}(a1:nth evs r=some (.rd ty p v))(a2:nth evs l=some (.loud h0 h1))(a3:loadA E (bif Nat.blt r l then h1 else h0) ty p=some v)(a4:sameV 8 v v=true)(a5:FlOK E evs fl):FlOK E evs ((r,l) :: fl):=by simp only[FlOK,a1,a2];exact⟨⟨a3,a4⟩,a5⟩
theorem FlOK.pass{E:Env}{evs:List Evt}{r l:Nat}{fl:List (Nat×Nat)}{e:Evt}(a1:nth evs r=some .pass)(a2:nth evs l=some e)(a5:FlOK E evs fl):FlOK E evs ((r,l) :: fl):=by simp only[FlOK,a1,a2];exact⟨trivial,a5⟩
theorem FlOK.ok{E:Env}{all:List Oper}{acc:List Ent}{evs:List Evt}(hE:EvtsOK E all acc evs)(hall:∀ i e,nth evs i=some e→∃ o,nth all i=some o):∀ {fl:List (Nat×Nat)},FlOK E evs fl→floatOK E all acc fl=true
 | [],_=>rfl
 | (r,l) :: fl,h=>by
   obtain⟨h1,h2⟩:=h;have ih:=FlOK.ok hE hall h2;split at h1
   ·rename_i b q1 q2;obtain⟨x,x1,x2⟩:=hE.2 _ _ q1;obtain⟨y,y1,y2⟩:=hE.2 _ _ q2;obtain⟨o,ho⟩:=hall _ _ q1;have x2:x.did=false:=x2;simp only[floatOK,ho,x1,y1,ih,readsSame,x2,cond_false,Bool.and_self]
   ·rename_i ty p v b0 b1 q1 q2;obtain⟨x,x1,x2,x3,o,x4,x5⟩:=hE.2 _ _ q1;obtain⟨y,y1,y2,y3⟩:=hE.2 _ _ q2;have h3:=x5 _ h1.1;have h4:=h1.2;simp only[floatOK,x4,x1,y1,ih,y2,y3,readsSame,x2,cond_true,h3,x3,h4,Bool.and_self]
   ·exact h1.elim
   ·exact h1.elim
def OG(E:Env)(many:Nat)(all l:List Oper)(evs:List Evt)(L:LT)(h:T Blk)(n:Nat)(Q:List Evt→LT→T Blk→Nat→Prop):Prop :=
 ∀ t acc,Has t L→EvtsOK E all acc evs.reverse→(∃ pre,all=pre ++ l∧pre.length=evs.length)→OpsDW E many all l acc t h n (fun log t' h' n'=>∃ L' evs',Has t' L'∧EvtsOK E all log evs'∧evs'.length=all.length∧Q evs' L' h' n')
theorem all_at{all pre l:List Oper}{o:Oper}{evs:List Evt}(h:all=pre ++ o :: l)(hp:pre.length=evs.length):nth all evs.length=some o:=by rw[h,nth_eq,← hp,List.getElem?_append_right (nlR _)];simp
section
variable {E:Env}{many:Nat}{all l:List Oper}{evs:List Evt}{L:LT}{h h':T Blk}{n n':Nat}{Q:List Evt→LT→T Blk→Nat→Prop}{o:Oper}
theorem OG.nil(hq:Q evs.reverse L h n):OG E many all [] evs L h n Q:=fun _ _ ht he hp=>⟨L,evs.reverse,ht,he,by obtain⟨pre,h1,h2⟩:=hp;rw[List.length_reverse,h1,← h2];simp,hq⟩
theorem pre_next{all pre l:List Oper}{o:Oper}{evs:List Evt}{e:Evt}(h:all=pre ++ o :: l)(hp:pre.length=evs.length):∃ pre',all=pre' ++ l∧pre'.length=(e :: evs).length:=⟨pre ++ [o],by rw[h];simp,by simp[hp]⟩
theorem OG.val{v:Value}{d:Tmp}(hw:WantL all L o.guard true)(hb:BelT n L (opTmps o))(ho:Does E L h n o (.val v h' n'))(hd:o.dst=some d)(hm:Nat.blt d many=true)(hk:OG E many all l (.pure :: evs) ((d,v) :: L) h' n' Q):OG E many all (o :: l) evs L h n Q:=by rintro t acc ht he ⟨pre,h1,h2⟩;exact OT.val ht hw hb ho hd hm (hk _ _ (ht.put d v) (he.radd (e:= .pure) trivial) (pre_next h1 h2))
theorem OG.valR{v p:Value}{ty:TypeId}{x:Operand}{d:Tmp}(hw:WantL all L o.guard true)(hb:BelT n L (opTmps o))(ho:o.op= .load ty x)(hx:evL E L x=some p)(hv:loadA E h ty p=some v)(hd:o.dst=some d)(hm:Nat.blt d many=true)(hk:OG E many all l (.rd ty p v :: evs) ((d,v) :: L) h n Q):OG E many all (o :: l) evs L h n Q:=by
 rintro t acc ht he ⟨pre,h1,h2⟩;refine OT.val ht hw hb (D.load ho hx hv) hd hm (hk _ _ (ht.put d v) (he.radd (e:= .rd ty p v) ⟨rfl,rfl,o,?_,fun h2 hv2=>?_⟩) (pre_next h1 h2))
 ·rw[he.1,List.length_reverse];exact all_at h1 h2
 ·exact D.load ho hx hv2 t ht
theorem OG.valL{v:Value}{d:Tmp}(hw:WantL all L o.guard true)(hb:BelT n L (opTmps o))(ho:Does E L h n o (.val v h' n'))(hd:o.dst=some d)(hm:Nat.blt d many=true)(hk:OG E many all l (.loud h h' :: evs) ((d,v) :: L) h' n' Q):OG E many all (o :: l) evs L h n Q:=by rintro t acc ht he ⟨pre,h1,h2⟩;exact OT.val ht hw hb ho hd hm (hk _ _ (ht.put d v) (he.radd (e:= .loud h h') ⟨rfl,rfl⟩) (pre_next h1 h2))
theorem OG.skip(hw:WantL all L o.guard true)(hb:BelT n L (opTmps o))(ho:Does E L h n o (.skip h' n'))(hd:o.dst=none)(hk:OG E many all l (.loud h h' :: evs) L h' n' Q):OG E many all (o :: l) evs L h n Q:=by rintro t acc ht he ⟨pre,h1,h2⟩;exact OT.skip ht hw hb ho hd (hk _ _ ht (he.radd (e:= .loud h h') ⟨rfl,rfl⟩) (pre_next h1 h2))
theorem OG.call{f:FuncId}{args:List Value}{v:Value}{d:Tmp}(hw:WantL all L o.guard true)(hb:BelT n L (opTmps o))(ho:Does E L h n o (.enter f args))(hc:Cl E f args h n (.ret v h' n'))(hd:o.dst=some d)(hm:Nat.blt d many=true)
 (hk:OG E many all l (.loud h h' :: evs) ((d,v) :: L) h' n' Q):OG E many all (o :: l) evs L h n Q:=by
 rintro t acc ht he ⟨pre,h1,h2⟩;exact OT.call ht hw hb ho hc hd hm (hk _ _ (ht.put d v) (he.radd (e:= .loud h h') ⟨rfl,rfl⟩) (pre_next h1 h2))
theorem OG.pass{d:Tmp}(hw:WantL all L o.guard false)(hd:o.dst=some d)(hm:Nat.blt d many=true)(hk:OG E many all l (.pass :: evs) ((d,undefV) :: L) h n Q):OG E many all (o :: l) evs L h n Q:=by rintro t acc ht he ⟨pre,h1,h2⟩;exact OT.pass ht hw hd hm (hk _ _ (ht.put d undefV) (he.radd (e:= .pass) rfl) (pre_next h1 h2))
end
theorem OpsDW.mono{E:Env}{many:Nat}{all:List Oper}:∀ {l:List Oper}{acc:List Ent}{t:T Value}{h:T Blk}{n:Nat}{Q Q':List Ent→T Value→T Blk→Nat→Prop},(∀ a t h n,Q a t h n→Q' a t h n)→OpsDW E many all l acc t h n Q→OpsDW E many all l acc t h n Q'
 | [],acc,t,h,n,Q,Q',hq,hx=>hq _ _ _ _ hx
 | o :: l,acc,t,h,n,Q,Q',hq,hx=>by
   simp only[OpsDW] at hx ⊢;split
   ·rename_i hw;rw[hw] at hx;refine⟨hx.1,?_⟩;have hx:=hx.2;split
    ·rename_i ho;rw[ho] at hx;simp only at hx;split
     ·rename_i hp;rw[hp] at hx;exact OpsDW.mono hq hx
     ·rename_i hp;rw[hp] at hx;exact hx
    ·rename_i ho;rw[ho] at hx;simp only at hx;split
     ·rename_i hp;rw[hp] at hx;exact OpsDW.mono hq hx
     ·rename_i hp;rw[hp] at hx;exact hx
    ·rename_i ho;rw[ho] at hx;simp only at hx;obtain⟨v,h1,n1,h2,hx⟩:=hx;refine⟨v,h1,n1,h2,?_⟩;split
     ·rename_i hp;rw[hp] at hx;exact OpsDW.mono hq hx
     ·rename_i hp;rw[hp] at hx;exact hx
    ·rename_i h1 h2 h3;split at hx
     ·rename_i e;exact(h1 _ _ _ e).elim
     ·rename_i e;exact(h2 _ _ e).elim
     ·rename_i e;exact(h3 _ _ e).elim
     ·exact hx
   ·rename_i hw;rw[hw] at hx;simp only at hx;split
    ·rename_i hp;rw[hp] at hx;exact OpsDW.mono hq hx
    ·rename_i hp;rw[hp] at hx;exact hx
   ·rename_i hw;rw[hw] at hx;exact hx
theorem WL.regG{E:Env}{many:Nat}{L:LT}{h:T Blk}{n:Nat}{Q:Ex→LT→T Blk→Nat→Prop}{id:Nat}{ops:Array Oper}(fl:List (Nat×Nat))(hR:regOK ops.toList=true)(hF:regFl ops.toList=fl)
 (hw:OG E many ops.toList ops.toList [] L h n (fun evs L' h' n'=>FlOK E evs fl∧Q .normal L' h' n')):WL E many (.region id ops true) L h n Q:=by
 subst hF;intro t ht;refine WP.regD hR (OpsDW.mono ?_ (hw t [] ht ⟨rfl,fun i e hi=>by simp[nth] at hi⟩ ⟨[],rfl,rfl⟩));rintro log t' h' n' ⟨L',evs',h1,h2,h3,h4,h5⟩;refine⟨h4.ok h2 fun i e hi=>?_,L',h1,h5⟩;rw[nth_eq] at hi;have:=(gsI hi).1;exact⟨_,by rw[nth_eq];exact ggE (by omega)⟩
section
variable {E:Env}{many:Nat}{all l:List Oper}{evs:List Evt}{L:LT}{h h':T Blk}{n n':Nat}{Q:List Evt→LT→T Blk→Nat→Prop}{o:Oper}{d:Tmp}{v:Value}
theorem OG.mv{x:Operand}(hk:OG E many all l (.pure :: evs) ((d,v) :: L) h n Q)(ho:o.op= .move x:=by rfl)(hx:evL E L x=some v:=by rfl)(hw:WantL all L o.guard true:=by first|rfl|exact WantL.yes rfl rfl rfl)(hd:o.dst=some d:=by rfl)(hm:Nat.blt d many=true:=by rfl)(hb':BelT n L (opTmps o):=by repeat' (first|exact trivial|assumption|exact BelV.ptr (by omega)|exact BelV.sl (by omega)|exact BelV.fn1 (by omega)|exact BelV.fn2 (by omega) (by omega)|exact rfl|exact(show ∀ k,_≤k→BelV k _ from by assumption) _ (by omega)|refine And.intro (Exists.intro _ (And.intro rfl ?_)) ?_)):OG E many all (o :: l) evs L h n Q:=OG.val hw hb' (D.move ho hx) hd hm hk
theorem OG.asg{x:Operand}(hk:OG E many all l (.pure :: evs) ((d,v) :: L) h n Q)(ho:o.op= .assign x:=by rfl)(hx:evL E L x=some v:=by rfl)(hw:WantL all L o.guard true:=by first|rfl|exact WantL.yes rfl rfl rfl)(hd:o.dst=some d:=by rfl)(hm:Nat.blt d many=true:=by rfl)(hb':BelT n L (opTmps o):=by repeat' (first|exact trivial|assumption|exact BelV.ptr (by omega)|exact BelV.sl (by omega)|exact BelV.fn1 (by omega)|exact BelV.fn2 (by omega) (by omega)|exact rfl|exact(show ∀ k,_≤k→BelV k _ from by assumption) _ (by omega)|refine And.intro (Exists.intro _ (And.intro rfl ?_)) ?_)):OG E many all (o :: l) evs L h n Q:=OG.val hw hb' (D.assign ho hx) hd hm hk
theorem OG.ps(hk:OG E many all l (.pass :: evs) ((d,undefV) :: L) h n Q)(hw:WantL all L o.guard false:=by first|exact WantL.no rfl rfl rfl|exact WantL.un rfl rfl rfl)(hd:o.dst=some d:=by rfl)(hm:Nat.blt d many=true:=by rfl):OG E many all (o :: l) evs L h n Q:=OG.pass hw hd hm hk
theorem OG.pT{c x y:Operand}(hk:OG E many all l (.pure :: evs) ((d,v) :: L) h n Q)(ho:o.op= .pick c x y:=by rfl)(hc:evL E L c=some (.bool true):=by rfl)(hx:evL E L x=some v:=by rfl)(hw:WantL all L o.guard true:=by first|rfl|exact WantL.yes rfl rfl rfl)(hd:o.dst=some d:=by rfl)(hm:Nat.blt d many=true:=by rfl)(hb':BelT n L (opTmps o):=by repeat' (first|exact trivial|assumption|exact BelV.ptr (by omega)|exact BelV.sl (by omega)|exact BelV.fn1 (by omega)|exact BelV.fn2 (by omega) (by omega)|exact rfl|exact(show ∀ k,_≤k→BelV k _ from by assumption) _ (by omega)|refine And.intro (Exists.intro _ (And.intro rfl ?_)) ?_)):OG E many all (o :: l) evs L h n Q:=OG.val hw hb' (D.pickT ho hc hx) hd hm hk
theorem OG.pF{c x y:Operand}(hk:OG E many all l (.pure :: evs) ((d,v) :: L) h n Q)(ho:o.op= .pick c x y:=by rfl)(hc:evL E L c=some (.bool false):=by rfl)(hx:evL E L y=some v:=by rfl)(hw:WantL all L o.guard true:=by first|rfl|exact WantL.yes rfl rfl rfl)(hd:o.dst=some d:=by rfl)(hm:Nat.blt d many=true:=by rfl)(hb':BelT n L (opTmps o):=by repeat' (first|exact trivial|assumption|exact BelV.ptr (by omega)|exact BelV.sl (by omega)|exact BelV.fn1 (by omega)|exact BelV.fn2 (by omega) (by omega)|exact rfl|exact(show ∀ k,_≤k→BelV k _ from by assumption) _ (by omega)|refine And.intro (Exists.intro _ (And.intro rfl ?_)) ?_)):OG E many all (o :: l) evs L h n Q:=OG.val hw hb' (D.pickF ho hc hx) hd hm hk
theorem OG.ix{ty:TypeId}{x i:Operand}{a k:Value}(hv:idxA E ty a k=some v)(hk:OG E many all l (.pure :: evs) ((d,v) :: L) h n Q)(ho:o.op= .indexAddr ty x i:=by rfl)(hx:evL E L x=some a:=by rfl)(hi:evL E L i=some k:=by rfl)(hw:WantL all L o.guard true:=by first|rfl|exact WantL.yes rfl rfl rfl)(hd:o.dst=some d:=by rfl)(hm:Nat.blt d many=true:=by rfl)(hb':BelT n L (opTmps o):=by repeat' (first|exact trivial|assumption|exact BelV.ptr (by omega)|exact BelV.sl (by omega)|exact BelV.fn1 (by omega)|exact BelV.fn2 (by omega) (by omega)|exact rfl|exact(show ∀ k,_≤k→BelV k _ from by assumption) _ (by omega)|refine And.intro (Exists.intro _ (And.intro rfl ?_)) ?_)):OG E many all (o :: l) evs L h n Q:=OG.val hw hb' (D.index ho hx hi hv) hd hm hk
theorem OG.ld{ty:TypeId}{x:Operand}{p:Value}(hv:loadA E h ty p=some v)(hk:OG E many all l (.rd ty p v :: evs) ((d,v) :: L) h n Q)(ho:o.op= .load ty x:=by rfl)(hx:evL E L x=some p:=by rfl)(hw:WantL all L o.guard true:=by first|rfl|exact WantL.yes rfl rfl rfl)(hd:o.dst=some d:=by rfl)(hm:Nat.blt d many=true:=by rfl)(hb':BelT n L (opTmps o):=by repeat' (first|exact trivial|assumption|exact BelV.ptr (by omega)|exact BelV.sl (by omega)|exact BelV.fn1 (by omega)|exact BelV.fn2 (by omega) (by omega)|exact rfl|exact(show ∀ k,_≤k→BelV k _ from by assumption) _ (by omega)|refine And.intro (Exists.intro _ (And.intro rfl ?_)) ?_)):OG E many all (o :: l) evs L h n Q:=OG.valR hw hb' ho hx hv hd hm hk
theorem OG.st{ty:TypeId}{x y:Operand}{p w:Value}(hv:storeA E h ty p w=some h')(hk:OG E many all l (.loud h h' :: evs) L h' n Q)(ho:o.op= .store ty x y:=by rfl)(hx:evL E L x=some p:=by rfl)(hy:evL E L y=some w:=by rfl)(hw:WantL all L o.guard true:=by first|rfl|exact WantL.yes rfl rfl rfl)(hd:o.dst=none:=by rfl)(hb':BelT n L (opTmps o):=by repeat' (first|exact trivial|assumption|exact BelV.ptr (by omega)|exact BelV.sl (by omega)|exact BelV.fn1 (by omega)|exact BelV.fn2 (by omega) (by omega)|exact rfl|exact(show ∀ k,_≤k→BelV k _ from by assumption) _ (by omega)|refine And.intro (Exists.intro _ (And.intro rfl ?_)) ?_)):OG E many all (o :: l) evs L h n Q:=OG.skip hw hb' (D.store ho hx hy hv) hd hk
theorem OG.fd{s:TypeId}{x:Operand}{k b off f:Nat}(hf:fieldOff E s k=some f)(hk:OG E many all l (.pure :: evs) ((d,.pointer (some ⟨b,off+f,none⟩)) :: L) h n Q)(ho:o.op= .fieldAddr s x k:=by rfl)(hx:evL E L x=some (.pointer (some ⟨b,off,none⟩)):=by rfl)(hw:WantL all L o.guard true:=by first|rfl|exact WantL.yes rfl rfl rfl)(hd:o.dst=some d:=by rfl)(hm:Nat.blt d many=true:=by rfl)(hb':BelT n L (opTmps o):=by repeat' (first|exact trivial|assumption|exact BelV.ptr (by omega)|exact BelV.sl (by omega)|exact BelV.fn1 (by omega)|exact BelV.fn2 (by omega) (by omega)|exact rfl|exact(show ∀ k,_≤k→BelV k _ from by assumption) _ (by omega)|refine And.intro (Exists.intro _ (And.intro rfl ?_)) ?_)):OG E many all (o :: l) evs L h n Q:=OG.val hw hb' (D.field ho hx hf) hd hm hk
theorem OG.nT{ty yt:TypeId}{x y:Operand}{a b:Value}{P:Prop}{i:Decidable P}(hk:OG E many all l (.pure :: evs) ((d,.bool true) :: L) h n Q)(ho:o.op= .binOp .neq ty x y yt:=by rfl)(hx:evL E L x=some a:=by rfl)(hy:evL E L y=some b:=by rfl)(hb:binA E .neq ty (isConstO x||isConstO y) a b=some (.bool (!@decide P i)):=by rfl)(hp:¬ P:=by first|assumption|omega)(hw:WantL all L o.guard true:=by first|rfl|exact WantL.yes rfl rfl rfl)(hd:o.dst=some d:=by rfl)(hm:Nat.blt d many=true:=by rfl)(hb':BelT n L (opTmps o):=by repeat' (first|exact trivial|assumption|exact BelV.ptr (by omega)|exact BelV.sl (by omega)|exact BelV.fn1 (by omega)|exact BelV.fn2 (by omega) (by omega)|exact rfl|exact(show ∀ k,_≤k→BelV k _ from by assumption) _ (by omega)|refine And.intro (Exists.intro _ (And.intro rfl ?_)) ?_)):OG E many all (o :: l) evs L h n Q:=OG.val hw hb' (D.neT ho hx hy hb hp) hd hm hk
theorem OG.nF{ty yt:TypeId}{x y:Operand}{a b:Value}{P:Prop}{i:Decidable P}(hk:OG E many all l (.pure :: evs) ((d,.bool false) :: L) h n Q)(ho:o.op= .binOp .neq ty x y yt:=by rfl)(hx:evL E L x=some a:=by rfl)(hy:evL E L y=some b:=by rfl)(hb:binA E .neq ty (isConstO x||isConstO y) a b=some (.bool (!@decide P i)):=by rfl)(hp:P:=by first|assumption|omega)(hw:WantL all L o.guard true:=by first|rfl|exact WantL.yes rfl rfl rfl)(hd:o.dst=some d:=by rfl)(hm:Nat.blt d many=true:=by rfl)(hb':BelT n L (opTmps o):=by repeat' (first|exact trivial|assumption|exact BelV.ptr (by omega)|exact BelV.sl (by omega)|exact BelV.fn1 (by omega)|exact BelV.fn2 (by omega) (by omega)|exact rfl|exact(show ∀ k,_≤k→BelV k _ from by assumption) _ (by omega)|refine And.intro (Exists.intro _ (And.intro rfl ?_)) ?_)):OG E many all (o :: l) evs L h n Q:=OG.val hw hb' (D.neF ho hx hy hb hp) hd hm hk
theorem OG.bs{ty:TypeId}{len:Nat}{ps:Array (Nat×Operand)}{q:List (Nat×Value)}{cs:List Value}(hv:buildSliceA E ty len q=some cs)(hk:OG E many all l (.pure :: evs) ((d,.slice (some ⟨n,0,none⟩) len len) :: L) (h.upd (some (.cells cs)) n) (n+1) Q)(ho:o.op= .buildSlice ty len ps:=by rfl)(hp:evPs E L ps.toList=some q:=by rfl)(hw:WantL all L o.guard true:=by first|rfl|exact WantL.yes rfl rfl rfl)(hd:o.dst=some d:=by rfl)(hm:Nat.blt d many=true:=by rfl)(hb':BelT n L (opTmps o):=by repeat' (first|exact trivial|assumption|exact BelV.ptr (by omega)|exact BelV.sl (by omega)|exact BelV.fn1 (by omega)|exact BelV.fn2 (by omega) (by omega)|exact rfl|exact(show ∀ k,_≤k→BelV k _ from by assumption) _ (by omega)|refine And.intro (Exists.intro _ (And.intro rfl ?_)) ?_)):OG E many all (o :: l) evs L h n Q:=OG.val hw hb' (D.buildSlice ho hp hv) hd hm hk
theorem OG.bd{ty:TypeId}{ps:Array (Nat×Operand)}{q:List (Nat×Value)}(hv:buildA E ty q=some v)(hk:OG E many all l (.pure :: evs) ((d,v) :: L) h n Q)(ho:o.op= .build ty ps:=by rfl)(hp:evPs E L ps.toList=some q:=by rfl)(hw:WantL all L o.guard true:=by first|rfl|exact WantL.yes rfl rfl rfl)(hd:o.dst=some d:=by rfl)(hm:Nat.blt d many=true:=by rfl)(hb':BelT n L (opTmps o):=by repeat' (first|exact trivial|assumption|exact BelV.ptr (by omega)|exact BelV.sl (by omega)|exact BelV.fn1 (by omega)|exact BelV.fn2 (by omega) (by omega)|exact rfl|exact(show ∀ k,_≤k→BelV k _ from by assumption) _ (by omega)|refine And.intro (Exists.intro _ (And.intro rfl ?_)) ?_)):OG E many all (o :: l) evs L h n Q:=OG.val hw hb' (D.build ho hp hv) hd hm hk
theorem OG.bi{c:Call}{b:Builtin}{args:List Value}(hr:builtinA E b c.argTypes.toList args h n= .val v h' n')(hk:OG E many all l (.loud h h' :: evs) ((d,v) :: L) h' n' Q)(ho:o.op= .call c:=by rfl)(hc:c.callee= .builtin b:=by rfl)(ha:evLs E L c.args.toList=some args:=by rfl)(hw:WantL all L o.guard true:=by first|rfl|exact WantL.yes rfl rfl rfl)(hd:o.dst=some d:=by rfl)(hm:Nat.blt d many=true:=by rfl)(hb':BelT n L (opTmps o):=by repeat' (first|exact trivial|assumption|exact BelV.ptr (by omega)|exact BelV.sl (by omega)|exact BelV.fn1 (by omega)|exact BelV.fn2 (by omega) (by omega)|exact rfl|exact(show ∀ k,_≤k→BelV k _ from by assumption) _ (by omega)|refine And.intro (Exists.intro _ (And.intro rfl ?_)) ?_)):OG E many all (o :: l) evs L h n Q:=OG.valL hw hb' (D.builtinV ho hc ha hr) hd hm hk
theorem OG.cf{c:Call}{f:FuncId}{fn:Func}{args:List Value}(hf:E.fn.get f=some fn)(hcl:Cl E f args h n (.ret v h' n'))(hk:OG E many all l (.loud h h' :: evs) ((d,v) :: L) h' n' Q)(ho:o.op= .call c:=by rfl)(hc:c.callee= .value (.func f):=by rfl)(ha:evLs E L c.args.toList=some args:=by rfl)(hw:WantL all L o.guard true:=by first|rfl|exact WantL.yes rfl rfl rfl)(hd:o.dst=some d:=by rfl)(hm:Nat.blt d many=true:=by rfl)(hb':BelT n L (opTmps o):=by repeat' (first|exact trivial|assumption|exact BelV.ptr (by omega)|exact BelV.sl (by omega)|exact BelV.fn1 (by omega)|exact BelV.fn2 (by omega) (by omega)|exact rfl|exact(show ∀ k,_≤k→BelV k _ from by assumption) _ (by omega)|refine And.intro (Exists.intro _ (And.intro rfl ?_)) ?_)):OG E many all (o :: l) evs L h n Q:=OG.call hw hb' (D.callF ho hc ha hf) hcl hd hm hk
end
def R64(x:Int):Prop:= -9223372036854775808≤x∧x≤9223372036854775807
section
variable {E:Env}{many:Nat}{all l:List Oper}{L:LT}{h h':T Blk}{n n':Nat}{Q:LT→T Blk→Nat→Prop}{o:Oper}{d:Tmp}{v:Value}
theorem loadN{ty:TypeId}{i:TyI}(hty:E.ty.get ty=some i)(hi:isAgg i.d=true){b o:Nat}{cs r:List Value}(hc:cellsOf h b=some cs)(hs:seg cs o i.size=some r):loadA E h ty (.pointer (some ⟨b,o,none⟩))=some (.agg ⟨r⟩):=by simp only[loadA,hty,hc,ldA,hi,cond_true,hs]
theorem storeN{ty:TypeId}{i:TyI}(hty:E.ty.get ty=some i){b o:Nat}{old new:List Value}{v:Value}(hc:h.get b=some (.cells old))(hs:Nat.beq (cellsL v).length i.size=true)(hv:allCells (cellsL v)=true)(ho:overAt (cellsL v) old o=some new) :
 storeA E h ty (.pointer (some ⟨b,o,none⟩)) v=some (h.upd (some (.cells new)) b):=by
 simp only[storeA,hty,hs,putA,hc,hv,ho,cond_true]
theorem seg4{cs:List Value}{o:Nat}{a b c d:Value}(h0:cs[o]? =some a)(h1:cs[o+1]? =some b)(h2:cs[o+2]? =some c)(h3:cs[o+3]? =some d):seg cs o 4=some [a,b,c,d]:=by
 have hl:o+4≤cs.length:=by have:=(gsI h3).1;omega
 obtain⟨r,hr⟩:∃ r,seg cs o 4=some r:=⟨_,seg_of hl⟩
 have e:=seg_len hr;rw[hr]
 match r,e with
 | [a',b',c',d'],_ =>
   have k0:=seg_at hr (i:=0) (by omega);have k1:=seg_at hr (i:=1) (by omega);have k2:=seg_at hr (i:=2) (by omega);have k3:=seg_at hr (i:=3) (by omega);rw[Nat.add_zero,h0] at k0;rw[h1] at k1;rw[h2] at k2;rw[h3] at k3;simp only[List.getElem?_cons_zero,List.getElem?_cons_succ,Option.some.injEq] at k0 k1 k2 k3;subst k0 k1 k2 k3;rfl
theorem seg3{cs:List Value}{o:Nat}{a b c:Value}(h0:cs[o]? =some a)(h1:cs[o+1]? =some b)(h2:cs[o+2]? =some c):seg cs o 3=some [a,b,c]:=by
 have hl:o+3≤cs.length:=by have:=(gsI h2).1;omega
 obtain⟨r,hr⟩:∃ r,seg cs o 3=some r:=⟨_,seg_of hl⟩
 have e:=seg_len hr;rw[hr]
 match r,e with
 | [a',b',c'],_ =>
   have k0:=seg_at hr (i:=0) (by omega);have k1:=seg_at hr (i:=1) (by omega);have k2:=seg_at hr (i:=2) (by omega);rw[Nat.add_zero,h0] at k0;rw[h1] at k1;rw[h2] at k2;simp only[List.getElem?_cons_zero,List.getElem?_cons_succ,Option.some.injEq] at k0 k1 k2;subst k0 k1 k2;rfl
theorem OL.la{ty:TypeId}{i:TyI}(hty:E.ty.get ty=some i){x:Operand}{b k:Nat}{cs r:List Value}(hk:OL E many all l ((d,.agg ⟨r⟩) :: L) h n Q)(ho:o.op= .load ty x:=by rfl)(hx:evL E L x=some (.pointer (some ⟨b,k,none⟩)):=by rfl)(hc:cellsOf h b=some cs:=by first|exact cells_of (by repeat (first|exact T.gsE _ _ _|assumption|refine(T.gnE _ _ (by omega)).trans ?_))|assumption)(hs:seg cs k i.size=some r:=by rfl)(hi:isAgg i.d=true:=by rfl)(hw:WantL all L o.guard true:=by first|rfl|exact WantL.yes rfl rfl rfl)(hd:o.dst=some d:=by rfl)(hm:Nat.blt d many=true:=by rfl):OL E many all (o :: l) L h n Q:=OL.val hw (D.load ho hx (loadN hty hi hc hs)) hd hm hk
theorem OL.sn{ty:TypeId}{i:TyI}(hty:E.ty.get ty=some i){x y:Operand}{b k:Nat}{old new:List Value}{v:Value}(hc:h.get b=some (.cells old))(hk:OL E many all l L (h.upd (some (.cells new)) b) n Q)(ho:o.op= .store ty x y:=by rfl)(hx:evL E L x=some (.pointer (some ⟨b,k,none⟩)):=by rfl)(hy:evL E L y=some v:=by rfl)(hs:Nat.beq (cellsL v).length i.size=true:=by rfl)(hv:allCells (cellsL v)=true:=by rfl)(hov:overAt (cellsL v) old k=some new:=by rfl)(hw:WantL all L o.guard true:=by first|rfl|exact WantL.yes rfl rfl rfl)(hd:o.dst=none:=by rfl):OL E many all (o :: l) L h n Q:=OL.skip hw (D.store ho hx hy (storeN hty hc hs hv hov)) hd hk
theorem WL.heap{c:Code}{Q:Ex→LT→T Blk→Nat→Prop}(P:T Blk→Prop)(hp:P h)(hk:∀ h,P h→WL E many c L h n Q):WL E many c L h n Q:=hk h hp
end
theorem ty3':(EE []).ty.get 3=some tInt:=by kernel_rfl
theorem ty4':(EE []).ty.get 4=some tBool:=by kernel_rfl
def tK9:TyI:={size:=1,bytes:=16,d:= .string,zero:=[.string ⟨#[]⟩],zok:=true}
theorem ty9':(EE []).ty.get 9=some tK9:=by kernel_rfl
theorem ty22':(EE []).ty.get 22=some (tSl 70):=by kernel_rfl
def tProg:TyI:={size:=1,bytes:=24,d:= .struct #[{name:= "Procs",type:=22,offset:=0,embedded:=false,tag:= "",pkgPath:= "",byteOffset:=0}],zero:=[.slice none 0 0],zok:=true}
theorem ty24':(EE []).ty.get 24=some tProg:=by kernel_rfl
theorem ty25':(EE []).ty.get 25=some (tSl 63):=by kernel_rfl
def tQuery:TyI:={size:=2,bytes:=32,d:= .struct #[{name:= "Vars",type:=3,offset:=0,embedded:=false,tag:= "",pkgPath:= "",byteOffset:=0},{name:= "Goals",type:=25,offset:=1,embedded:=false,tag:= "",pkgPath:= "",byteOffset:=8}],zero:=[.int .i64 (0),.slice none 0 0],zok:=true}
theorem ty27':(EE []).ty.get 27=some tQuery:=by kernel_rfl
theorem ty28':(EE []).ty.get 28=some (tSl 49):=by kernel_rfl
theorem ty29':(EE []).ty.get 29=some (tSl 31):=by kernel_rfl
theorem ty30':(EE []).ty.get 30=some (tSl 29):=by kernel_rfl
theorem ty31':(EE []).ty.get 31=some (tSl 43):=by kernel_rfl
def tModes:TyI:={size:=4,bytes:=96,d:= .struct #[{name:= "Nodes",type:=28,offset:=0,embedded:=false,tag:= "",pkgPath:= "",byteOffset:=0},{name:= "Args",type:=29,offset:=1,embedded:=false,tag:= "",pkgPath:= "",byteOffset:=24},{name:= "Equals",type:=30,offset:=2,embedded:=false,tag:= "",pkgPath:= "",byteOffset:=48},{name:= "Query",type:=31,offset:=3,embedded:=false,tag:= "",pkgPath:= "",byteOffset:=72}],zero:=[.slice none 0 0,.slice none 0 0,.slice none 0 0,.slice none 0 0],zok:=true}
theorem ty33':(EE []).ty.get 33=some tModes:=by kernel_rfl
theorem ty34':(EE []).ty.get 34=some (tSl 40):=by kernel_rfl
def tFeat:TyI:={size:=3,bytes:=32,d:= .struct #[{name:= "Name",type:=9,offset:=0,embedded:=false,tag:= "",pkgPath:= "",byteOffset:=0},{name:= "Arity",type:=3,offset:=1,embedded:=false,tag:= "",pkgPath:= "",byteOffset:=16},{name:= "Index",type:=3,offset:=2,embedded:=false,tag:= "",pkgPath:= "",byteOffset:=24}],zero:=[.string ⟨#[]⟩,.int .i64 (0),.int .i64 (0)],zok:=true}
theorem ty40':(EE []).ty.get 40=some tFeat:=by kernel_rfl
def tLink:TyI:={size:=2,bytes:=16,d:= .struct #[{name:= "Node",type:=3,offset:=0,embedded:=false,tag:= "",pkgPath:= "",byteOffset:=0},{name:= "Flip",type:=4,offset:=1,embedded:=false,tag:= "",pkgPath:= "",byteOffset:=8}],zero:=[.int .i64 (0),.bool false],zok:=true}
theorem ty43':(EE []).ty.get 43=some tLink:=by kernel_rfl
theorem ty49':(EE []).ty.get 49=some (tSl 51):=by kernel_rfl
def tEdge:TyI:={size:=5,bytes:=48,d:= .struct #[{name:= "At",type:=40,offset:=0,embedded:=false,tag:= "",pkgPath:= "",byteOffset:=0},{name:= "To",type:=43,offset:=3,embedded:=false,tag:= "",pkgPath:= "",byteOffset:=32}],zero:=[.string ⟨#[]⟩,.int .i64 (0),.int .i64 (0),.int .i64 (0),.bool false],zok:=true}
theorem ty51':(EE []).ty.get 51=some tEdge:=by kernel_rfl
def tTerm:TyI:={size:=4,bytes:=56,d:= .struct #[{name:= "Kind",type:=3,offset:=0,embedded:=false,tag:= "",pkgPath:= "",byteOffset:=0},{name:= "N",type:=3,offset:=1,embedded:=false,tag:= "",pkgPath:= "",byteOffset:=8},{name:= "S",type:=9,offset:=2,embedded:=false,tag:= "",pkgPath:= "",byteOffset:=16},{name:= "L",type:=25,offset:=3,embedded:=false,tag:= "",pkgPath:= "",byteOffset:=32}],zero:=[.int .i64 (0),.int .i64 (0),.string ⟨#[]⟩,.slice none 0 0],zok:=true}
theorem ty63':(EE []).ty.get 63=some tTerm:=by kernel_rfl
def tClause:TyI:={size:=5,bytes:=88,d:= .struct #[{name:= "Mark",type:=3,offset:=0,embedded:=false,tag:= "",pkgPath:= "",byteOffset:=0},{name:= "Vars",type:=3,offset:=1,embedded:=false,tag:= "",pkgPath:= "",byteOffset:=8},{name:= "Head",type:=25,offset:=2,embedded:=false,tag:= "",pkgPath:= "",byteOffset:=16},{name:= "Guard",type:=25,offset:=3,embedded:=false,tag:= "",pkgPath:= "",byteOffset:=40},{name:= "Body",type:=25,offset:=4,embedded:=false,tag:= "",pkgPath:= "",byteOffset:=64}],zero:=[.int .i64 (0),.int .i64 (0),.slice none 0 0,.slice none 0 0,.slice none 0 0],zok:=true}
theorem ty67':(EE []).ty.get 67=some tClause:=by kernel_rfl
theorem ty68':(EE []).ty.get 68=some (tSl 67):=by kernel_rfl
def tProc:TyI:={size:=3,bytes:=48,d:= .struct #[{name:= "Name",type:=9,offset:=0,embedded:=false,tag:= "",pkgPath:= "",byteOffset:=0},{name:= "Arity",type:=3,offset:=1,embedded:=false,tag:= "",pkgPath:= "",byteOffset:=16},{name:= "Clauses",type:=68,offset:=2,embedded:=false,tag:= "",pkgPath:= "",byteOffset:=24}],zero:=[.string ⟨#[]⟩,.int .i64 (0),.slice none 0 0],zok:=true}
theorem ty70':(EE []).ty.get 70=some tProc:=by kernel_rfl
theorem ty71':(EE []).ty.get 71=some (tSl 77):=by kernel_rfl
def tUnit:TyI:={size:=2,bytes:=16,d:= .struct #[{name:= "Proc",type:=3,offset:=0,embedded:=false,tag:= "",pkgPath:= "",byteOffset:=0},{name:= "Clause",type:=3,offset:=1,embedded:=false,tag:= "",pkgPath:= "",byteOffset:=8}],zero:=[.int .i64 (0),.int .i64 (0)],zok:=true}
theorem ty77':(EE []).ty.get 77=some tUnit:=by kernel_rfl
theorem ty150':(EE []).ty.get 150=some (tSl 3):=by kernel_rfl
def tK289:TyI:={size:=1,bytes:=8,d:= .map 3 4,zero:=[.map none],zok:=true}
theorem ty289':(EE []).ty.get 289=some tK289:=by kernel_rfl
def tK185:TyI:={size:=1,bytes:=8,d:= .int .u64,zero:=[.int .u64 (0)],zok:=true}
theorem ty185':(EE []).ty.get 185=some tK185:=by kernel_rfl
theorem fo24_0':fieldOff (EE []) 24 0=some 0:=by kernel_rfl
theorem fo27_1':fieldOff (EE []) 27 1=some 1:=by kernel_rfl
theorem fo33_0':fieldOff (EE []) 33 0=some 0:=by kernel_rfl
theorem fo33_1':fieldOff (EE []) 33 1=some 1:=by kernel_rfl
theorem fo33_2':fieldOff (EE []) 33 2=some 2:=by kernel_rfl
theorem fo33_3':fieldOff (EE []) 33 3=some 3:=by kernel_rfl
theorem fo40_0':fieldOff (EE []) 40 0=some 0:=by kernel_rfl
theorem fo40_1':fieldOff (EE []) 40 1=some 1:=by kernel_rfl
theorem fo40_2':fieldOff (EE []) 40 2=some 2:=by kernel_rfl
theorem fo43_0':fieldOff (EE []) 43 0=some 0:=by kernel_rfl
theorem fo43_1':fieldOff (EE []) 43 1=some 1:=by kernel_rfl
theorem fo51_0':fieldOff (EE []) 51 0=some 0:=by kernel_rfl
theorem fo51_1':fieldOff (EE []) 51 1=some 3:=by kernel_rfl
theorem fo63_0':fieldOff (EE []) 63 0=some 0:=by kernel_rfl
theorem fo63_1':fieldOff (EE []) 63 1=some 1:=by kernel_rfl
theorem fo63_2':fieldOff (EE []) 63 2=some 2:=by kernel_rfl
theorem fo63_3':fieldOff (EE []) 63 3=some 3:=by kernel_rfl
theorem fo67_2':fieldOff (EE []) 67 2=some 2:=by kernel_rfl
theorem fo67_3':fieldOff (EE []) 67 3=some 3:=by kernel_rfl
theorem fo67_4':fieldOff (EE []) 67 4=some 4:=by kernel_rfl
theorem fo70_1':fieldOff (EE []) 70 1=some 1:=by kernel_rfl
theorem fo70_2':fieldOff (EE []) 70 2=some 2:=by kernel_rfl
section
variable {l:List (FuncId×List (Ct×Value))}
theorem ty3:(EE l).ty.get 3=some tInt:=ty3'
theorem ty4:(EE l).ty.get 4=some tBool:=ty4'
theorem ty9:(EE l).ty.get 9=some tK9:=ty9'
theorem ty22:(EE l).ty.get 22=some (tSl 70):=ty22'
theorem ty24:(EE l).ty.get 24=some tProg:=ty24'
theorem ty25:(EE l).ty.get 25=some (tSl 63):=ty25'
theorem ty27:(EE l).ty.get 27=some tQuery:=ty27'
theorem ty28:(EE l).ty.get 28=some (tSl 49):=ty28'
theorem ty29:(EE l).ty.get 29=some (tSl 31):=ty29'
theorem ty30:(EE l).ty.get 30=some (tSl 29):=ty30'
theorem ty31:(EE l).ty.get 31=some (tSl 43):=ty31'
theorem ty33:(EE l).ty.get 33=some tModes:=ty33'
theorem ty34:(EE l).ty.get 34=some (tSl 40):=ty34'
theorem ty40:(EE l).ty.get 40=some tFeat:=ty40'
theorem ty43:(EE l).ty.get 43=some tLink:=ty43'
theorem ty49:(EE l).ty.get 49=some (tSl 51):=ty49'
theorem ty51:(EE l).ty.get 51=some tEdge:=ty51'
theorem ty63:(EE l).ty.get 63=some tTerm:=ty63'
theorem ty67:(EE l).ty.get 67=some tClause:=ty67'
theorem ty68:(EE l).ty.get 68=some (tSl 67):=ty68'
theorem ty70:(EE l).ty.get 70=some tProc:=ty70'
theorem ty71:(EE l).ty.get 71=some (tSl 77):=ty71'
theorem ty77:(EE l).ty.get 77=some tUnit:=ty77'
theorem ty150:(EE l).ty.get 150=some (tSl 3):=ty150'
theorem ty289:(EE l).ty.get 289=some tK289:=ty289'
theorem ty185:(EE l).ty.get 185=some tK185:=ty185'
theorem fo24_0:fieldOff (EE l) 24 0=some 0:=fo24_0'
theorem fo27_1:fieldOff (EE l) 27 1=some 1:=fo27_1'
theorem fo33_0:fieldOff (EE l) 33 0=some 0:=fo33_0'
theorem fo33_1:fieldOff (EE l) 33 1=some 1:=fo33_1'
theorem fo33_2:fieldOff (EE l) 33 2=some 2:=fo33_2'
theorem fo33_3:fieldOff (EE l) 33 3=some 3:=fo33_3'
theorem fo40_0:fieldOff (EE l) 40 0=some 0:=fo40_0'
theorem fo40_1:fieldOff (EE l) 40 1=some 1:=fo40_1'
theorem fo40_2:fieldOff (EE l) 40 2=some 2:=fo40_2'
theorem fo43_0:fieldOff (EE l) 43 0=some 0:=fo43_0'
theorem fo43_1:fieldOff (EE l) 43 1=some 1:=fo43_1'
theorem fo51_0:fieldOff (EE l) 51 0=some 0:=fo51_0'
theorem fo51_1:fieldOff (EE l) 51 1=some 3:=fo51_1'
theorem fo63_0:fieldOff (EE l) 63 0=some 0:=fo63_0'
theorem fo63_1:fieldOff (EE l) 63 1=some 1:=fo63_1'
theorem fo63_2:fieldOff (EE l) 63 2=some 2:=fo63_2'
theorem fo63_3:fieldOff (EE l) 63 3=some 3:=fo63_3'
theorem fo67_2:fieldOff (EE l) 67 2=some 2:=fo67_2'
theorem fo67_3:fieldOff (EE l) 67 3=some 3:=fo67_3'
theorem fo67_4:fieldOff (EE l) 67 4=some 4:=fo67_4'
theorem fo70_1:fieldOff (EE l) 70 1=some 1:=fo70_1'
theorem fo70_2:fieldOff (EE l) 70 2=some 2:=fo70_2'
end
section
variable {E:Env}{many:Nat}{all l:List Oper}{L:LT}{h h':T Blk}{n n':Nat}{Q:LT→T Blk→Nat→Prop}{o:Oper}{d:Tmp}{v:Value}
theorem OD.la{ty:TypeId}{i:TyI}(hty:E.ty.get ty=some i){x:Operand}{b k:Nat}{cs r:List Value}(hk:OD E many all l ((d,.agg ⟨r⟩) :: L) h n Q)(ho:o.op= .load ty x:=by rfl)(hx:evL E L x=some (.pointer (some ⟨b,k,none⟩)):=by rfl)(hc:cellsOf h b=some cs:=by first|exact cells_of (by repeat (first|exact T.gsE _ _ _|assumption|refine(T.gnE _ _ (by omega)).trans ?_))|assumption)(hs:seg cs k i.size=some r:=by rfl)(hi:isAgg i.d=true:=by rfl)(hw:WantL all L o.guard true:=by first|rfl|exact WantL.yes rfl rfl rfl)(hd:o.dst=some d:=by rfl)(hm:Nat.blt d many=true:=by rfl)(hb':BelT n L (opTmps o):=by repeat' (first|exact trivial|assumption|exact BelV.ptr (by omega)|exact BelV.sl (by omega)|exact BelV.fn1 (by omega)|exact BelV.fn2 (by omega) (by omega)|exact rfl|exact(show ∀ k,_≤k→BelV k _ from by assumption) _ (by omega)|refine And.intro (Exists.intro _ (And.intro rfl ?_)) ?_)):OD E many all (o :: l) L h n Q:=OD.val hw hb' (D.load ho hx (loadN hty hi hc hs)) hd hm hk
theorem OD.cv{c:Call}{x:Operand}{f:FuncId}{fs cs:Array Value}{fn:Func}{args al:List Value}(hf:E.fn.get f=some fn)(hcl:Cl E f al h n (.ret v h' n'))(hk:OD E many all l ((d,v) :: L) h' n' Q)(ho:o.op= .call c:=by rfl)(hc:c.callee= .value x:=by rfl)(hx:evL E L x=some (.func (.func f) fs cs):=by rfl)(ha:evLs E L c.args.toList=some args:=by rfl)(has:fs.toList ++ args ++ cs.toList=al:=by rfl)(hw:WantL all L o.guard true:=by first|rfl|exact WantL.yes rfl rfl rfl)(hd:o.dst=some d:=by rfl)(hm:Nat.blt d many=true:=by rfl)(hb':BelT n L (opTmps o):=by repeat' (first|exact trivial|assumption|exact BelV.ptr (by omega)|exact BelV.sl (by omega)|exact BelV.fn1 (by omega)|exact BelV.fn2 (by omega) (by omega)|exact rfl|exact(show ∀ k,_≤k→BelV k _ from by assumption) _ (by omega)|refine And.intro (Exists.intro _ (And.intro rfl ?_)) ?_)):OD E many all (o :: l) L h n Q:=OD.call hw hb' (D.callV ho hc hx ha hf has) hcl hd hm hk
end
section
variable {E:Env}{many:Nat}{all l:List Oper}{evs:List Evt}{L:LT}{h h':T Blk}{n n':Nat}{Q:List Evt→LT→T Blk→Nat→Prop}{o:Oper}{d:Tmp}{v:Value}
theorem OG.la{ty:TypeId}{i:TyI}(hty:E.ty.get ty=some i){x:Operand}{b k:Nat}{cs r:List Value}(hk:OG E many all l (.rd ty (.pointer (some ⟨b,k,none⟩)) (.agg ⟨r⟩) :: evs) ((d,.agg ⟨r⟩) :: L) h n Q)(ho:o.op= .load ty x:=by rfl)(hx:evL E L x=some (.pointer (some ⟨b,k,none⟩)):=by rfl)(hc:cellsOf h b=some cs:=by first|exact cells_of (by repeat (first|exact T.gsE _ _ _|assumption|refine(T.gnE _ _ (by omega)).trans ?_))|assumption)(hs:seg cs k i.size=some r:=by rfl)(hi:isAgg i.d=true:=by rfl)(hw:WantL all L o.guard true:=by first|rfl|exact WantL.yes rfl rfl rfl)(hd:o.dst=some d:=by rfl)(hm:Nat.blt d many=true:=by rfl)(hb':BelT n L (opTmps o):=by repeat' (first|exact trivial|assumption|exact BelV.ptr (by omega)|exact BelV.sl (by omega)|exact BelV.fn1 (by omega)|exact BelV.fn2 (by omega) (by omega)|exact rfl|exact(show ∀ k,_≤k→BelV k _ from by assumption) _ (by omega)|refine And.intro (Exists.intro _ (And.intro rfl ?_)) ?_)):OG E many all (o :: l) evs L h n Q:=OG.valR hw hb' ho hx (loadN hty hi hc hs) hd hm hk
theorem OG.l1{ty:TypeId}{i:TyI}(hty:E.ty.get ty=some i){x:Operand}{b k:Nat}{cs:List Value}(hk:OG E many all l (.rd ty (.pointer (some ⟨b,k,none⟩)) v :: evs) ((d,v) :: L) h n Q)(ho:o.op= .load ty x:=by rfl)(hx:evL E L x=some (.pointer (some ⟨b,k,none⟩)):=by rfl)(hc:cellsOf h b=some cs:=by first|exact cells_of (by repeat (first|exact T.gsE _ _ _|assumption|refine(T.gnE _ _ (by omega)).trans ?_))|assumption)(hv:cs[k]? =some v:=by rfl)(hi:isAgg i.d=false:=by rfl)(hw:WantL all L o.guard true:=by first|rfl|exact WantL.yes rfl rfl rfl)(hd:o.dst=some d:=by rfl)(hm:Nat.blt d many=true:=by rfl)(hb':BelT n L (opTmps o):=by repeat' (first|exact trivial|assumption|exact BelV.ptr (by omega)|exact BelV.sl (by omega)|exact BelV.fn1 (by omega)|exact BelV.fn2 (by omega) (by omega)|exact rfl|exact(show ∀ k,_≤k→BelV k _ from by assumption) _ (by omega)|refine And.intro (Exists.intro _ (And.intro rfl ?_)) ?_)):OG E many all (o :: l) evs L h n Q:=OG.valR hw hb' ho hx (load1 hty hi hc hv) hd hm hk
theorem OG.cv{c:Call}{x:Operand}{f:FuncId}{fs cs:Array Value}{fn:Func}{args al:List Value}(hf:E.fn.get f=some fn)(hcl:Cl E f al h n (.ret v h' n'))(hk:OG E many all l (.loud h h' :: evs) ((d,v) :: L) h' n' Q)(ho:o.op= .call c:=by rfl)(hc:c.callee= .value x:=by rfl)(hx:evL E L x=some (.func (.func f) fs cs):=by rfl)(ha:evLs E L c.args.toList=some args:=by rfl)(has:fs.toList ++ args ++ cs.toList=al:=by rfl)(hw:WantL all L o.guard true:=by first|rfl|exact WantL.yes rfl rfl rfl)(hd:o.dst=some d:=by rfl)(hm:Nat.blt d many=true:=by rfl)(hb':BelT n L (opTmps o):=by repeat' (first|exact trivial|assumption|exact BelV.ptr (by omega)|exact BelV.sl (by omega)|exact BelV.fn1 (by omega)|exact BelV.fn2 (by omega) (by omega)|exact rfl|exact(show ∀ k,_≤k→BelV k _ from by assumption) _ (by omega)|refine And.intro (Exists.intro _ (And.intro rfl ?_)) ?_)):OG E many all (o :: l) evs L h n Q:=OG.call hw hb' (D.callV ho hc hx ha hf has) hcl hd hm hk
end
end Go.Sx
namespace Go.Sx
open Go.Proofs
set_option maxRecDepth 100000
def MemoK(l:List (FuncId×List (Ct×Value))):Prop:=∀ x∈l,x.1∈ [5,7,37,39,120]
theorem memo_no{l:List (FuncId×List (Ct×Value))}(hl:MemoK l){f:FuncId}(hf:f∉ [5,7,37,39,120]){args:List Value}{h:T Blk}:memoA (EE l) f args h=none:=by
 have:(EE l).memo.get f=none:=by
  show(memoT l).get f=none;cases hx:(memoT l).get f with
  | none=>rfl
  | some r=>exact absurd (hl _ (memoT_some hx)) hf
 unfold memoA;rw[this]
theorem fn4':(EE []).fn.get 4=some Tryz.f4:=by kernel_rfl
theorem fn5':(EE []).fn.get 5=some Tryz.f5:=by kernel_rfl
theorem fn6':(EE []).fn.get 6=some Tryz.f6:=by kernel_rfl
theorem fn7':(EE []).fn.get 7=some Tryz.f7:=by kernel_rfl
theorem fn8':(EE []).fn.get 8=some Tryz.f8:=by kernel_rfl
theorem fn10':(EE []).fn.get 10=some Tryz.f10:=by kernel_rfl
theorem fn13':(EE []).fn.get 13=some Tryz.f13:=by kernel_rfl
theorem fn14':(EE []).fn.get 14=some Tryz.f14:=by kernel_rfl
theorem fn15':(EE []).fn.get 15=some Tryz.f15:=by kernel_rfl
theorem fn16':(EE []).fn.get 16=some Tryz.f16:=by kernel_rfl
theorem fn17':(EE []).fn.get 17=some Tryz.f17:=by kernel_rfl
theorem fn30':(EE []).fn.get 30=some Tryz.f30:=by kernel_rfl
theorem fn31':(EE []).fn.get 31=some Tryz.f31:=by kernel_rfl
theorem fn32':(EE []).fn.get 32=some Tryz.f32:=by kernel_rfl
theorem fn33':(EE []).fn.get 33=some Tryz.f33:=by kernel_rfl
theorem fn34':(EE []).fn.get 34=some Tryz.f34:=by kernel_rfl
theorem fn35':(EE []).fn.get 35=some Tryz.f35:=by kernel_rfl
theorem fn36':(EE []).fn.get 36=some Tryz.f36:=by kernel_rfl
theorem fn37':(EE []).fn.get 37=some Tryz.f37:=by kernel_rfl
theorem fn38':(EE []).fn.get 38=some Tryz.f38:=by kernel_rfl
theorem fn39':(EE []).fn.get 39=some Tryz.f39:=by kernel_rfl
theorem fn40':(EE []).fn.get 40=some Tryz.f40:=by kernel_rfl
theorem fn49':(EE []).fn.get 49=some Tryz.f49:=by kernel_rfl
theorem fn66':(EE []).fn.get 66=some Tryz.f66:=by kernel_rfl
theorem fn68':(EE []).fn.get 68=some Tryz.f68:=by kernel_rfl
theorem fn69':(EE []).fn.get 69=some Tryz.f69:=by kernel_rfl
theorem fn70':(EE []).fn.get 70=some Tryz.f70:=by kernel_rfl
theorem fn71':(EE []).fn.get 71=some Tryz.f71:=by kernel_rfl
theorem fn72':(EE []).fn.get 72=some Tryz.f72:=by kernel_rfl
theorem fn75':(EE []).fn.get 75=some Tryz.f75:=by kernel_rfl
theorem fn76':(EE []).fn.get 76=some Tryz.f76:=by kernel_rfl
theorem fn77':(EE []).fn.get 77=some Tryz.f77:=by kernel_rfl
theorem fn96':(EE []).fn.get 96=some Tryz.f96:=by kernel_rfl
theorem fn98':(EE []).fn.get 98=some Tryz.f98:=by kernel_rfl
theorem fn116':(EE []).fn.get 116=some Tryz.f116:=by kernel_rfl
theorem fn117':(EE []).fn.get 117=some Tryz.f117:=by kernel_rfl
theorem fn118':(EE []).fn.get 118=some Tryz.f118:=by kernel_rfl
theorem fn120':(EE []).fn.get 120=some Tryz.f120:=by kernel_rfl
theorem fn121':(EE []).fn.get 121=some Tryz.f121:=by kernel_rfl
theorem fn122':(EE []).fn.get 122=some Tryz.f122:=by kernel_rfl
theorem fn142':(EE []).fn.get 142=some Tryz.f142:=by kernel_rfl
theorem fn156':(EE []).fn.get 156=some Tryz.f156:=by kernel_rfl
theorem fn157':(EE []).fn.get 157=some Tryz.f157:=by kernel_rfl
section
variable {l:List (FuncId×List (Ct×Value))}
theorem fk4:(EE l).fn.get 4=some Tryz.f4:=fn4'
theorem fk5:(EE l).fn.get 5=some Tryz.f5:=fn5'
theorem fk6:(EE l).fn.get 6=some Tryz.f6:=fn6'
theorem fk7:(EE l).fn.get 7=some Tryz.f7:=fn7'
theorem fk8:(EE l).fn.get 8=some Tryz.f8:=fn8'
theorem fk10:(EE l).fn.get 10=some Tryz.f10:=fn10'
theorem fk13:(EE l).fn.get 13=some Tryz.f13:=fn13'
theorem fk14:(EE l).fn.get 14=some Tryz.f14:=fn14'
theorem fk15:(EE l).fn.get 15=some Tryz.f15:=fn15'
theorem fk16:(EE l).fn.get 16=some Tryz.f16:=fn16'
theorem fk17:(EE l).fn.get 17=some Tryz.f17:=fn17'
theorem fk30:(EE l).fn.get 30=some Tryz.f30:=fn30'
theorem fk31:(EE l).fn.get 31=some Tryz.f31:=fn31'
theorem fk32:(EE l).fn.get 32=some Tryz.f32:=fn32'
theorem fk33:(EE l).fn.get 33=some Tryz.f33:=fn33'
theorem fk34:(EE l).fn.get 34=some Tryz.f34:=fn34'
theorem fk35:(EE l).fn.get 35=some Tryz.f35:=fn35'
theorem fk36:(EE l).fn.get 36=some Tryz.f36:=fn36'
theorem fk37:(EE l).fn.get 37=some Tryz.f37:=fn37'
theorem fk38:(EE l).fn.get 38=some Tryz.f38:=fn38'
theorem fk39:(EE l).fn.get 39=some Tryz.f39:=fn39'
theorem fk40:(EE l).fn.get 40=some Tryz.f40:=fn40'
theorem fk49:(EE l).fn.get 49=some Tryz.f49:=fn49'
theorem fk66:(EE l).fn.get 66=some Tryz.f66:=fn66'
theorem fk68:(EE l).fn.get 68=some Tryz.f68:=fn68'
theorem fk69:(EE l).fn.get 69=some Tryz.f69:=fn69'
theorem fk70:(EE l).fn.get 70=some Tryz.f70:=fn70'
theorem fk71:(EE l).fn.get 71=some Tryz.f71:=fn71'
theorem fk72:(EE l).fn.get 72=some Tryz.f72:=fn72'
theorem fk75:(EE l).fn.get 75=some Tryz.f75:=fn75'
theorem fk76:(EE l).fn.get 76=some Tryz.f76:=fn76'
theorem fk77:(EE l).fn.get 77=some Tryz.f77:=fn77'
theorem fk96:(EE l).fn.get 96=some Tryz.f96:=fn96'
theorem fk98:(EE l).fn.get 98=some Tryz.f98:=fn98'
theorem fk116:(EE l).fn.get 116=some Tryz.f116:=fn116'
theorem fk117:(EE l).fn.get 117=some Tryz.f117:=fn117'
theorem fk118:(EE l).fn.get 118=some Tryz.f118:=fn118'
theorem fk120:(EE l).fn.get 120=some Tryz.f120:=fn120'
theorem fk121:(EE l).fn.get 121=some Tryz.f121:=fn121'
theorem fk122:(EE l).fn.get 122=some Tryz.f122:=fn122'
theorem fk142:(EE l).fn.get 142=some Tryz.f142:=fn142'
theorem fk156:(EE l).fn.get 156=some Tryz.f156:=fn156'
theorem fk157:(EE l).fn.get 157=some Tryz.f157:=fn157'
end
end Go.Sx
namespace Go.Sx
structure CmpOK{α:Type}(c:α→α→Int):Prop where
 zero:∀ x y,c x y=0↔x=y
 anti:∀ x y,c x y<0↔0<c y x
 trans:∀ x y z,c x y<0→c y z<0→c x z<0
def lexC{α β:Type}(c1:α→α→Int)(c2:β→β→Int)(x y:α×β):Int:=if c1 x.1 y.1=0 then c2 x.2 y.2 else c1 x.1 y.1
theorem CmpOK.lex{α β:Type}{c1:α→α→Int}{c2:β→β→Int}(h1:CmpOK c1)(h2:CmpOK c2):CmpOK (lexC c1 c2):=by
 refine⟨fun x y=>?_,fun x y=>?_,fun x y z hxy hyz=>?_⟩
 ·unfold lexC;split
  ·rename_i h;rw[h2.zero];exact⟨fun e=>Prod.ext ((h1.zero _ _).1 h) e,fun e=>by rw[e]⟩
  ·rename_i h;exact⟨fun e=>absurd e h,fun e=>absurd ((h1.zero _ _).2 (by rw[e])) h⟩
 ·unfold lexC;by_cases h:c1 x.1 y.1=0
  ·have h':c1 y.1 x.1=0:=(h1.zero _ _).2 ((h1.zero _ _).1 h).symm;rw[if_pos h,if_pos h'];exact h2.anti _ _
  ·have h':¬ c1 y.1 x.1=0:=fun e=>h ((h1.zero _ _).2 ((h1.zero _ _).1 e).symm)
   rw[if_neg h,if_neg h'];exact h1.anti _ _
 ·unfold lexC at hxy hyz ⊢;by_cases a:c1 x.1 y.1=0
  ·rw[if_pos a] at hxy;have e:=(h1.zero _ _).1 a;rw[e];by_cases b:c1 y.1 z.1=0
   ·rw[if_pos b] at hyz ⊢;exact h2.trans _ _ _ hxy hyz
   ·rw[if_neg b] at hyz ⊢;exact hyz
  ·rw[if_neg a] at hxy;by_cases b:c1 y.1 z.1=0
   ·rw[if_pos b] at hyz;have e:=(h1.zero _ _).1 b;rw[←e,if_neg a];exact hxy
   ·rw[if_neg b] at hyz;have h:=h1.trans _ _ _ hxy hyz;rw[if_neg (by omega)];exact h
def cmpI(a b:Int):Int:=if a<b then -1 else if b<a then 1 else 0
theorem cmpI_ok:CmpOK cmpI:=by
 refine⟨fun x y=>?_,fun x y=>?_,fun x y z hxy hyz=>?_⟩
 ·unfold cmpI;by_cases h1:x<y
  ·rw[if_pos h1];exact⟨fun h=>by omega,fun h=>by omega⟩
  ·rw[if_neg h1];by_cases h2:y<x
   ·rw[if_pos h2];exact⟨fun h=>by omega,fun h=>by omega⟩
   ·rw[if_neg h2];exact⟨fun _=>by omega,fun _=>rfl⟩
 ·unfold cmpI;by_cases h1:x<y
  ·rw[if_pos h1,if_neg (show ¬ y<x by omega),if_pos h1];exact⟨fun _=>by omega,fun _=>by omega⟩
  ·rw[if_neg h1];by_cases h2:y<x
   ·rw[if_pos h2,if_pos h2];exact⟨fun h=>by omega,fun h=>by omega⟩
   ·rw[if_neg h2,if_neg h2];exact⟨fun h=>by omega,fun h=>by omega⟩
 ·unfold cmpI at hxy hyz ⊢;have h1:x<y:=by
   apply Classical.byContradiction;intro h;rw[if_neg h] at hxy;split at hxy<;>omega
  have h2:y<z:=by apply Classical.byContradiction;intro h;rw[if_neg h] at hyz;split at hyz<;>omega
  rw[if_pos (by omega)];omega
theorem bytesLt_irr:∀ a:List UInt8,bytesLt a a=false
 | []=>rfl
 | a :: x=>by simp only[bytesLt,bytesLt_irr x,Bool.and_false,Bool.or_false];rw[Bool.eq_false_iff];intro h;rw[bltT] at h;omega
theorem bytesLt_trans:∀ a b c:List UInt8,bytesLt a b=true→bytesLt b c=true→bytesLt a c=true
 | _,[],_,h,_=>by simp[bytesLt] at h
 | _,_ :: _,[],_,h=>by simp[bytesLt] at h
 | [],_ :: _,_ :: _,_,_=>rfl
 | a :: x,b :: y,c :: z,h1,h2=>by
   simp only[bytesLt,Bool.or_eq_true,baT,bltT,beqT] at h1 h2 ⊢;rcases h1 with h1|⟨h1,h1'⟩<;>rcases h2 with h2|⟨h2,h2'⟩
   ·exact .inl (by omega)
   ·exact .inl (by omega)
   ·exact .inl (by omega)
   ·exact .inr ⟨by omega,bytesLt_trans x y z h1' h2'⟩
theorem bytesLt_tri:∀ a b:List UInt8,bytesLt a b=true∨a=b∨bytesLt b a=true
 | [],[]=> .inr (.inl rfl)
 | [],_ :: _=> .inl rfl
 | _ :: _,[]=> .inr (.inr rfl)
 | a :: x,b :: y=>by
   simp only[bytesLt,Bool.or_eq_true,baT,bltT,beqT];rcases Nat.lt_trichotomy a.toNat b.toNat with h|h|h
   ·exact .inl (.inl h)
   ·rcases bytesLt_tri x y with h1|h1|h1
    ·exact .inl (.inr ⟨h,h1⟩)
    ·refine .inr (.inl ?_);rw[h1,UInt8.toNat_inj.1 h]
    ·exact .inr (.inr (.inr ⟨h.symm,h1⟩))
   ·exact .inr (.inr (.inl h))
theorem bytes_inj{a b:ByteArray}(h:a.data.toList=b.data.toList):a=b:=by
 cases a with
 | mk a=>cases b with
   | mk b=>cases a;cases b;simp at h;subst h;rfl
def cmpS(a b:ByteArray):Int:=if bytesLt a.data.toList b.data.toList=true then -1 else if bytesEq a.data.toList b.data.toList=true then 0 else 1
theorem cmpS_ok:CmpOK cmpS:=by
 have neg:∀ x y,cmpS x y<0↔bytesLt x.data.toList y.data.toList=true:=fun x y=>by
  unfold cmpS;by_cases h:bytesLt x.data.toList y.data.toList=true
  ·rw[if_pos h];exact⟨fun _=>h,fun _=>by omega⟩
  ·rw[if_neg h];split<;>exact⟨fun h=>by omega,fun h'=>absurd h' h⟩
 refine⟨fun x y=>?_,fun x y=>?_,fun x y z hxy hyz=>?_⟩
 ·unfold cmpS;by_cases h:bytesLt x.data.toList y.data.toList=true
  ·rw[if_pos h];exact⟨fun h=>by omega,fun e=>by subst e;rw[bytesLt_irr] at h;cases h⟩
  ·rw[if_neg h];by_cases h2:bytesEq x.data.toList y.data.toList=true
   ·rw[if_pos h2];exact⟨fun _=>bytes_inj ((bytesEq_iff _ _).1 h2),fun _=>rfl⟩
   ·rw[if_neg h2];exact⟨fun h=>by omega,fun e=>absurd ((bytesEq_iff _ _).2 (by rw[e])) h2⟩
 ·rw[neg];unfold cmpS;constructor
  ·intro h;have h1:¬ bytesLt y.data.toList x.data.toList=true:=fun h'=>by
    have:=bytesLt_trans _ _ _ h h';rw[bytesLt_irr] at this;cases this
   have h2:¬ bytesEq y.data.toList x.data.toList=true:=fun h'=>by rw[(bytesEq_iff _ _).1 h',bytesLt_irr] at h;cases h
   rw[if_neg h1,if_neg h2];omega
  ·intro h;have h1:¬ bytesLt y.data.toList x.data.toList=true:=fun h'=>by rw[if_pos h'] at h;omega
   rw[if_neg h1] at h;have h2:¬ bytesEq y.data.toList x.data.toList=true:=fun h'=>by rw[if_pos h'] at h;omega
   rcases bytesLt_tri x.data.toList y.data.toList with h3|h3|h3
   ·exact h3
   ·exact absurd ((bytesEq_iff _ _).2 h3.symm) h2
   ·exact absurd h3 h1
 ·rw[neg] at hxy hyz ⊢;exact bytesLt_trans _ _ _ hxy hyz
abbrev Ft:=ByteArray×Int×Int
abbrev Lnk:=Int×Bool
abbrev Edg:=Ft×Lnk
def cmpF:Ft→Ft→Int:=lexC cmpS (lexC cmpI cmpI)
theorem cmpF_ok:CmpOK cmpF:=cmpS_ok.lex (cmpI_ok.lex cmpI_ok)
def SortedE(es:List Edg):Prop:=∀ (i:Nat)(a b:Edg),es[i]? =some a→es[i+1]? =some b→cmpF a.1 b.1<0
theorem SortedE.lt{es:List Edg}(hs:SortedE es):∀ (d i:Nat){a b:Edg},es[i]? =some a→es[i+d+1]? =some b→cmpF a.1 b.1<0
 | 0,i,a,b,h1,h2=>hs i a b h1 h2
 | d+1,i,a,b,h1,h2=>by
   have hlt:=(gsI h2).1;obtain⟨c,hc⟩:∃ c,es[i+d+1]? =some c:=⟨_,ggE (by omega)⟩
   exact cmpF_ok.trans _ _ _ (hs.lt d i h1 hc) (hs (i+d+1) c b hc h2)
theorem search_found{es:List Edg}(hs:SortedE es){f:Ft}{i:Nat}(h1:∀ (k:Nat)(a:Edg),k<i→es[k]? =some a→cmpF a.1 f<0)(h2:∀ (k:Nat)(a:Edg),i≤k→es[k]? =some a→¬ cmpF a.1 f<0) :
 (∀ a:Edg,es[i]? =some a→cmpF a.1 f=0→a.1=f∧∀ (k:Nat) (b:Edg),es[k]? =some b→b.1=f→b=a)∧((∀ a:Edg,es[i]? =some a→cmpF a.1 f≠0)→∀ (k:Nat) (b:Edg),es[k]? =some b→b.1≠f):=by
 refine⟨fun a ha hc=>⟨(cmpF_ok.zero _ _).1 hc,fun k b hb hf=>?_⟩,fun hno k b hb hf=>?_⟩
 ·have hz:cmpF b.1 f=0:=(cmpF_ok.zero _ _).2 hf;rcases Nat.lt_trichotomy k i with h|h|h
  ·have:=h1 k b h hb;omega
  ·subst h;rw[ha] at hb;exact(Option.some.inj hb).symm
  ·obtain⟨d,rfl⟩:∃ d,k=i+d+1:=⟨k-i-1,by omega⟩
   have:=hs.lt d i ha hb;rw[hf] at this;exact absurd this (h2 i a (nlR _) ha)
 ·have hz:cmpF b.1 f=0:=(cmpF_ok.zero _ _).2 hf;rcases Nat.lt_trichotomy k i with h|h|h
  ·have:=h1 k b h hb;omega
  ·subst h;exact hno b hb hz
  ·have hlt:=(gsI hb).1;obtain⟨a,ha⟩:∃ a,es[i]? =some a:=⟨_,ggE (by omega)⟩
   obtain⟨d,rfl⟩:∃ d,k=i+d+1:=⟨k-i-1,by omega⟩
   have:=hs.lt d i ha hb;rw[hf] at this;exact h2 i a (nlR _) ha this
def partL(es:List Edg)(l:Lnk)(f:Ft):Lnk :=
 match es.find? (fun e=>decide (e.1=f)) with
 | some e=>(e.2.1,xor e.2.2 l.2)
 | none=>l
theorem partL_some{es:List Edg}{f:Ft}{i:Nat}{a:Edg}(ha:es[i]? =some a)(hf:a.1=f)(hu:∀ (k:Nat)(b:Edg),es[k]? =some b→b.1=f→b=a)(l:Lnk):partL es l f=(a.2.1,xor a.2.2 l.2):=by
 unfold partL;cases hx:es.find? (fun e=>decide (e.1=f)) with
 | none =>
   have:=List.find?_eq_none.1 hx a (List.mem_of_getElem? ha);simp[hf] at this
 | some e =>
   have h1:=List.find?_some hx;simp only[decide_eq_true_eq] at h1;obtain⟨k,hk⟩:=List.getElem?_of_mem (List.mem_of_find?_eq_some hx);rw[hu k e hk h1]
theorem partL_none{es:List Edg}{f:Ft}(hno:∀ (k:Nat)(b:Edg),es[k]? =some b→b.1≠f)(l:Lnk):partL es l f=l:=by
 unfold partL;have:es.find? (fun e=>decide (e.1=f))=none:=List.find?_eq_none.2 fun e he=>by obtain⟨k,hk⟩:=List.getElem?_of_mem he;simpa using hno k e hk
 rw[this]
end Go.Sx
namespace Go.Sx
open Go.Proofs
set_option maxRecDepth 100000
set_option maxHeartbeats 2000000
section
variable {l:List (FuncId×List (Ct×Value))}(hl:MemoK l)
include hl
theorem nanS_cl(s:ByteArray)(h:T Blk)(n:Nat):Cl (EE l) 156 [.string s] h n (.ret (.bool false) h n):=by
 have key:∃ v h' n',Cl (EE l) 156 [.string s] h n (.ret v h' n')∧v= .bool false∧h'=h∧n'=n:=by refine Cl.wl (many:=6) (memo_no hl (by decide)) rfl fk156 rfl rfl rfl rfl ?_;refine WL.seq (WL.reg ?_);refine OL.asg ?_;refine OL.nil (WL.seq (WL.reg ?_));(iterate 2 refine OL.mv ?_);refine OL.val (by first|rfl|exact WantL.yes rfl rfl rfl) (D.bin (v:= .bool false) rfl rfl rfl (by show some (Value.bool (!bytesEq s.data.toList s.data.toList))=_;rw[(bytesEq_iff _ _).2 rfl];rfl)) rfl rfl ?_;refine OL.asg ?_;exact OL.nil (WL.ret ⟨fun id e=>(by cases e),[_],⟨rfl,rfl⟩,rfl,rfl,rfl⟩)
 obtain⟨v,h',n',k1,rfl,rfl,rfl⟩:=key;exact k1
theorem nanI_cl(x:Int)(h:T Blk)(n:Nat):Cl (EE l) 157 [.int .i64 x] h n (.ret (.bool false) h n):=by
 have key:∃ v h' n',Cl (EE l) 157 [.int .i64 x] h n (.ret v h' n')∧v= .bool false∧h'=h∧n'=n:=by refine Cl.wl (many:=6) (memo_no hl (by decide)) rfl fk157 rfl rfl rfl rfl ?_;refine WL.seq (WL.reg ?_);refine OL.asg ?_;refine OL.nil (WL.seq (WL.reg ?_));(iterate 2 refine OL.mv ?_);refine OL.nF (hp:=rfl) ?_;refine OL.asg ?_;exact OL.nil (WL.ret ⟨fun id e=>(by cases e),[_],⟨rfl,rfl⟩,rfl,rfl,rfl⟩)
 obtain⟨v,h',n',k1,rfl,rfl,rfl⟩:=key;exact k1
theorem cmpS_cl(a b:ByteArray)(h:T Blk)(n:Nat):Cl (EE l) 117 [.string a,.string b] h n (.ret (.int .i64 (cmpS a b)) h n):=by
 have key:∃ v h' n',Cl (EE l) 117 [.string a,.string b] h n (.ret v h' n')∧v= .int .i64 (cmpS a b)∧h'=h∧n'=n:=by
  refine Cl.wl (many:=20) (memo_no hl (by decide)) rfl fk117 rfl rfl rfl rfl ?_;refine WL.seq (WL.reg ?_);refine OL.asg ?_;refine OL.nil (WL.seq (WL.reg ?_));refine OL.mv ?_;refine OL.cf fk156 (nanS_cl hl a h n) ?_;refine OL.asg ?_;refine OL.nil (WL.seq (WL.reg ?_));refine OL.mv ?_;refine OL.cf fk156 (nanS_cl hl b h n) ?_;refine OL.asg ?_;refine OL.nil (WL.seq (WL.seq (WL.reg ?_)));refine OL.mv ?_;refine OL.nil (WL.condF rfl (WL.skip ?_));refine WL.seq (WL.seq (WL.reg ?_));refine OL.mv ?_;refine OL.nil (WL.condF rfl (WL.skip ?_));refine WL.seq (WL.seq (WL.reg ?_));(iterate 2 refine OL.mv ?_);by_cases c1:bytesLt a.data.toList b.data.toList=true
  ·refine OL.val (by first|rfl|exact WantL.yes rfl rfl rfl) (D.bin (v:= .bool true) rfl rfl rfl (by show some (Value.bool (bytesLt a.data.toList b.data.toList))=_;rw[c1])) rfl rfl ?_;refine OL.nil (WL.condT rfl (WL.seq (WL.reg ?_)));refine OL.asg ?_;exact OL.nil (WL.ret ⟨fun id e=>(by cases e),[_],⟨rfl,rfl⟩,by unfold cmpS;rw[if_pos c1];rfl,rfl,rfl⟩)
  ·have c1':=Bool.eq_false_iff.2 c1;refine OL.val (by first|rfl|exact WantL.yes rfl rfl rfl) (D.bin (v:= .bool false) rfl rfl rfl (by show some (Value.bool (bytesLt a.data.toList b.data.toList))=_;rw[c1'])) rfl rfl ?_;refine OL.nil (WL.condF rfl (WL.skip ?_));refine WL.seq (WL.seq (WL.reg ?_));(iterate 2 refine OL.mv ?_);by_cases c2:bytesEq a.data.toList b.data.toList=true
   ·refine OL.val (by first|rfl|exact WantL.yes rfl rfl rfl) (D.bin (v:= .bool false) rfl rfl rfl (by show some (Value.bool (!(bytesLt a.data.toList b.data.toList||bytesEq a.data.toList b.data.toList)))=_;rw[c1',c2];rfl)) rfl rfl ?_;refine OL.nil (WL.condF rfl (WL.skip ?_));refine WL.seq (WL.reg ?_);refine OL.asg ?_;exact OL.nil (WL.ret ⟨fun id e=>(by cases e),[_],⟨rfl,rfl⟩,by unfold cmpS;rw[if_neg c1,if_pos c2];rfl,rfl,rfl⟩)
   ·refine OL.val (by first|rfl|exact WantL.yes rfl rfl rfl) (D.bin (v:= .bool true) rfl rfl rfl (by show some (Value.bool (!(bytesLt a.data.toList b.data.toList||bytesEq a.data.toList b.data.toList)))=_;rw[c1',Bool.eq_false_iff.2 c2];rfl)) rfl rfl ?_;refine OL.nil (WL.condT rfl (WL.seq (WL.reg ?_)));refine OL.asg ?_;exact OL.nil (WL.ret ⟨fun id e=>(by cases e),[_],⟨rfl,rfl⟩,by unfold cmpS;rw[if_neg c1,if_neg c2];rfl,rfl,rfl⟩)
 obtain⟨v,h',n',k1,rfl,rfl,rfl⟩:=key;exact k1
theorem cmpI_cl(a b:Int)(h:T Blk)(n:Nat):Cl (EE l) 118 [.int .i64 a,.int .i64 b] h n (.ret (.int .i64 (cmpI a b)) h n):=by
 have key:∃ v h' n',Cl (EE l) 118 [.int .i64 a,.int .i64 b] h n (.ret v h' n')∧v= .int .i64 (cmpI a b)∧h'=h∧n'=n:=by
  refine Cl.wl (many:=20) (memo_no hl (by decide)) rfl fk118 rfl rfl rfl rfl ?_;refine WL.seq (WL.reg ?_);refine OL.asg ?_;refine OL.nil (WL.seq (WL.reg ?_));refine OL.mv ?_;refine OL.cf fk157 (nanI_cl hl a h n) ?_;refine OL.asg ?_;refine OL.nil (WL.seq (WL.reg ?_));refine OL.mv ?_;refine OL.cf fk157 (nanI_cl hl b h n) ?_;refine OL.asg ?_;refine OL.nil (WL.seq (WL.seq (WL.reg ?_)));refine OL.mv ?_;refine OL.nil (WL.condF rfl (WL.skip ?_));refine WL.seq (WL.seq (WL.reg ?_));refine OL.mv ?_;refine OL.nil (WL.condF rfl (WL.skip ?_));refine WL.seq (WL.seq (WL.reg ?_));(iterate 2 refine OL.mv ?_);by_cases c1:a<b
  ·refine OL.bT ?_;refine OL.nil (WL.condT rfl (WL.seq (WL.reg ?_)));refine OL.asg ?_;exact OL.nil (WL.ret ⟨fun id e=>(by cases e),[_],⟨rfl,rfl⟩,by unfold cmpI;rw[if_pos c1];rfl,rfl,rfl⟩)
  ·refine OL.bF ?_;refine OL.nil (WL.condF rfl (WL.skip ?_));refine WL.seq (WL.seq (WL.reg ?_));(iterate 2 refine OL.mv ?_);by_cases c2:b<a
   ·refine OL.bT ?_;refine OL.nil (WL.condT rfl (WL.seq (WL.reg ?_)));refine OL.asg ?_;exact OL.nil (WL.ret ⟨fun id e=>(by cases e),[_],⟨rfl,rfl⟩,by unfold cmpI;rw[if_neg c1,if_pos c2];rfl,rfl,rfl⟩)
   ·refine OL.bF ?_;refine OL.nil (WL.condF rfl (WL.skip ?_));refine WL.seq (WL.reg ?_);refine OL.asg ?_;exact OL.nil (WL.ret ⟨fun id e=>(by cases e),[_],⟨rfl,rfl⟩,by unfold cmpI;rw[if_neg c1,if_neg c2];rfl,rfl,rfl⟩)
 obtain⟨v,h',n',k1,rfl,rfl,rfl⟩:=key;exact k1
theorem or3_cl(a b c:Int)(p:Nat)(h:T Blk)(n:Nat)(hp:h.get p=some (.cells [.int .i64 a,.int .i64 b,.int .i64 c])):Cl (EE l) 116 [.slice (some ⟨p,0,none⟩) 3 3] h n (.ret (.int .i64 (if a=0 then (if b=0 then c else b) else a)) h n):=by
 have key:∃ v h' n',Cl (EE l) 116 [.slice (some ⟨p,0,none⟩) 3 3] h n (.ret v h' n')∧v= .int .i64 (if a=0 then (if b=0 then c else b) else a)∧h'=h∧n'=n:=by
  refine Cl.wl (many:=18) (memo_no hl (by decide)) rfl fk116 rfl rfl rfl rfl ?_;refine WL.seq (WL.reg ?_);refine OL.asg ?_;refine OL.nil (WL.seq (WL.reg ?_));refine OL.asg ?_;refine OL.nil (WL.seq (WL.seq (WL.reg ?_)));refine OL.mv ?_;refine OL.bi (lenA_slice ty150) ?_;refine OL.mv ?_;have hc:=cells_of hp;refine OL.nil (WL.block (WL.unroll (WL.seq (WL.reg ?_))));refine OL.bT ?_;refine OL.nil (WL.seq (WL.condT rfl (WL.skip ?_)));refine WL.seq (WL.block (WL.seq (WL.reg ?_)));refine OL.ix (idx_slice (b:=p) (o:=0) (len:=3) (cap:=3) (k:=0) ty150 ty3 (by omega)) ?_;refine OL.ld (load1 ty3 rfl hc rfl) ?_;refine OL.asg ?_;refine OL.nil (WL.seq (WL.reg ?_));(iterate 2 refine OL.mv ?_);by_cases ha:a=0
  ·subst ha;refine OL.nF (hp:=rfl) ?_;refine OL.nil (WL.condF rfl (WL.skip (WL.reg ?_)));refine OL.ad1 (a:=0) ?_;refine OL.mv ?_;refine OL.nil (WL.unroll (WL.seq (WL.reg ?_)));refine OL.bT ?_;refine OL.nil (WL.seq (WL.condT rfl (WL.skip ?_)));refine WL.seq (WL.block (WL.seq (WL.reg ?_)));refine OL.ix (idx_slice (b:=p) (o:=0) (len:=3) (cap:=3) (k:=1) ty150 ty3 (by omega)) ?_;refine OL.ld (load1 ty3 rfl hc rfl) ?_;refine OL.asg ?_;refine OL.nil (WL.seq (WL.reg ?_));(iterate 2 refine OL.mv ?_);by_cases hb:b=0
   ·subst hb;refine OL.nF (hp:=rfl) ?_;refine OL.nil (WL.condF rfl (WL.skip (WL.reg ?_)));refine OL.ad1 (a:=1) ?_;refine OL.mv ?_;refine OL.nil (WL.unroll (WL.seq (WL.reg ?_)));refine OL.bT ?_;refine OL.nil (WL.seq (WL.condT rfl (WL.skip ?_)));refine WL.seq (WL.block (WL.seq (WL.reg ?_)));refine OL.ix (idx_slice (b:=p) (o:=0) (len:=3) (cap:=3) (k:=2) ty150 ty3 (by omega)) ?_;refine OL.ld (load1 ty3 rfl hc rfl) ?_;refine OL.asg ?_;refine OL.nil (WL.seq (WL.reg ?_));(iterate 2 refine OL.mv ?_);by_cases hcz:c=0
    ·subst hcz;refine OL.nF (hp:=rfl) ?_;refine OL.nil (WL.condF rfl (WL.skip (WL.reg ?_)));refine OL.ad1 (a:=2) ?_;refine OL.mv ?_;refine OL.nil (WL.unroll (WL.seq (WL.reg ?_)));refine OL.bF ?_;refine OL.nil (WL.seq (WL.condF rfl (WL.exit ?_)));refine WL.seq (WL.reg ?_);refine OL.mv ?_;refine OL.asg ?_;exact OL.nil (WL.ret ⟨fun id e=>(by cases e),[_],⟨rfl,rfl⟩,rfl,rfl,rfl⟩)
    ·refine OL.nT ?_;refine OL.nil (WL.condT rfl (WL.seq (WL.reg ?_)));refine OL.mv ?_;refine OL.asg ?_;exact OL.nil (WL.ret ⟨fun id e=>(by cases e),[_],⟨rfl,rfl⟩,rfl,rfl,rfl⟩)
   ·refine OL.nT ?_;refine OL.nil (WL.condT rfl (WL.seq (WL.reg ?_)));refine OL.mv ?_;refine OL.asg ?_;exact OL.nil (WL.ret ⟨fun id e=>(by cases e),[_],⟨rfl,rfl⟩,by rw[if_pos rfl,if_neg hb];rfl,rfl,rfl⟩)
  ·refine OL.nT ?_;refine OL.nil (WL.condT rfl (WL.seq (WL.reg ?_)));refine OL.mv ?_;refine OL.asg ?_;exact OL.nil (WL.ret ⟨fun id e=>(by cases e),[_],⟨rfl,rfl⟩,by rw[if_neg ha];rfl,rfl,rfl⟩)
 obtain⟨v,h',n',k1,rfl,rfl,rfl⟩:=key;exact k1
end
abbrev featV(f:Ft):Value:= .agg ⟨[.string f.1,.int .i64 f.2.1,.int .i64 f.2.2]⟩
abbrev linkV(k:Lnk):Value:= .agg ⟨[.int .i64 k.1,.bool k.2]⟩
abbrev edgeL(e:Edg):List Value:=[.string e.1.1,.int .i64 e.1.2.1,.int .i64 e.1.2.2,.int .i64 e.2.1,.bool e.2.2]
abbrev edgeV(e:Edg):Value:= .agg ⟨edgeL e⟩
theorem build_ints(a b c:Int){l:List (FuncId×List (Ct×Value))}:buildSliceA (EE l) 150 3 [(0,.int .i64 a),(1,.int .i64 b),(2,.int .i64 c)]=some [.int .i64 a,.int .i64 b,.int .i64 c]:=by simp only[buildSliceA,ty150,tSl,ty3,tInt];rfl
theorem cmpF_or(x y:Ft):(if cmpS x.1 y.1=0 then (if cmpI x.2.1 y.2.1=0 then cmpI x.2.2 y.2.2 else cmpI x.2.1 y.2.1) else cmpS x.1 y.1)=cmpF x y:=rfl
theorem bytesEq_refl(s:List UInt8):bytesEq s s=true:=(bytesEq_iff s s).2 rfl
theorem sameI(x:Int):sameV 8 (.int .i64 x) (.int .i64 x)=true:=by simp[sameV,kindEq]
theorem sameB'(x:Bool):sameV 8 (.bool x) (.bool x)=true:=by simp[sameV]
theorem sameSt(s:ByteArray):sameV 8 (.string s) (.string s)=true:=bytesEq_refl _
theorem sameAgg{l:List Value}(h:sameV.sameL 7 l l=true):sameV 8 (.agg ⟨l⟩) (.agg ⟨l⟩)=true:=h
section
variable {l:List (FuncId×List (Ct×Value))}(hl:MemoK l)
include hl
theorem compare_cl(x y:Ft){h:T Blk}{n:Nat}(hf:Fresh h n):∃ h',Cl (EE l) 71 [featV x,featV y] h n (.ret (.int .i64 (cmpF x y)) h' (n+3))∧Keep n h h'∧Fresh h' (n+3):=by
 have key:∃ v h' n',Cl (EE l) 71 [featV x,featV y] h n (.ret v h' n')∧v= .int .i64 (cmpF x y)∧n'=n+3∧Keep n h h'∧Fresh h' (n+3):=by
  refine Cl.wl (many:=22) (memo_no hl (by decide)) rfl fk71 rfl rfl rfl rfl ?_;refine WL.seq (WL.reg ?_);refine OL.bx ?_;refine OL.bx ?_;refine OL.asg ?_;refine OL.nil ?_;refine WL.heap (fun H=>H.get n=some (.cells [.string x.1,.int .i64 x.2.1,.int .i64 x.2.2])∧H.get (n+1)=some (.cells [.string y.1,.int .i64 y.2.1,.int .i64 y.2.2])∧Fresh H (n+1+1)∧Keep n h H) ⟨?_,T.gsE _ _ _,(hf.upd _).upd _,((Keep.refl n h).upd (nlR _) _).upd (by omega) _⟩ ?_
  ·rw[T.gnE _ _ (by omega)];exact T.gsE _ _ _
  rintro H ⟨h1,h2,fH,kH⟩;refine WL.seq (WL.regG [(6,4),(8,4),(11,4),(13,4),(11,9),(13,9)] (by kernel_rfl) (by kernel_rfl) ?_);refine OG.fd fo40_0 ?_;refine OG.l1 ty9 ?_;refine OG.fd fo40_0 ?_;refine OG.l1 ty9 ?_;refine OG.cf fk117 (cmpS_cl hl _ _ _ _) ?_;refine OG.fd fo40_1 ?_;refine OG.l1 ty3 ?_;refine OG.fd fo40_1 ?_;refine OG.l1 ty3 ?_;refine OG.cf fk118 (cmpI_cl hl _ _ _ _) ?_;refine OG.fd fo40_2 ?_;refine OG.l1 ty3 ?_;refine OG.fd fo40_2 ?_;refine OG.l1 ty3 ?_;refine OG.cf fk118 (cmpI_cl hl _ _ _ _) ?_;refine OG.bs (build_ints _ _ _) ?_;refine OG.cf fk116 (or3_cl hl _ _ _ _ _ _ (T.gsE _ _ _)) ?_;refine OG.asg ?_;have c1:=cells_of h1;have c2:=cells_of h2
  refine OG.nil ⟨FlOK.cons rfl rfl (load1 ty3 rfl c1 rfl) (sameI _) (FlOK.cons rfl rfl (load1 ty3 rfl c2 rfl) (sameI _) (FlOK.cons rfl rfl (load1 ty3 rfl c1 rfl) (sameI _) (FlOK.cons rfl rfl (load1 ty3 rfl c2 rfl) (sameI _) (FlOK.cons rfl rfl (load1 ty3 rfl c1 rfl) (sameI _) (FlOK.cons rfl rfl (load1 ty3 rfl c2 rfl) (sameI _) FlOK.nil))))),?_⟩;exact WL.ret ⟨fun id e=>(by cases e),[_],⟨rfl,rfl⟩,rfl,rfl,kH.upd (by omega) _,fH.upd _⟩
 obtain⟨v,h',n',k1,rfl,rfl,k2,k3⟩:=key;exact⟨h',k1,k2,k3⟩
theorem cmpE_cl(e:Edg)(f:Ft){h:T Blk}{n:Nat}(hf:Fresh h n):∃ h' n',Cl (EE l) 70 [edgeV e,featV f] h n (.ret (.int .i64 (cmpF e.1 f)) h' n')∧Keep n h h'∧n≤n'∧Fresh h' n':=by
 have key:∃ v h' n',Cl (EE l) 70 [edgeV e,featV f] h n (.ret v h' n')∧v= .int .i64 (cmpF e.1 f)∧Keep n h h'∧n≤n'∧Fresh h' n':=by obtain⟨h',q1,q2,q3⟩:=compare_cl hl e.1 f (h:=(h.upd (some (.cells (edgeL e))) n).upd (some (.cells [.string f.1,.int .i64 f.2.1,.int .i64 f.2.2])) (n+1)) (n:=n+1+1) ((hf.upd _).upd _);refine Cl.wl (many:=9) (memo_no hl (by decide)) rfl fk70 rfl rfl rfl rfl ?_;refine WL.seq (WL.reg ?_);refine OL.bx ?_;refine OL.bx ?_;refine OL.asg ?_;refine OL.nil (WL.seq (WL.reg ?_));refine OL.fd fo51_0 ?_;refine OL.la ty40 ?_;refine OL.la ty40 ?_;refine OL.cf fk71 q1 ?_;refine OL.asg ?_;exact OL.nil (WL.ret ⟨fun id e=>(by cases e),[_],⟨rfl,rfl⟩,rfl,(((Keep.refl n h).upd (nlR _) _).upd (by omega) _).trans (by omega) q2,by omega,q3⟩)
 obtain⟨v,h',n',k1,rfl,k2⟩:=key;exact⟨h',n',k1,k2⟩
end
end Go.Sx
namespace Go.Sx
set_option maxRecDepth 100000
def OwnS(sz lo:Nat)(h:T Blk)(s:Value)(len:Nat)(cs:List Value):Prop :=
 (s= .slice none 0 0∧len=0∧cs=[])∨∃ b,lo≤b∧s= .slice (some ⟨b,0,none⟩) len (UNK * sz+len)∧h.get b=some (.cells cs)∧cs.length=len * sz
section
variable {E:Env}{st e:TypeId}{j:TyI}{sz lo n len xl:Nat}{h h':T Blk}{s x:Value}{cs new:List Value}
theorem OwnS.app(a:OwnS sz lo h s len cs):App sz lo h s len cs:=by
 rcases a with a|⟨b,h1,rfl,h2,h3⟩
 ·exact .inl a
 ·exact .inr ⟨b,0,_,cs,rfl,.inl rfl,h1,h2,by rw[←h3];exact seg_all cs⟩
theorem OwnS.blk(a:OwnS sz lo h s len cs){b:Nat}(hb:blkOf s=some b):lo≤b∧h.get b=some (.cells cs):=by
 rcases a with⟨rfl,_⟩|⟨b',h1,rfl,h2,h3⟩
 ·cases hb
 ·cases hb;exact⟨h1,h2⟩
theorem OwnS.keep(a:OwnS sz lo h s len cs)(hk:∀ b,blkOf s=some b→h'.get b=h.get b):OwnS sz lo h' s len cs:=by
 rcases a with a|⟨b,h1,rfl,h2,h3⟩
 ·exact .inl a
 ·exact .inr ⟨b,h1,rfl,by rw[hk b rfl];exact h2,h3⟩
theorem OwnS.append(el:ElT E st e j)(a:OwnS j.size lo h s len cs)(hf:Fresh h n)(hlo:lo≤n)(hx:∃ xb xc,x= .slice xb xl xc)(hr:rowA h j.size xl x=some new)(h0:0<xl)(hxl:xl≤1000000000)(hc:allCells new=true)(hl:len≤1000000000) :
 ∃ w h',appendA E st (some st) s x h n=some (w,h',n+1)∧Fresh h' (n+1)∧(∀ b,b<n→blkOf s≠some b→h'.get b=h.get b)∧blkOf w=some n∧OwnS j.size lo h' w (len+xl) (cs ++ new):=by
 obtain⟨w,h',q1,q2,q3,q4,q5,q6,q7⟩:=append_own el a.app hf hx hr h0 hxl hc hl;exact⟨w,h',q1,q2,q3,q4,.inr ⟨n,hlo,q6,q7,q5.csl⟩⟩
end
theorem Az.D.rows{Γ:List (List Az.CT)}{lim:Nat}{h:T Blk}{r q:Nat}{b:Option Addr}{len c:Nat}{cts:List Az.CT}(hd:Az.D Γ lim h r (.sl q) (.slice b len c))(hq:nth Γ q=some cts) :
 ∃ f,Az.sumF f (len * cts.length)+len≤r∧(len≠0→r≤lim)∧(len=0∨∃ d o cs,b=some ⟨d,o,none⟩∧h.get d=some (.ro cs)∧o+len * cts.length≤cs.length∧∀ i k x ct,i<len→k<cts.length→cs[o+i * cts.length+k]? =some x→nth cts k=some ct→Az.D Γ lim h (f (i * cts.length+k)) ct x):=by
 cases hd with
 | nil=>exact⟨fun _=>0,by rw[Nat.zero_mul];exact Nat.zero_le _,fun h=>absurd rfl h,.inl rfl⟩
 | @sl _ _ d o _ _ cs cts' f hb hq' hp ho hs hl hc =>
   rw[hq] at hq';cases hq';refine⟨f,hs,fun _=>hl,.inr ⟨d,o,cs,rfl,hb,ho,fun i k x ct hi hk hx hct=>?_⟩⟩;have h1:i * cts.length+k<len * cts.length:=by have:=Nat.mul_le_mul_right cts.length (show i+1≤len by omega);rw[Nat.succ_mul] at this;omega
   refine hc _ x ct h1 (by rw[nth_eq,← Nat.add_assoc];exact hx) ?_;rw[Nat.add_comm,Nat.add_mul_mod_self_right,Nat.mod_eq_of_lt hk];exact hct
def RowsS{α:Type}(k:Nat)(enc:α→List Value)(h:T Blk)(v:Value)(xs:List α):Prop :=
 ∃ eb c,v= .slice eb xs.length c∧(∀ a,eb=some a→a.spot=none∧∃ cs,cellsOf h a.block=some cs)∧∀ (i:Nat) (x:α),xs[i]? =some x→∃ b o cs,eb=some ⟨b,o,none⟩∧cellsOf h b=some cs∧seg cs (o+i * k) k=some (enc x)
section
variable {α:Type}{k:Nat}{enc:α→List Value}{h h':T Blk}{v:Value}{xs:List α}{E:Env}
theorem RowsS.len(r:RowsS k enc h v xs){ty e:TypeId}(hty:E.ty.get ty=some (tSl e)){H:T Blk}{n:Nat}:builtinA E .len [ty] [v] H n= .val (.int .i64 (xs.length:Int)) H n:=by obtain⟨eb,c,rfl,_,_⟩:=r;exact lenA_slice hty
theorem RowsS.mono(r:RowsS k enc h v xs)(hh:∀ b cs,cellsOf h b=some cs→cellsOf h' b=some cs):RowsS k enc h' v xs:=by obtain⟨eb,c,rfl,hb,hx⟩:=r;refine⟨eb,c,rfl,fun a ha=>by obtain⟨hs,cs,hc⟩:=hb a ha;exact⟨hs,cs,hh _ _ hc⟩,fun i x hi=>?_⟩;obtain⟨b,o,cs,h1,h2,h3⟩:=hx i x hi;exact⟨b,o,cs,h1,hh b cs h2,h3⟩
theorem RowsS.keep{n:Nat}(r:RowsS k enc h v xs)(hf:Fresh h n)(hk:Keep n h h'):RowsS k enc h' v xs:=r.mono fun _ _ hc=>hk.cells hf hc
theorem RowsS.at(r:RowsS k enc h v xs){ty e:TypeId}{j:TyI}(hty:E.ty.get ty=some (tSl e))(he:E.ty.get e=some j)(hj:j.size=k)(ha:isAgg j.d=true){i:Nat}{x:α}(hx:xs[i]? =some x) :
 ∃ b o,idxA E ty v (.int .i64 (i:Int))=some (.pointer (some ⟨b,o,none⟩))∧loadA E h e (.pointer (some ⟨b,o,none⟩))=some (.agg ⟨enc x⟩)∧∃ cs,cellsOf h b=some cs∧seg cs o k=some (enc x):=by
 obtain⟨eb,c,rfl,_,hr⟩:=r;obtain⟨b,o,cs,rfl,h1,h2⟩:=hr i x hx;refine⟨b,o+i * k,?_,loadN he ha h1 (by rw[hj];exact h2),cs,h1,h2⟩;have:=idx_slice (b:=b) (o:=o) (cap:=c) hty he (gsI hx).1;rw[hj] at this;exact this
theorem RowsS.at1{enc:α→Value}(r:RowsS 1 (fun x=>[enc x]) h v xs){ty e:TypeId}{j:TyI}(hty:E.ty.get ty=some (tSl e))(he:E.ty.get e=some j)(hj:j.size=1)(ha:isAgg j.d=false){i:Nat}{x:α}(hx:xs[i]? =some x) :
 ∃ b o,idxA E ty v (.int .i64 (i:Int))=some (.pointer (some ⟨b,o,none⟩))∧loadA E h e (.pointer (some ⟨b,o,none⟩))=some (enc x):=by
 obtain⟨eb,c,rfl,_,hr⟩:=r;obtain⟨b,o,cs,rfl,h1,h2⟩:=hr i x hx;refine⟨b,o+i * 1,?_,load1 he ha h1 ?_⟩
 ·have:=idx_slice (b:=b) (o:=o) (cap:=c) hty he (gsI hx).1;rw[hj] at this;exact this
 ·have:=seg_at h2 (i:=0) (by omega);simpa using this
theorem RowsS.bel{n m:Nat}(r:RowsS k enc h v xs)(hf:Fresh h n)(hm:n≤m):BelV m v:=by
 obtain⟨eb,c,rfl,hb,_⟩:=r;cases eb with
 | none=>trivial
 | some a =>
   obtain⟨_,cs,h1⟩:=hb a rfl;show a.block<m;have:a.block<n:=by apply Classical.byContradiction;intro hh;unfold cellsOf at h1;rw[hf _ (by omega)] at h1;cases h1
   omega
end
theorem BelV.one{n f:Nat}{v:Value}(h:BelV n v)(hs:∃ b l c,v= .slice b l c):belowV n f v=true:=by
 obtain⟨b,l,c,rfl⟩:=hs;cases b with
 | none=>cases f<;>rfl
 | some a=>cases f<;>(simp only[belowV,bltT];exact h)
theorem BelV.agg{n:Nat}{l:List Value}(h:∀ v∈l,BelV n v∧∃ b l c,v= .slice b l c):BelV n (.agg ⟨l⟩):=by
 have:∀ l:List Value,(∀ v∈l,BelV n v∧∃ b l c,v= .slice b l c)→belowV.belowL n 7 l=true:=by
  intro l
  induction l with
  | nil=>intro _;rfl
  | cons a l ih =>
    intro h;simp only[belowV.belowL,(h a (mcS ..)).1.one (h a (mcS ..)).2,ih fun v hv=>h v (mcM _ hv),Bool.and_self]
 exact this l h
end Go.Sx
namespace Go.Sx
open Go.Proofs
set_option maxRecDepth 100000
set_option maxHeartbeats 2000000
theorem half_v{l:List (FuncId×List (Ct×Value))}{s:Nat}(hs:s≤9223372036854775807):convA (EE l) 185 (.int .i64 (s:Int))=some (.int .u64 (s:Int))∧binA (EE l) .shr 185 true (.int .u64 (s:Int)) (.int .i64 1)=some (.int .u64 ((s / 2:Nat):Int))∧convA (EE l) 3 (.int .u64 ((s / 2:Nat):Int))=some (.int .i64 ((s / 2:Nat):Int)):=by
 refine⟨?_,?_,?_⟩
 ·simp only[convA,ty185,tK185];rw[IntWalk.u64_in _ ⟨by omega,by show(s:Int)≤18446744073709551615;omega⟩]
 ·show some (Value.int .u64 ((s:Int).fdiv (2 ^ min 1 IntKind.u64.bits)))=_;have:(2:Int) ^ min 1 IntKind.u64.bits=2:=by decide
  rw[this];have h2:(s:Int).fdiv 2=((s / 2:Nat):Int):=by rw[Int.fdiv_eq_ediv_of_nonneg _ (by omega)];omega
  rw[h2]
 ·simp only[convA,ty3,tInt];rw[IntWalk.i64_in _ ⟨by omega,by show((s / 2:Nat):Int)≤9223372036854775807;omega⟩]
section
variable {l:List (FuncId×List (Ct×Value))}(hl:MemoK l)
include hl
theorem search_cl{es:List Edg}{f:Ft}{v:Value}{h:T Blk}{n:Nat}(hf:Fresh h n)(hr:RowsS 5 edgeL h v es)(hs:SortedE es)(hlen:es.length≤1000000000) :
 ∃ i b h' n',Cl (EE l) 69 [v,featV f,.func (.func 70) #[] #[]] h n (.ret (.tuple ⟨[.int .i64 ((i:Nat):Int),.bool b]⟩) h' n')∧Keep n h h'∧n≤n'∧Fresh h' n'∧(b=true→∃ a,es[i]? =some a∧a.1=f∧∀ (k:Nat) (c:Edg),es[k]? =some c→c.1=f→c=a)∧(b=false→∀ (k:Nat) (c:Edg),es[k]? =some c→c.1≠f):=by
 have key:∃ r h' n',Cl (EE l) 69 [v,featV f,.func (.func 70) #[] #[]] h n (.ret r h' n')∧∃ (i:Nat) (b:Bool),r= .tuple ⟨[.int .i64 (i:Int),.bool b]⟩∧Keep n h h'∧n≤n'∧Fresh h' n'∧(b=true→∃ a,es[i]? =some a∧a.1=f∧∀ (k:Nat) (c:Edg),es[k]? =some c→c.1=f→c=a)∧(b=false→∀ (k:Nat) (c:Edg),es[k]? =some c→c.1≠f):=by
  have hfn:∀ k,0≤k→BelV k (.func (.func 70) #[] #[]):=fun k _=>⟨rfl,rfl⟩
  have hbv:∀ k,n≤k→BelV k v:=fun k hk=>hr.bel hf hk
  refine Cl.wl (many:=49) (memo_no hl (by decide)) rfl fk69 rfl rfl rfl rfl ?_;refine WL.seq (WL.reg ?_);refine OL.bx ?_;refine OL.asg ?_;refine OL.asg ?_;refine OL.nil (WL.seq (WL.reg ?_));refine OL.mv ?_;refine OL.bi (hr.len ty49) ?_;refine OL.asg ?_;refine OL.nil (WL.seq (WL.reg ?_));refine OL.mv ?_;refine OL.asg ?_;refine OL.asg ?_;refine OL.nil (WL.seq (WL.block ?_));refine WL.loop (k:=es.length) (fun m L H N=>∃ i j:Nat,i≤j∧j≤es.length∧m=j-i∧Sub [(9,.int .i64 (i:Int)),(10,.int .i64 (j:Int)),(8,.int .i64 (es.length:Int)),(4,ptrTo n),(2,.func (.func 70) #[] #[]),(0,v)] L∧Keep n h H∧n+1≤N∧Fresh H N∧H.get n=some (.cells [.string f.1,.int .i64 f.2.1,.int .i64 f.2.2]) ∧
   (∀ (k:Nat) (a:Edg),k<i→es[k]? =some a→cmpF a.1 f<0)∧(∀ (k:Nat) (a:Edg),j≤k→es[k]? =some a→¬ cmpF a.1 f<0)) ?_
   ⟨0,es.length,Nat.zero_le _,nlR _,rfl,(by repeat (first|exact Sub.nil|refine Sub.cons rfl ?_)),(Keep.refl n h).upd (nlR _) _,nlR _,hf.upd _,T.gsE _ _ _,fun k a hk=>absurd hk (Nat.not_lt_zero k),fun k a hk ha=>by have:=(gsI ha).1;omega⟩
  rintro m L H N ⟨i,j,hij,hj,rfl,hsub,hk,hN,hF,hn0,lo,hi⟩;refine WL.keep hsub ?_;have hbN:∀ k,N≤k→BelV k v:=fun k hk=>hbv k (by omega)
  refine WL.seq (WL.seq (WL.reg ?_));(iterate 2 refine OL.mv ?_);by_cases c1:(i:Int)<(j:Int)
  ·refine OL.bT ?_;refine OL.nil (WL.condT rfl (WL.skip ?_));obtain⟨e1,e2,e3⟩:=half_v (l:=l) (s:=i+j) (by omega);refine WL.block (WL.seq (WL.reg ?_));(iterate 2 refine OL.mv ?_);refine OL.ad ?_;refine OL.val (by first|rfl|exact WantL.yes rfl rfl rfl) (D.conv rfl ty3 rfl e1) rfl rfl ?_;refine OL.val (by first|rfl|exact WantL.yes rfl rfl rfl) (D.bin rfl rfl rfl e2) rfl rfl ?_;refine OL.val (by first|rfl|exact WantL.yes rfl rfl rfl) (D.conv rfl ty185 rfl e3) rfl rfl ?_;refine OL.asg ?_;have hh:(i+j) / 2<es.length:=by omega
   obtain⟨a,ha⟩:∃ a,es[(i+j) / 2]? =some a:=⟨_,ggE hh⟩
   obtain⟨b,o,q1,q2,cs,q3,_⟩:=(hr.keep hf hk).at (E:=EE l) ty49 ty51 rfl rfl ha;have hb:b<N:=by apply Classical.byContradiction;intro hh;unfold cellsOf at q3;rw[hF b (by omega)] at q3;cases q3
   obtain⟨h2,n2,g1,g2,g3,g4⟩:=cmpE_cl hl a f hF;refine OL.nil (WL.seq (WL.regD (by kernel_rfl) (by kernel_rfl) ?_));(iterate 3 refine OD.mv ?_);refine OD.ix q1 ?_;refine OD.ld q2 ?_;refine OD.la ty40 ?_;refine OD.cv fk70 g1 ?_;by_cases c2:cmpF a.1 f<0
   ·refine OD.bT ?_;refine OD.nil (WL.condT rfl (WL.reg ?_));refine OL.mv ?_;refine OL.ad1 ?_;refine OL.asg ?_;refine OL.nil ⟨j-((i+j) / 2+1),by omega,(i+j) / 2+1,j,by omega,hj,rfl,(by repeat (first|exact Sub.nil|refine Sub.cons rfl ?_)),hk.trans (by omega) g2,by omega,g4,by rw[g2 n (by omega)];exact hn0,fun k c hkk hc=>?_,hi⟩;rcases Nat.lt_or_ge k ((i+j) / 2) with h1|h1
    ·obtain⟨d,hd⟩:∃ d,(i+j) / 2=k+d+1:=⟨(i+j) / 2-k-1,by omega⟩
     rw[hd] at ha;exact cmpF_ok.trans _ _ _ (hs.lt d k hc ha) c2
    ·have:k=(i+j) / 2:=by omega
     subst this;rw[ha] at hc;cases hc;exact c2
   ·refine OD.bF ?_;refine OD.nil (WL.condF rfl (WL.reg ?_));refine OL.mv ?_;refine OL.asg ?_;refine OL.nil ⟨(i+j) / 2-i,by omega,i,(i+j) / 2,by omega,by omega,rfl,(by repeat (first|exact Sub.nil|refine Sub.cons rfl ?_)),hk.trans (by omega) g2,by omega,g4,by rw[g2 n (by omega)];exact hn0,lo,fun k c hkk hc hlt=>?_⟩;rcases Nat.lt_or_ge ((i+j) / 2) k with h1|h1
    ·obtain⟨d,rfl⟩:∃ d,k=(i+j) / 2+d+1:=⟨k-(i+j) / 2-1,by omega⟩
     exact c2 (cmpF_ok.trans _ _ _ (hs.lt d _ ha hc) hlt)
    ·have:k=(i+j) / 2:=by omega
     subst this;rw[ha] at hc;cases hc;exact c2 hlt
  ·have hij':j=i:=by omega
   subst hij';refine OL.bF ?_;refine OL.nil (WL.condF rfl (WL.exit ?_));obtain⟨f1,f2⟩:=search_found hs lo hi;refine WL.seq (WL.regD (by kernel_rfl) (by kernel_rfl) ?_);(iterate 3 refine OD.mv ?_);by_cases c2:(j:Int)<(es.length:Int)
   ·obtain⟨a,ha⟩:∃ a,es[j]? =some a:=⟨_,ggE (by omega)⟩
    obtain⟨b,o,q1,q2,cs,q3,_⟩:=(hr.keep hf hk).at (E:=EE l) ty49 ty51 rfl rfl ha;have hb:b<N:=by apply Classical.byContradiction;intro hh;unfold cellsOf at q3;rw[hF b (by omega)] at q3;cases q3
    obtain⟨h2,n2,g1,g2,g3,g4⟩:=cmpE_cl hl a f hF;refine OD.bT ?_;(iterate 4 refine OD.mv ?_);refine OD.ix q1 ?_;refine OD.ld q2 ?_;refine OD.la ty40 ?_;refine OD.cv fk70 g1 ?_;by_cases c3:cmpF a.1 f=0
    ·refine OD.bT ?_;refine OD.pT ?_;(iterate 2 refine OD.asg ?_);refine OD.nil (WL.ret ⟨fun id e=>(by cases e),[_,_],⟨rfl,rfl,rfl⟩,j,true,rfl,hk.trans (by omega) g2,by omega,g4,fun _=>⟨a,ha,f1 a ha c3⟩,fun e=>(by cases e)⟩)
    ·refine OD.bF ?_;refine OD.pT ?_;(iterate 2 refine OD.asg ?_);refine OD.nil (WL.ret ⟨fun id e=>(by cases e),[_,_],⟨rfl,rfl,rfl⟩,j,false,rfl,hk.trans (by omega) g2,by omega,g4,fun e=>(by cases e),fun _=>f2 fun c hc=>?_⟩);rw[ha] at hc;cases hc;exact c3
   ·refine OD.bF ?_;(iterate 12 (first|refine OD.mv ?_|refine OD.ps ?_|refine OD.pF ?_|refine OD.asg ?_));refine OD.nil (WL.ret ⟨fun id e=>(by cases e),[_,_],⟨rfl,rfl,rfl⟩,j,false,rfl,hk,by omega,hF,fun e=>(by cases e),fun _=>f2 fun c hc=>?_⟩);have:=(gsI hc).1;omega
 obtain⟨r,h',n',k1,i,b,rfl,k2⟩:=key;exact⟨i,b,h',n',k1,k2⟩
end
def NodesR(h:T Blk)(V:Value)(N:List (List Edg)):Prop :=
 ∃ vs:List Value,RowsS 1 (fun v=>[v]) h V vs∧vs.length=N.length∧∀ (i:Nat) (v:Value) (es:List Edg),vs[i]? =some v→N[i]? =some es→RowsS 5 edgeL h v es
theorem NodesR.mono{h h':T Blk}{V:Value}{N:List (List Edg)}(r:NodesR h V N)(hh:∀ b cs,cellsOf h b=some cs→cellsOf h' b=some cs):NodesR h' V N:=by obtain⟨vs,r1,r2,r3⟩:=r;exact⟨vs,r1.mono hh,r2,fun i v es hv he=>(r3 i v es hv he).mono hh⟩
theorem NodesR.keep{h h':T Blk}{n:Nat}{V:Value}{N:List (List Edg)}(r:NodesR h V N)(hf:Fresh h n)(hk:Keep n h h'):NodesR h' V N:=r.mono fun _ _ hc=>hk.cells hf hc
theorem NodesR.at{E:Env}{h:T Blk}{V:Value}{N:List (List Edg)}(r:NodesR h V N)(h28:E.ty.get 28=some (tSl 49))(h49:E.ty.get 49=some (tSl 51)){i:Nat}{es:List Edg}(hi:N[i]? =some es) :
 ∃ b o v,idxA E 28 V (.int .i64 (i:Int))=some (.pointer (some ⟨b,o,none⟩))∧loadA E h 49 (.pointer (some ⟨b,o,none⟩))=some v∧RowsS 5 edgeL h v es:=by
 obtain⟨vs,r1,r2,r3⟩:=r;have hlt:=(gsI hi).1;obtain⟨v,hv⟩:∃ v,vs[i]? =some v:=⟨_,ggE (by omega)⟩
 obtain⟨b,o,q1,q2⟩:=RowsS.at1 (enc:=fun v=>v) r1 h28 h49 rfl rfl hv;exact⟨b,o,v,q1,q2,r3 i v es hv hi⟩
theorem seg5_to{cs:List Value}{o:Nat}{e:Edg}(h:seg cs o 5=some (edgeL e)):seg cs (o+3) 2=some [.int .i64 e.2.1,.bool e.2.2]:=by have:=seg_sub (k:=3) (m:=2) h (by omega);exact this
theorem neqB{l:List (FuncId×List (Ct×Value))}(a b:Bool){c:Bool}:binA (EE l) .neq 4 c (.bool a) (.bool b)=some (.bool (xor a b)):=by show(match eqA (EE l) 4 c (.bool a) (.bool b) with|some b=>some (Value.bool (!b))|none=>none)=_;simp only[eqA,ty4,tBool];cases a<;>cases b<;>rfl
section
variable {l:List (FuncId×List (Ct×Value))}(hl:MemoK l)
include hl
theorem turned_cl(k:Lnk)(b:Bool){h:T Blk}{n:Nat}(hf:Fresh h n):∃ h' n',Cl (EE l) 72 [linkV k,.bool b] h n (.ret (linkV (k.1,xor k.2 b)) h' n')∧Keep n h h'∧n≤n'∧Fresh h' n':=by
 have key:∃ v h' n',Cl (EE l) 72 [linkV k,.bool b] h n (.ret v h' n')∧v=linkV (k.1,xor k.2 b)∧Keep n h h'∧n≤n'∧Fresh h' n':=by
  refine Cl.wl (many:=11) (memo_no hl (by decide)) rfl fk72 rfl rfl rfl rfl ?_;refine WL.seq (WL.reg ?_);refine OL.bx ?_;refine OL.al ty43 ?_;refine OL.nil ?_;refine WL.heap (fun H=>H.get n=some (.cells [.int .i64 k.1,.bool k.2])∧H.get (n+1)=some (.cells [.int .i64 0,.bool false])∧Fresh H (n+1+1)∧Keep n h H) ⟨?_,T.gsE _ _ _,(hf.upd _).upd _,((Keep.refl n h).upd (nlR _) _).upd (by omega) _⟩ ?_
  ·rw[T.gnE _ _ (by omega)];exact T.gsE _ _ _
  rintro H ⟨h1,h2,fH,kH⟩;refine WL.seq (WL.reg ?_);refine OL.fd fo43_1 ?_;refine OL.l1 ty4 ?_;refine OL.mv ?_;refine OL.val (by first|rfl|exact WantL.yes rfl rfl rfl) (D.bin rfl rfl rfl (neqB k.2 b)) rfl rfl ?_;refine OL.fd fo43_1 ?_;refine OL.st (store1 (o:=1) ty4 rfl h1 rfl (Nat.lt_succ_self 1)) ?_;refine OL.nil (WL.seq (WL.reg ?_));refine OL.la ty43 ?_;refine OL.sn (b:=n+1) (old:=[.int .i64 0,.bool false]) ty43 (by rw[T.gnE _ _ (by omega)];exact h2) ?_;refine OL.nil (WL.ret ⟨fun id e=>(by cases e),[_],⟨_,rfl,loadN ty43 rfl (cells_of (T.gsE _ _ _)) rfl,rfl⟩,rfl,(kH.upd (nlR _) _).upd (by omega) _,by omega,(fH.set (by omega) _).set (by omega) _⟩)
 obtain⟨v,h',n',k1,rfl,k2⟩:=key;exact⟨h',n',k1,k2⟩
theorem part_cl{N:List (List Edg)}{V A Q U:Value}{k:Lnk}{i:Nat}{es:List Edg}{f:Ft}{p:Nat}{h:T Blk}{n:Nat}(hf:Fresh h n)(hp:h.get p=some (.cells [V,A,Q,U]))(hN:NodesR h V N)(hki:k.1=(i:Int))(hi:N[i]? =some es)(hs:SortedE es)(hlen:es.length≤1000000000) :
 ∃ h' n',Cl (EE l) 68 [linkV k,featV f,ptrTo p] h n (.ret (linkV (partL es k f)) h' n')∧Keep n h h'∧n≤n'∧Fresh h' n':=by
 have key:∃ v h' n',Cl (EE l) 68 [linkV k,featV f,ptrTo p] h n (.ret v h' n')∧v=linkV (partL es k f)∧Keep n h h'∧n≤n'∧Fresh h' n':=by
  obtain⟨ki,kf⟩:=k;have hki:ki=(i:Int):=hki;subst hki;have hpn:=hf.lt hp;refine Cl.wl (many:=35) (memo_no hl (by decide)) rfl fk68 rfl rfl rfl rfl ?_;refine WL.seq (WL.reg ?_);(iterate 2 refine OL.bx ?_);refine OL.al ty43 ?_;refine OL.nil ?_;refine WL.heap (fun H=>H.get n=some (.cells [.int .i64 (i:Int),.bool kf])∧H.get (n+1)=some (.cells [.string f.1,.int .i64 f.2.1,.int .i64 f.2.2])∧H.get (n+1+1)=some (.cells [.int .i64 0,.bool false])∧Fresh H (n+1+1+1)∧Keep n h H) ⟨?_,?_,T.gsE _ _ _,((hf.upd _).upd _).upd _,(((Keep.refl n h).upd (nlR _) _).upd (by omega) _).upd (by omega) _⟩ ?_
  ·rw[T.gnE _ _ (by omega),T.gnE _ _ (by omega)];exact T.gsE _ _ _
  ·rw[T.gnE _ _ (by omega)];exact T.gsE _ _ _
  rintro H ⟨h1,h2,h3,fH,kH⟩;have hpH:H.get p=some (.cells [V,A,Q,U]):=by rw[kH p hpn];exact hp
  have NH:=hN.keep hf kH;obtain⟨b,o,v,q1,q2,q3⟩:=NH.at (E:=EE l) ty28 ty49 hi;have hbV:∀ k,n+1+1+1≤k→BelV k V:=by obtain⟨vs,r1,_⟩:=NH;exact fun k hk=>r1.bel fH hk
  have hbv:∀ k,n+1+1+1≤k→BelV k v:=fun k hk=>q3.bel fH hk
  have hb:b<n+1+1+1:=by
   apply Classical.byContradiction;intro hh;have hc:cellsOf H b=none:=by unfold cellsOf;rw[fH b (by omega)]
   simp only[loadA,ty49,hc] at q2;cases q2
  have hfn:∀ k,0≤k→BelV k (.func (.func 70) #[] #[]):=fun k _=>⟨rfl,rfl⟩
  obtain⟨j,found,H2,n2,g1,g2,g3,g4,g5,g6⟩:=search_cl hl (f:=f) fH q3 hs hlen;refine WL.seq (WL.regD (by kernel_rfl) (by kernel_rfl) ?_);refine OD.fd fo33_0 ?_;refine OD.l1 ty28 ?_;refine OD.fd fo43_0 ?_;refine OD.l1 ty3 ?_;refine OD.ix q1 ?_;refine OD.ld q2 ?_;refine OD.la ty40 ?_;refine OD.cf fk69 g1 ?_;(iterate 5 (first|refine OD.mv ?_|refine OD.ext ?_|refine OD.asg ?_));refine OD.nil ?_;have z1:H2.get n=some (.cells [.int .i64 (i:Int),.bool kf]):=by rw[g2 n (by omega)];exact h1
  have z3:H2.get (n+1+1)=some (.cells [.int .i64 0,.bool false]):=by rw[g2 _ (by omega)];exact h3
  have zp:H2.get p=some (.cells [V,A,Q,U]):=by rw[g2 p (by omega)];exact hpH
  have kH2:Keep n h H2:=kH.trans (by omega) g2;refine WL.seq (WL.seq (WL.reg ?_));refine OL.mv ?_;cases found with
  | false =>
    refine OL.un ?_;refine OL.nil (WL.condT rfl (WL.seq (WL.reg ?_)));refine OL.la ty43 ?_;refine OL.sn ty43 z3 ?_;refine OL.nil (WL.ret ⟨fun id e=>(by cases e),[_],⟨_,rfl,loadN ty43 rfl (cells_of (T.gsE _ _ _)) rfl,rfl⟩,?_,kH2.upd (by omega) _,by omega,g4.set (by omega) _⟩);rw[partL_none (g6 rfl)];rfl
  | true =>
    obtain⟨a,ha,hfa,hu⟩:=g5 rfl;refine OL.un ?_;refine OL.nil (WL.condF rfl (WL.skip ?_));obtain⟨b2,o2,u1,u2,cs2,u3,u4⟩:=(q3.keep fH g2).at (E:=EE l) ty49 ty51 rfl rfl ha;have hb2:b2<n2:=by apply Classical.byContradiction;intro hh;unfold cellsOf at u3;rw[g4 b2 (by omega)] at u3;cases u3
    obtain⟨H3,n3,w1,w2,w3,w4⟩:=turned_cl hl (a.2.1,a.2.2) kf g4;have q2':loadA (EE l) H2 49 (.pointer (some ⟨b,o,none⟩))=some v:=by
     have hc:cellsOf H2 b=cellsOf H b:=by unfold cellsOf;rw[g2 b hb]
     simp only[loadA,hc] at q2 ⊢;exact q2
    have hbV2:∀ k,n2≤k→BelV k V:=fun k hk=>hbV k (by omega)
    have hbv2:∀ k,n2≤k→BelV k v:=fun k hk=>hbv k (by omega)
    refine WL.seq (WL.regD (by kernel_rfl) (by kernel_rfl) ?_);refine OD.fd fo33_0 ?_;refine OD.l1 ty28 ?_;refine OD.fd fo43_0 ?_;refine OD.l1 ty3 ?_;refine OD.ix q1 ?_;refine OD.ld q2' ?_;refine OD.mv ?_;refine OD.ix u1 ?_;refine OD.fd fo51_1 ?_;refine OD.ld (loadN ty43 rfl u3 (seg5_to u4)) ?_;refine OD.fd fo43_1 ?_;refine OD.l1 ty4 ?_;refine OD.cf fk72 w1 ?_;refine OD.st (storeN (b:=n+1+1) (o:=0) (old:=[.int .i64 0,.bool false]) (new:=[.int .i64 a.2.1,.bool (xor a.2.2 kf)]) ty43 (by rw[w2 _ (by omega)];exact z3) rfl rfl rfl) ?_;refine OD.nil (WL.ret ⟨fun id e=>(by cases e),[_],⟨_,rfl,loadN ty43 rfl (cells_of (T.gsE _ _ _)) rfl,rfl⟩,?_,(kH2.trans (by omega) w2).upd (by omega) _,by omega,w4.set (by omega) _⟩);rw[partL_some ha hfa hu];rfl
 obtain⟨v,h',n',k1,rfl,k2⟩:=key;exact⟨h',n',k1,k2⟩
theorem parts_cl(V A Q U:Value)(h:T Blk)(n:Nat):Cl (EE l) 38 [.agg ⟨[V,A,Q,U]⟩] h n (.ret (.func (.func 68) ⟨[]⟩ ⟨[ptrTo n]⟩) (h.upd (some (.cells [V,A,Q,U])) n) (n+1)):=by
 have key:∃ v h' n',Cl (EE l) 38 [.agg ⟨[V,A,Q,U]⟩] h n (.ret v h' n')∧v= .func (.func 68) ⟨[]⟩ ⟨[ptrTo n]⟩∧h'=h.upd (some (.cells [V,A,Q,U])) n∧n'=n+1:=by refine Cl.wl (many:=4) (memo_no hl (by decide)) rfl fk38 rfl rfl rfl rfl ?_;refine WL.seq (WL.reg ?_);refine OL.bx ?_;refine OL.asg ?_;refine OL.nil (WL.seq (WL.reg ?_));refine OL.val (by first|rfl|exact WantL.yes rfl rfl rfl) (D.makeFunc rfl rfl rfl) rfl rfl ?_;refine OL.asg ?_;exact OL.nil (WL.ret ⟨fun id e=>(by cases e),[_],⟨rfl,rfl⟩,rfl,rfl,rfl⟩)
 obtain⟨v,h',n',k1,rfl,rfl,rfl⟩:=key;exact k1
end
abbrev linkL(k:Lnk):List Value:=[.int .i64 k.1,.bool k.2]
abbrev featL(f:Ft):List Value:=[.string f.1,.int .i64 f.2.1,.int .i64 f.2.2]
section
variable {l:List (FuncId×List (Ct×Value))}(hl:MemoK l)
include hl
theorem idx96_cl{xs:List Lnk}{p:Lnk→Bool}{v:Value}{g:FuncId}{cs:List Value}{fn:Func}{h:T Blk}{n:Nat}(hg:(EE l).fn.get g=some fn)(hf:Fresh h n)(hr:RowsS 2 linkL h v xs)(hlen:xs.length≤1000000000)
 (hc:∀ x∈xs,∀ H N,n≤N→Fresh H N→Keep n h H→∃ h' n',Cl (EE l) g (.agg ⟨linkL x⟩ :: cs) H N (.ret (.bool (p x)) h' n')∧Keep N H h'∧N≤n'∧Fresh h' n') :
 ∃ r h' n',Cl (EE l) 96 [v,.func (.func g) ⟨[]⟩ ⟨cs⟩] h n (.ret (.int .i64 r) h' n')∧Keep n h h'∧n≤n'∧Fresh h' n'∧(xs.any p=true→0≤r)∧(xs.any p=false→r<0):=by
 have key:∃ w h' n',Cl (EE l) 96 [v,.func (.func g) ⟨[]⟩ ⟨cs⟩] h n (.ret w h' n')∧∃ r,w= .int .i64 r∧Keep n h h'∧n≤n'∧Fresh h' n'∧(xs.any p=true→0≤r)∧(xs.any p=false→r<0):=by
  refine Cl.wl (many:=19) (memo_no hl (by decide)) rfl fk96 rfl rfl rfl rfl ?_;refine WL.seq (WL.reg ?_);refine OL.asg ?_;refine OL.nil (WL.seq (WL.seq (WL.reg ?_)));refine OL.mv ?_;refine OL.bi (hr.len ty31) ?_;refine OL.mv ?_;refine OL.nil (WL.block ?_);refine WL.loop (k:=xs.length) (fun m L H N=>∃ i:Nat,i≤xs.length∧m=xs.length-i∧Sub [(8,.int .i64 (i:Int)),(7,.int .i64 (xs.length:Int)),(1,.func (.func g) ⟨[]⟩ ⟨cs⟩),(0,v)] L∧Keep n h H∧n≤N∧Fresh H N∧∀ (j:Nat) (y:Lnk),j<i→xs[j]? =some y→p y=false) ?_
   ⟨0,Nat.zero_le _,rfl,(by repeat (first|exact Sub.nil|refine Sub.cons rfl ?_)),Keep.refl n h,nlR _,hf,fun j y hj=>absurd hj (Nat.not_lt_zero j)⟩
  rintro m L H N ⟨i,hi,rfl,hs,hk,hn,hF,hno⟩;refine WL.keep hs ?_;refine WL.seq (WL.reg ?_);by_cases c1:(i:Int)<(xs.length:Int)
  ·obtain⟨x,hx⟩:∃ x,xs[i]? =some x:=⟨_,ggE (by omega)⟩
   obtain⟨b,o,q1,q2,_⟩:=(hr.keep hf hk).at (E:=EE l) ty31 ty43 rfl rfl hx;obtain⟨h2,n2,g1,g2,g3,g4⟩:=hc x (List.mem_of_getElem? hx) H N hn hF hk;refine OL.bT ?_;refine OL.nil (WL.seq (WL.condT rfl (WL.skip ?_)));refine WL.seq (WL.block (WL.seq (WL.reg ?_)));refine OL.mv ?_;refine OL.asg ?_;refine OL.nil (WL.seq (WL.reg ?_));(iterate 3 refine OL.mv ?_);refine OL.ix q1 ?_;refine OL.ld q2 ?_;refine OL.cv hg g1 ?_;cases hp:p x with
   | true =>
     refine OL.nil (WL.condT rfl (WL.seq (WL.reg ?_)));refine OL.mv ?_;refine OL.asg ?_;exact OL.nil (WL.ret ⟨fun id e=>(by cases e),[_],⟨rfl,rfl⟩,_,rfl,hk.trans hn g2,by omega,g4,fun _=>by omega,fun e=>by rw[List.any_eq_true.2 ⟨x,List.mem_of_getElem? hx,hp⟩] at e;cases e⟩)
   | false =>
     refine OL.nil (WL.condF rfl (WL.skip (WL.reg ?_)));refine OL.ad1 ?_;refine OL.mv ?_;refine OL.nil ⟨xs.length-(i+1),by omega,i+1,by omega,rfl,(by repeat (first|exact Sub.nil|refine Sub.cons rfl ?_)),hk.trans hn g2,by omega,g4,fun j y hj hy=>?_⟩;rcases Nat.lt_or_ge j i with h1|h1
     ·exact hno j y h1 hy
     ·have:j=i:=by omega
      subst this;rw[hx] at hy;cases hy;exact hp
  ·refine OL.bF ?_;refine OL.nil (WL.seq (WL.condF rfl (WL.exit ?_)));refine WL.seq (WL.reg ?_);refine OL.asg ?_;refine OL.nil (WL.ret ⟨fun id e=>(by cases e),[_],⟨rfl,rfl⟩,_,rfl,hk,hn,hF,fun e=>?_,fun _=>by omega⟩);obtain⟨x,hx,hp⟩:=List.any_eq_true.1 e;obtain⟨j,hj⟩:=List.getElem?_of_mem hx;rw[hno j x (by have:=(gsI hj).1;omega) hj] at hp;cases hp
 obtain⟨w,h',n',k1,r,rfl,k2⟩:=key;exact⟨r,h',n',k1,k2⟩
theorem con49_cl{xs:List Lnk}{p:Lnk→Bool}{v:Value}{g:FuncId}{cs:List Value}{fn:Func}{h:T Blk}{n:Nat}(hg:(EE l).fn.get g=some fn)(hf:Fresh h n)(hr:RowsS 2 linkL h v xs)(hlen:xs.length≤1000000000)
 (hc:∀ x∈xs,∀ H N,n≤N→Fresh H N→Keep n h H→∃ h' n',Cl (EE l) g (.agg ⟨linkL x⟩ :: cs) H N (.ret (.bool (p x)) h' n')∧Keep N H h'∧N≤n'∧Fresh h' n') :
 ∃ h' n',Cl (EE l) 49 [v,.func (.func g) ⟨[]⟩ ⟨cs⟩] h n (.ret (.bool (xs.any p)) h' n')∧Keep n h h'∧n≤n'∧Fresh h' n':=by
 have key:∃ w h' n',Cl (EE l) 49 [v,.func (.func g) ⟨[]⟩ ⟨cs⟩] h n (.ret w h' n')∧w= .bool (xs.any p)∧Keep n h h'∧n≤n'∧Fresh h' n':=by
  obtain⟨r,h',n',q1,q2,q3,q4,q5,q6⟩:=idx96_cl hl hg hf hr hlen hc;refine Cl.wl (many:=9) (memo_no hl (by decide)) rfl fk49 rfl rfl rfl rfl ?_;refine WL.seq (WL.reg ?_);refine OL.asg ?_;refine OL.nil (WL.seq (WL.reg ?_));(iterate 2 refine OL.mv ?_);refine OL.cf fk96 q1 ?_;cases ha:xs.any p with
  | true =>
    have:=q5 ha;refine OL.bT ?_;refine OL.asg ?_;exact OL.nil (WL.ret ⟨fun id e=>(by cases e),[_],⟨rfl,rfl⟩,rfl,q2,q3,q4⟩)
  | false =>
    have:=q6 ha;refine OL.bF ?_;refine OL.asg ?_;exact OL.nil (WL.ret ⟨fun id e=>(by cases e),[_],⟨rfl,rfl⟩,rfl,q2,q3,q4⟩)
 obtain⟨w,h',n',k1,rfl,k2⟩:=key;exact⟨h',n',k1,k2⟩
theorem idx35_cl{xs:List Ft}{p:Ft→Bool}{v:Value}{g:FuncId}{cs:List Value}{fn:Func}{h:T Blk}{n:Nat}(hg:(EE l).fn.get g=some fn)(hf:Fresh h n)(hr:RowsS 3 featL h v xs)(hlen:xs.length≤1000000000)
 (hc:∀ x∈xs,∀ H N,n≤N→Fresh H N→Keep n h H→∃ h' n',Cl (EE l) g (.agg ⟨featL x⟩ :: cs) H N (.ret (.bool (p x)) h' n')∧Keep N H h'∧N≤n'∧Fresh h' n') :
 ∃ r h' n',Cl (EE l) 35 [v,.func (.func g) ⟨[]⟩ ⟨cs⟩] h n (.ret (.int .i64 r) h' n')∧Keep n h h'∧n≤n'∧Fresh h' n'∧(xs.any p=true→0≤r)∧(xs.any p=false→r<0):=by
 have key:∃ w h' n',Cl (EE l) 35 [v,.func (.func g) ⟨[]⟩ ⟨cs⟩] h n (.ret w h' n')∧∃ r,w= .int .i64 r∧Keep n h h'∧n≤n'∧Fresh h' n'∧(xs.any p=true→0≤r)∧(xs.any p=false→r<0):=by
  refine Cl.wl (many:=19) (memo_no hl (by decide)) rfl fk35 rfl rfl rfl rfl ?_;refine WL.seq (WL.reg ?_);refine OL.asg ?_;refine OL.nil (WL.seq (WL.seq (WL.reg ?_)));refine OL.mv ?_;refine OL.bi (hr.len ty34) ?_;refine OL.mv ?_;refine OL.nil (WL.block ?_);refine WL.loop (k:=xs.length) (fun m L H N=>∃ i:Nat,i≤xs.length∧m=xs.length-i∧Sub [(8,.int .i64 (i:Int)),(7,.int .i64 (xs.length:Int)),(1,.func (.func g) ⟨[]⟩ ⟨cs⟩),(0,v)] L∧Keep n h H∧n≤N∧Fresh H N∧∀ (j:Nat) (y:Ft),j<i→xs[j]? =some y→p y=false) ?_
   ⟨0,Nat.zero_le _,rfl,(by repeat (first|exact Sub.nil|refine Sub.cons rfl ?_)),Keep.refl n h,nlR _,hf,fun j y hj=>absurd hj (Nat.not_lt_zero j)⟩
  rintro m L H N ⟨i,hi,rfl,hs,hk,hn,hF,hno⟩;refine WL.keep hs ?_;refine WL.seq (WL.reg ?_);by_cases c1:(i:Int)<(xs.length:Int)
  ·obtain⟨x,hx⟩:∃ x,xs[i]? =some x:=⟨_,ggE (by omega)⟩
   obtain⟨b,o,q1,q2,_⟩:=(hr.keep hf hk).at (E:=EE l) ty34 ty40 rfl rfl hx;obtain⟨h2,n2,g1,g2,g3,g4⟩:=hc x (List.mem_of_getElem? hx) H N hn hF hk;refine OL.bT ?_;refine OL.nil (WL.seq (WL.condT rfl (WL.skip ?_)));refine WL.seq (WL.block (WL.seq (WL.reg ?_)));refine OL.mv ?_;refine OL.asg ?_;refine OL.nil (WL.seq (WL.reg ?_));(iterate 3 refine OL.mv ?_);refine OL.ix q1 ?_;refine OL.ld q2 ?_;refine OL.cv hg g1 ?_;cases hp:p x with
   | true =>
     refine OL.nil (WL.condT rfl (WL.seq (WL.reg ?_)));refine OL.mv ?_;refine OL.asg ?_;exact OL.nil (WL.ret ⟨fun id e=>(by cases e),[_],⟨rfl,rfl⟩,_,rfl,hk.trans hn g2,by omega,g4,fun _=>by omega,fun e=>by rw[List.any_eq_true.2 ⟨x,List.mem_of_getElem? hx,hp⟩] at e;cases e⟩)
   | false =>
     refine OL.nil (WL.condF rfl (WL.skip (WL.reg ?_)));refine OL.ad1 ?_;refine OL.mv ?_;refine OL.nil ⟨xs.length-(i+1),by omega,i+1,by omega,rfl,(by repeat (first|exact Sub.nil|refine Sub.cons rfl ?_)),hk.trans hn g2,by omega,g4,fun j y hj hy=>?_⟩;rcases Nat.lt_or_ge j i with h1|h1
     ·exact hno j y h1 hy
     ·have:j=i:=by omega
      subst this;rw[hx] at hy;cases hy;exact hp
  ·refine OL.bF ?_;refine OL.nil (WL.seq (WL.condF rfl (WL.exit ?_)));refine WL.seq (WL.reg ?_);refine OL.asg ?_;refine OL.nil (WL.ret ⟨fun id e=>(by cases e),[_],⟨rfl,rfl⟩,_,rfl,hk,hn,hF,fun e=>?_,fun _=>by omega⟩);obtain⟨x,hx,hp⟩:=List.any_eq_true.1 e;obtain⟨j,hj⟩:=List.getElem?_of_mem hx;rw[hno j x (by have:=(gsI hj).1;omega) hj] at hp;cases hp
 obtain⟨w,h',n',k1,r,rfl,k2⟩:=key;exact⟨r,h',n',k1,k2⟩
theorem con8_cl{xs:List Ft}{p:Ft→Bool}{v:Value}{g:FuncId}{cs:List Value}{fn:Func}{h:T Blk}{n:Nat}(hg:(EE l).fn.get g=some fn)(hf:Fresh h n)(hr:RowsS 3 featL h v xs)(hlen:xs.length≤1000000000)
 (hc:∀ x∈xs,∀ H N,n≤N→Fresh H N→Keep n h H→∃ h' n',Cl (EE l) g (.agg ⟨featL x⟩ :: cs) H N (.ret (.bool (p x)) h' n')∧Keep N H h'∧N≤n'∧Fresh h' n') :
 ∃ h' n',Cl (EE l) 8 [v,.func (.func g) ⟨[]⟩ ⟨cs⟩] h n (.ret (.bool (xs.any p)) h' n')∧Keep n h h'∧n≤n'∧Fresh h' n':=by
 have key:∃ w h' n',Cl (EE l) 8 [v,.func (.func g) ⟨[]⟩ ⟨cs⟩] h n (.ret w h' n')∧w= .bool (xs.any p)∧Keep n h h'∧n≤n'∧Fresh h' n':=by
  obtain⟨r,h',n',q1,q2,q3,q4,q5,q6⟩:=idx35_cl hl hg hf hr hlen hc;refine Cl.wl (many:=9) (memo_no hl (by decide)) rfl fk8 rfl rfl rfl rfl ?_;refine WL.seq (WL.reg ?_);refine OL.asg ?_;refine OL.nil (WL.seq (WL.reg ?_));(iterate 2 refine OL.mv ?_);refine OL.cf fk35 q1 ?_;cases ha:xs.any p with
  | true =>
    have:=q5 ha;refine OL.bT ?_;refine OL.asg ?_;exact OL.nil (WL.ret ⟨fun id e=>(by cases e),[_],⟨rfl,rfl⟩,rfl,q2,q3,q4⟩)
  | false =>
    have:=q6 ha;refine OL.bF ?_;refine OL.asg ?_;exact OL.nil (WL.ret ⟨fun id e=>(by cases e),[_],⟨rfl,rfl⟩,rfl,q2,q3,q4⟩)
 obtain⟨w,h',n',k1,rfl,k2⟩:=key;exact⟨h',n',k1,k2⟩
end
end Go.Sx
namespace Go.Sx
set_option maxRecDepth 100000
theorem over_of{α:Type}:∀ (m l:List α),m.length≤l.length→over l m=some (m ++ l.drop m.length)
 | [],l,_=>by cases l<;>rfl
 | b :: m,[],h=>by simp at h
 | b :: m,a :: l,h=>by simp only[over,over_of m l (by simpa using h)];simp
theorem overAt_of{α:Type}(m:List α):∀ {l:List α}{o:Nat},o+m.length≤l.length→overAt m l o=some (l.take o ++ m ++ l.drop (o+m.length))
 | [],o,h=>by
   have h1:o=0:=by rw[List.length_nil] at h;omega
   have h2:m=[]:=List.eq_nil_of_length_eq_zero (by rw[List.length_nil] at h;omega);subst h1;subst h2;rfl
 | a :: l,0,h=>by simp only[overAt,Nat.beq_refl,cond_true,over_of m (a :: l) (by simpa using h)];simp
 | a :: l,o+1,h=>by have e:Nat.beq (o+1) 0=false:=rfl;simp only[overAt,e,cond_false,Nat.add_sub_cancel,overAt_of m (l:=l) (o:=o) (by rw[List.length_cons] at h;omega)];simp[Nat.add_right_comm]
def OwnW(sz lo:Nat)(h:T Blk)(s:Value)(len:Nat)(cs:List Value):Prop :=
 (s= .slice none 0 0∧len=0∧cs=[])∨∃ b W all,lo≤b∧s= .slice (some ⟨b,0,none⟩) len (UNK * sz+W)∧h.get b=some (.cells all)∧all.length=W * sz∧len≤W∧W≤4000000000∧all.take (len * sz)=cs
section
variable {E:Env}{st e:TypeId}{j:TyI}{sz lo n len xl:Nat}{h h':T Blk}{s x:Value}{cs new:List Value}
theorem OwnW.csl(a:OwnW sz lo h s len cs):cs.length=len * sz:=by
 rcases a with⟨_,rfl,rfl⟩|⟨b,W,all,_,_,_,h4,h5,_,rfl⟩
 ·simp
 ·rw[List.length_take,h4,Nat.min_eq_left (Nat.mul_le_mul_right _ h5)]
theorem OwnW.isC(a:OwnW sz lo h s len cs):isCell s=true:=by rcases a with⟨rfl,_,_⟩|⟨b,W,all,_,rfl,_⟩<;>rfl
theorem OwnW.blk(a:OwnW sz lo h s len cs){b:Nat}(hb:blkOf s=some b):lo≤b∧∃ all,h.get b=some (.cells all):=by
 rcases a with⟨rfl,_,_⟩|⟨b',W,all,h1,rfl,h3,_⟩
 ·cases hb
 ·cases hb;exact⟨h1,all,h3⟩
theorem OwnW.keep(a:OwnW sz lo h s len cs)(hk:∀ b,blkOf s=some b→h'.get b=h.get b):OwnW sz lo h' s len cs:=by
 rcases a with a|⟨b,W,all,h1,rfl,h3,h4⟩
 ·exact .inl a
 ·exact .inr ⟨b,W,all,h1,rfl,by rw[hk b rfl];exact h3,h4⟩
theorem OwnW.lt(a:OwnW sz lo h s len cs)(hf:Fresh h n){b:Nat}(hb:blkOf s=some b):b<n:=by obtain⟨_,all,h1⟩:=a.blk hb;exact hf.lt h1
theorem OwnW.ln{ty e':TypeId}(hty:E.ty.get ty=some (tSl e'))(a:OwnW sz lo h s len cs){h':T Blk}{n:Nat}:builtinA E .len [ty] [s] h' n= .val (.int .i64 (len:Int)) h' n:=by
 rcases a with⟨rfl,rfl,rfl⟩|⟨b,W,all,_,rfl,_⟩
 ·exact lenA_slice hty
 ·exact lenA_slice hty
theorem OwnW.row(a:OwnW sz lo h s len cs):rowA h sz len s=some cs:=by
 rcases a with⟨rfl,rfl,rfl⟩|⟨b,W,all,_,rfl,h3,h4,h5,_,rfl⟩
 ·rfl
 ·simp only[rowA,cells_of h3];rw[seg_of (by rw[h4,Nat.zero_add];exact Nat.mul_le_mul_right _ h5),List.drop_zero]
theorem rowA_len'{xl:Nat}(h0:0<xl)(hx:∃ xb xc,x= .slice xb xl xc)(hr:rowA h sz xl x=some new):new.length=xl * sz:=by
 obtain⟨xb,xc,rfl⟩:=hx;cases xb with
 | none =>
   have:Nat.beq xl 0=false:=by
    cases hb:Nat.beq xl 0 with
    | false=>rfl
    | true=>rw[beqT] at hb;omega
   simp only[rowA,this,cond_false] at hr;cases hr
 | some a' =>
   obtain⟨b',o',s'⟩:=a';cases s' with
   | some s'=>simp[rowA] at hr
   | none =>
     simp only[rowA] at hr;split at hr
     ·exact seg_len hr
     ·cases hr
theorem OwnW.append(el:ElT E st e j)(a:OwnW j.size lo h s len cs)(hf:Fresh h n)(hlo:lo≤n)(hx:∃ xb xc,x= .slice xb xl xc)(hr:rowA h j.size xl x=some new)(hxl:xl≤1000000000)(hc:allCells new=true)(hl:len≤1000000000) :
 ∃ w h' n',appendA E st (some st) s x h n=some (w,h',n')∧Fresh h' n'∧n≤n'∧(∀ b,b<n→blkOf s≠some b→h'.get b=h.get b)∧OwnW j.size lo h' w (len+xl) (cs ++ new)∧(∀ b,blkOf w=some b→blkOf s=some b∨n≤b):=by
 have hz:0<j.size:=by have:=el.b2;rwa [bltT] at this
 obtain⟨xb,xc,rfl⟩:=hx;have e2:newCells E h j (some st) (.slice xb xl xc)=some (xl,new):=by simp only[newCells,el.hs,tSl,hr];rw[show Nat.ble xl 1000000000=true by rw[bleT];exact hxl];rfl
 have e4:Nat.ble len 1000000000=true:=by rw[bleT];exact hl
 rcases Nat.eq_zero_or_pos xl with h0|h0
 ·subst h0;have hn:new=[]:=by
   cases xb with
   | none=>simp only[rowA,Nat.beq_refl,cond_true] at hr;exact(Option.some.inj hr).symm
   | some a' =>
     obtain⟨b',o',s'⟩:=a';cases s' with
     | some s'=>simp[rowA] at hr
     | none =>
       simp only[rowA] at hr;split at hr
       ·rw[Nat.zero_mul,seg_zero] at hr;exact(Option.some.inj hr).symm
       ·cases hr
  subst hn;rw[List.append_nil];refine⟨s,h,n,?_,hf,nlR _,fun _ _ _=>rfl,a,fun b hb=> .inl hb⟩;rcases a with⟨rfl,rfl,rfl⟩|⟨b,W,all,h1,rfl,h3,h4,h5,h6,rfl⟩
  ·simp only[appendA,el.hs,tSl,el.he,e2,el.b1,el.b2,el.b3,el.zk,el.zl,show lowCap 0=0 from rfl,e4,show Nat.ble 0 0=true from rfl,Bool.and_self,cond_true,Nat.beq_refl]
  ·have hu:W<UNK:=by unfold UNK;omega
   simp only[appendA,el.hs,tSl,el.he,e2,el.b1,el.b2,el.b3,el.zk,el.zl,lowCap_u hu,e4,show Nat.ble len W=true by rw[bleT];exact h5,Bool.and_self,cond_true,Nat.beq_refl]
 have hnl:new.length=xl * j.size:=rowA_len' h0 ⟨_,_,rfl⟩ hr;have e3:Nat.beq xl 0=false:=by
  cases hb:Nat.beq xl 0 with
  | false=>rfl
  | true=>rw[beqT] at hb;omega
 have hrow:=a.row;have hcl:=a.csl;rcases a with⟨rfl,rfl,rfl⟩|⟨b,W,all,h1,rfl,h3,h4,h5,h6,rfl⟩
 ·have e6:Nat.ble (0+xl) 0=false:=by
   cases hb:Nat.ble (0+xl) 0 with
   | false=>rfl
   | true=>rw[bleT] at hb;omega
  refine⟨_,h.upd (some (.cells ([] ++ new))) n,n+1,?_,hf.upd _,Nat.le_succ n,fun b hb _=>T.gnE _ _ (by omega),.inr ⟨n,0+xl,[] ++ new,hlo,rfl,T.gsE _ _ _,?_,nlR _,by omega,?_⟩,fun b hb=>by cases hb;exact .inr (nlR _)⟩
  ·simp only[appendA,el.hs,tSl,el.he,e2,el.b1,el.b2,el.b3,el.zk,el.zl,show lowCap 0=0 from rfl,e4,show Nat.ble 0 0=true from rfl,Bool.and_self,cond_true,e3,cond_false,e6,hrow,show unkCap 0=false from rfl]
  ·rw[List.nil_append,hnl,Nat.zero_add]
  ·rw[List.nil_append,Nat.zero_add,← hnl,List.take_length]
 ·have hu:W<UNK:=by unfold UNK;omega
  have q1:lowCap (UNK * j.size+W)=W:=lowCap_u hu;have q2:(UNK * j.size+W) / UNK=j.size:=divCap_u hu;have q3:unkCap (UNK * j.size+W)=true:=by unfold unkCap;rw[bleT];have:=Nat.le_mul_of_pos_right UNK hz;omega
  have e5:Nat.ble len W=true:=by rw[bleT];exact h5
  have hbn:=hf.lt h3;by_cases hroom:len+xl≤W
  ·have e6:Nat.ble (len+xl) W=true:=by rw[bleT];exact hroom
   have hfit:len * j.size+new.length≤all.length:=by rw[hnl,h4,← Nat.add_mul];exact Nat.mul_le_mul_right _ hroom
   refine⟨.slice (some ⟨b,0,none⟩) (len+xl) (UNK * j.size+W),h.upd (some (.cells (all.take (len * j.size) ++ new ++ all.drop (len * j.size+new.length)))) b,n,?_,hf.set hbn _,nlR _,fun c hc hcb=>T.gnE _ _ (fun e=>hcb (by subst e;rfl)),.inr ⟨b,W,_,h1,rfl,T.gsE _ _ _,?_,hroom,h6,?_⟩,fun c hc=> .inl hc⟩
   ·simp only[appendA,el.hs,tSl,el.he,e2,el.b1,el.b2,el.b3,el.zk,el.zl,q1,e4,e5,Bool.and_self,cond_true,e3,cond_false,e6,putA,h3,hc,Nat.zero_add,overAt_of new hfit]
   ·simp only[List.length_append,List.length_take,List.length_drop];omega
   ·rw[List.append_assoc,List.take_append];have h7:(all.take (len * j.size)).length=len * j.size:=hcl;have h8:(len+xl) * j.size-(all.take (len * j.size)).length=new.length:=by rw[h7,hnl,Nat.add_mul];omega
    rw[h8,List.take_of_length_le (by rw[h7,Nat.add_mul];omega),List.take_append_of_le_length (nlR _),List.take_length]
  ·have e6:Nat.ble (len+xl) W=false:=by
    cases hb:Nat.ble (len+xl) W with
    | false=>rfl
    | true=>rw[bleT] at hb;omega
   refine⟨.slice (some ⟨n,0,none⟩) (len+xl) (UNK * j.size+(len+xl)),(h.upd none b).upd (some (.cells (all.take (len * j.size) ++ new))) n,n+1,?_,(hf.set hbn none).upd _,Nat.le_succ n,fun c hc hcb=>?_,.inr ⟨n,len+xl,_,hlo,rfl,T.gsE _ _ _,?_,nlR _,by omega,?_⟩,fun c hc=>by cases hc;exact .inr (nlR _)⟩
   ·simp only[appendA,el.hs,tSl,el.he,e2,el.b1,el.b2,el.b3,el.zk,el.zl,q1,e4,e5,Bool.and_self,cond_true,e3,cond_false,e6,hrow,q3,q2,Nat.beq_refl,hc,h3,Bool.not_true]
   ·rw[T.gnE _ _ (by omega),T.gnE _ _ (fun e=>hcb (by subst e;rfl))]
   ·rw[List.length_append,hcl,hnl,Nat.add_mul]
   ·rw[show(len+xl) * j.size=(all.take (len * j.size) ++ new).length by rw[List.length_append,hcl,hnl,Nat.add_mul],List.take_length]
end
theorem seg_app{α:Type}{cs r1 r2:List α}{o a b:Nat}(h1:seg cs o a=some r1)(h2:seg cs (o+a) b=some r2):seg cs o (a+b)=some (r1 ++ r2):=by
 rcases Nat.eq_zero_or_pos b with hb|hb
 ·subst hb;rw[seg_zero] at h2;cases h2;rw[List.append_nil];exact h1
 have hl:o+(a+b)≤cs.length:=by have:=((seg_some h2).2 (b-1) (by omega)).2;omega
 rw[seg_of hl];have e1:r1=(cs.drop o).take a:=by have:=seg_of (l:=cs) (o:=o) (n:=a) (by omega);rw[this] at h1;exact(Option.some.inj h1).symm
 have e2:r2=(cs.drop (o+a)).take b:=by have:=seg_of (l:=cs) (o:=o+a) (n:=b) (by omega);rw[this] at h2;exact(Option.some.inj h2).symm
 rw[e1,e2,List.take_add,List.drop_drop]
theorem seg_flat{α:Type}{k:Nat}{enc:α→List Value}{cs:List Value}:∀ {xs:List α}{o:Nat},(∀ (i:Nat)(x:α),xs[i]? =some x→seg cs (o+i * k) k=some (enc x))→seg cs o (xs.length * k)=some (xs.flatMap enc)
 | [],o,_=>by rw[List.length_nil,Nat.zero_mul];exact seg_zero
 | x :: xs,o,h=>by
   have h0:=h 0 x rfl;rw[Nat.zero_mul,Nat.add_zero] at h0;have ih:=seg_flat (xs:=xs) (o:=o+k) fun i y hy=>by
    have:=h (i+1) y hy
    rwa [Nat.succ_mul,Nat.add_comm (i * k) k,← Nat.add_assoc] at this
   have:=seg_app h0 ih;rw[List.length_cons,Nat.succ_mul,Nat.add_comm,List.flatMap_cons];exact this
theorem flat_len{α:Type}{k:Nat}{enc:α→List Value}(hk:∀ x,(enc x).length=k):∀ xs:List α,(xs.flatMap enc).length=xs.length * k
 | []=>by simp
 | x :: xs=>by rw[List.flatMap_cons,List.length_append,hk,flat_len hk xs,List.length_cons,Nat.succ_mul,Nat.add_comm]
theorem flat_seg{α:Type}{k:Nat}{enc:α→List Value}(hk:∀ x,(enc x).length=k):∀ {xs:List α}{i:Nat}{x:α}(rest:List Value),xs[i]? =some x→seg (xs.flatMap enc ++ rest) (i * k) k=some (enc x)
 | [],_,_,_,h=>by simp at h
 | y :: xs,0,x,rest,h=>by simp at h;subst h;rw[Nat.zero_mul,List.flatMap_cons,List.append_assoc,seg_of (by rw[List.length_append,hk];omega),List.drop_zero,List.take_append_of_le_length (by rw[hk];exact nlR _),List.take_of_length_le (by rw[hk];exact nlR _)]
 | y :: xs,i+1,x,rest,h=>by
   have ih:=flat_seg hk (xs:=xs) (i:=i) rest (by simpa using h);have hl:i * k+k≤(xs.flatMap enc ++ rest).length:=by rw[List.length_append,flat_len hk];have:=(gsI (show xs[i]? =some x by simpa using h)).1;have:=Nat.mul_le_mul_right k (show i+1≤xs.length by omega);rw[Nat.succ_mul] at this;omega
   rw[seg_of hl] at ih;rw[List.flatMap_cons,List.append_assoc,seg_of (by rw[List.length_append,hk,Nat.succ_mul];omega),Nat.succ_mul];rw[List.drop_append,hk,List.drop_of_length_le (by rw[hk];omega),List.nil_append,show i * k+k-k=i * k by omega];exact ih
section
variable {α:Type}{k:Nat}{enc:α→List Value}{h h':T Blk}{v s:Value}{xs:List α}{E:Env}
theorem RowsS.row(r:RowsS k enc h v xs):rowA h k xs.length v=some (xs.flatMap enc):=by
 obtain⟨eb,c,rfl,hb,hx⟩:=r;cases eb with
 | none =>
   cases xs with
   | nil=>rfl
   | cons x xs =>
     obtain⟨b,o,cs,e,_⟩:=hx 0 x rfl;cases e
 | some a =>
   obtain⟨hs,cs,hc⟩:=hb a rfl;obtain⟨b,o,sp⟩:=a;have hs:sp=none:=hs;subst hs;have hc:cellsOf h b=some cs:=hc;simp only[rowA,hc];refine seg_flat fun i x hi=>?_
   obtain⟨b',o',cs',e,h1,h2⟩:=hx i x hi;cases e;rw[hc] at h1;cases h1;exact h2
theorem OwnW.rows{lo len:Nat}{cs:List Value}(hk:∀ x,(enc x).length=k)(a:OwnW k lo h s len cs)(hcs:cs=xs.flatMap enc)(hlen:xs.length=len):RowsS k enc h s xs:=by
 subst hcs;subst hlen;rcases a with⟨rfl,h1,_⟩|⟨b,W,all,h1,rfl,h3,h4,h5,_,h6⟩
 ·have:xs=[]:=List.eq_nil_of_length_eq_zero h1;subst this;exact⟨none,0,rfl,fun a ha=>by(cases ha),fun i x hi=>by simp at hi⟩
 ·refine⟨some ⟨b,0,none⟩,_,rfl,fun a ha=>by cases ha;exact⟨rfl,all,cells_of h3⟩,fun i x hi=>⟨b,0,all,rfl,cells_of h3,?_⟩⟩;have:=flat_seg hk (all.drop (xs.length * k)) hi;rw[←h6,List.take_append_drop] at this;rw[Nat.zero_add];exact this
def Rows2(k:Nat)(enc:α→List Value)(h:T Blk)(V:Value)(X:List (List α)):Prop :=
 ∃ vs:List Value,RowsS 1 (fun v=>[v]) h V vs∧vs.length=X.length∧∀ (i:Nat) (v:Value) (xs:List α),vs[i]? =some v→X[i]? =some xs→RowsS k enc h v xs
theorem Rows2.mono{V:Value}{X:List (List α)}(r:Rows2 k enc h V X)(hh:∀ b cs,cellsOf h b=some cs→cellsOf h' b=some cs):Rows2 k enc h' V X:=by obtain⟨vs,r1,r2,r3⟩:=r;exact⟨vs,r1.mono hh,r2,fun i v es hv he=>(r3 i v es hv he).mono hh⟩
theorem Rows2.keep{n:Nat}{V:Value}{X:List (List α)}(r:Rows2 k enc h V X)(hf:Fresh h n)(hk:Keep n h h'):Rows2 k enc h' V X:=r.mono fun _ _ hc=>hk.cells hf hc
theorem Rows2.len{V:Value}{X:List (List α)}(r:Rows2 k enc h V X){ty e:TypeId}(hty:E.ty.get ty=some (tSl e)){H:T Blk}{n:Nat}:builtinA E .len [ty] [V] H n= .val (.int .i64 (X.length:Int)) H n:=by obtain⟨vs,r1,r2,_⟩:=r;rw[←r2];exact r1.len hty
theorem Rows2.at{V:Value}{X:List (List α)}(r:Rows2 k enc h V X){ty e:TypeId}{j:TyI}(hty:E.ty.get ty=some (tSl e))(he:E.ty.get e=some j)(hj:j.size=1)(ha:isAgg j.d=false){i:Nat}{xs:List α}(hi:X[i]? =some xs) :
 ∃ b o v,idxA E ty V (.int .i64 (i:Int))=some (.pointer (some ⟨b,o,none⟩))∧loadA E h e (.pointer (some ⟨b,o,none⟩))=some v∧RowsS k enc h v xs:=by
 obtain⟨vs,r1,r2,r3⟩:=r;have hlt:=(gsI hi).1;obtain⟨v,hv⟩:∃ v,vs[i]? =some v:=⟨_,ggE (by omega)⟩
 obtain⟨b,o,q1,q2⟩:=RowsS.at1 (enc:=fun v=>v) r1 hty he hj ha hv;exact⟨b,o,v,q1,q2,r3 i v xs hv hi⟩
theorem loadA_mono{h h':T Blk}{ty:TypeId}{p v:Value}(hh:∀ b cs,cellsOf h b=some cs→cellsOf h' b=some cs)(hv:loadA E h ty p=some v):loadA E h' ty p=some v:=by
 unfold loadA at hv ⊢;split at hv
 ·rename_i b o;split at hv
  ·rename_i i cs h1 h2;simp only[h1,hh b cs h2];exact hv
  ·cases hv
 ·cases hv
theorem Rows2.at'{V:Value}{X:List (List α)}(r:Rows2 k enc h V X){n:Nat}(hf:Fresh h n)(hk:Keep n h h'){ty e:TypeId}{j:TyI}(hty:E.ty.get ty=some (tSl e))(he:E.ty.get e=some j)(hj:j.size=1)(ha:isAgg j.d=false){i:Nat}{xs:List α}(hi:X[i]? =some xs) :
 ∃ b o v,idxA E ty V (.int .i64 (i:Int))=some (.pointer (some ⟨b,o,none⟩))∧loadA E h' e (.pointer (some ⟨b,o,none⟩))=some v∧RowsS k enc h v xs:=by
 obtain⟨b,o,v,q1,q2,q3⟩:=r.at hty he hj ha hi;exact⟨b,o,v,q1,loadA_mono (fun _ _ hc=>hk.cells hf hc) q2,q3⟩
theorem RowsS.isS(r:RowsS k enc h v xs):∃ b c,v= .slice b xs.length c:=by obtain⟨eb,c,rfl,_⟩:=r;exact⟨_,_,rfl⟩
def Rows3(k:Nat)(enc:α→List Value)(h:T Blk)(V:Value)(X:List (List (List α))):Prop :=
 ∃ vs:List Value,RowsS 1 (fun v=>[v]) h V vs∧vs.length=X.length∧∀ (i:Nat) (v:Value) (xs:List (List α)),vs[i]? =some v→X[i]? =some xs→Rows2 k enc h v xs
theorem Rows3.mono{V:Value}{X:List (List (List α))}(r:Rows3 k enc h V X)(hh:∀ b cs,cellsOf h b=some cs→cellsOf h' b=some cs):Rows3 k enc h' V X:=by obtain⟨vs,r1,r2,r3⟩:=r;exact⟨vs,r1.mono hh,r2,fun i v es hv he=>(r3 i v es hv he).mono hh⟩
theorem Rows3.keep{n:Nat}{V:Value}{X:List (List (List α))}(r:Rows3 k enc h V X)(hf:Fresh h n)(hk:Keep n h h'):Rows3 k enc h' V X:=r.mono fun _ _ hc=>hk.cells hf hc
theorem Rows3.len{V:Value}{X:List (List (List α))}(r:Rows3 k enc h V X){ty e:TypeId}(hty:E.ty.get ty=some (tSl e)){H:T Blk}{n:Nat}:builtinA E .len [ty] [V] H n= .val (.int .i64 (X.length:Int)) H n:=by obtain⟨vs,r1,r2,_⟩:=r;rw[←r2];exact r1.len hty
theorem Rows3.at{V:Value}{X:List (List (List α))}(r:Rows3 k enc h V X){ty e:TypeId}{j:TyI}(hty:E.ty.get ty=some (tSl e))(he:E.ty.get e=some j)(hj:j.size=1)(ha:isAgg j.d=false){i:Nat}{xs:List (List α)}(hi:X[i]? =some xs) :
 ∃ b o v,idxA E ty V (.int .i64 (i:Int))=some (.pointer (some ⟨b,o,none⟩))∧loadA E h e (.pointer (some ⟨b,o,none⟩))=some v∧Rows2 k enc h v xs:=by
 obtain⟨vs,r1,r2,r3⟩:=r;have hlt:=(gsI hi).1;obtain⟨v,hv⟩:∃ v,vs[i]? =some v:=⟨_,ggE (by omega)⟩
 obtain⟨b,o,q1,q2⟩:=RowsS.at1 (enc:=fun v=>v) r1 hty he hj ha hv;exact⟨b,o,v,q1,q2,r3 i v xs hv hi⟩
theorem Rows3.at'{V:Value}{X:List (List (List α))}(r:Rows3 k enc h V X){n:Nat}(hf:Fresh h n)(hk:Keep n h h'){ty e:TypeId}{j:TyI}(hty:E.ty.get ty=some (tSl e))(he:E.ty.get e=some j)(hj:j.size=1)(ha:isAgg j.d=false){i:Nat}{xs:List (List α)}(hi:X[i]? =some xs) :
 ∃ b o v,idxA E ty V (.int .i64 (i:Int))=some (.pointer (some ⟨b,o,none⟩))∧loadA E h' e (.pointer (some ⟨b,o,none⟩))=some v∧Rows2 k enc h v xs:=by
 obtain⟨b,o,v,q1,q2,q3⟩:=r.at hty he hj ha hi;exact⟨b,o,v,q1,loadA_mono (fun _ _ hc=>hk.cells hf hc) q2,q3⟩
end
end Go.Sx
