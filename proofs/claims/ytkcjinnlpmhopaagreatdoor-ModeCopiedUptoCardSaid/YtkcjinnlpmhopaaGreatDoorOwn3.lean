/- SyI: the executor's tables are the program's; calls whose result is known. -/
import Derived.Test.YtkcjinnlpmhopaaGreatDoorOwn2
import Derived.DeepKeys
import Derived.DeepKeys3
namespace Go.Sx
theorem T.getP_tab{α:Type}:∀ (d:Nat)(g:Nat→Option α)(p:Pth)(a:α),(T.tab d g).getP p=some a→g p.val=some a
 | 0,g,p,a,h=>by have:(T.leaf:T α).getP p=some a:=h;cases this
 | d+1,g,.z,a,h=>h
 | d+1,g,.l p,a,h=>T.getP_tab d (fun m=>g (2 * m+1)) p a h
 | d+1,g,.r p,a,h=>T.getP_tab d (fun m=>g (2 * m+2)) p a h
theorem T.get_tab{α:Type}{d:Nat}{g:Nat→Option α}{n:Nat}{a:α}(h:(T.tab d g).get n=some a):g n=some a:=by
 have:=T.getP_tab d g (pth n) a h
 rwa [show(pth n).val=n from pthF_val (n+1) n (by omega)] at this
theorem nthR_eq{α:Type}:∀ (l:List α)(n:Nat),nthR l n=l[n]?
 | [],n=>by simp[nthR]
 | a :: l,0=>rfl
 | a :: l,n+1=>by show nthR l n=_;rw[nthR_eq l n];simp
theorem blkL_eq{α:Type}(l:List α):∀ k,blkL l k=l.drop (32 * k)
 | 0=>rfl
 | k+1=>by
   show(blkL l k).drop 32=_;rw[blkL_eq l k,List.drop_drop]
   congr 1
theorem atL_eq{α:Type}(l:List α)(n:Nat):atL l n=l[n]? :=by
 unfold atL;rw[nthR_eq,blkL_eq,List.getElem?_drop]
 congr 1
 have:=Nat.div_add_mod n 32;show 32 * (n / 32)+n % 32=n;omega
section
variable {P:Program}
theorem info_of{t:TypeId}{i:TypeInfo}(h:atL P.types.toList t=some i):t<P.types.size∧P.info? t=some i:=by rw[atL_eq,Array.getElem?_toList] at h;have hlt:=(Array.getElem?_eq_some_iff.1 h).1;refine⟨hlt,?_⟩;unfold Tables.info?;rw[if_pos hlt];exact h
theorem und_of{t:TypeId}{i:TypeInfo}{d:TypeDesc}(h:atL P.types.toList t=some i)(hd:descOf P i.desc=some d):P.underlying t=some d:=by
 have hi:=(info_of h).2;unfold Program.underlying;rw[hi];unfold descOf at hd;split at hd
 ·rename_i nm u he;split at hd
  ·rename_i j hj;cases hd;cases i;simp only at he;subst he;simp[(info_of hj).2]
  ·cases hd
 ·rename_i hne;cases hd;split
  ·rename_i nm u _ _ _ _ _ _ _ _ _ he;cases he;exact absurd rfl (hne nm u)
  ·rename_i he;cases he;rfl
  ·rename_i he;cases he
theorem tyI_ok{t:TypeId}{i:TyI}(h:tyI P t=some i):t<P.types.size∧∃ ti,P.info? t=some ti∧P.underlying t=some i.d∧ti.size=i.size∧ti.bytes=i.bytes ∧
 (i.zok=true→∃ z,ti.zero=some z∧lit 6 z=true∧cellsL z=i.zero∧i.zero.length=i.size∧(isAgg i.d=true→z= .agg ⟨i.zero⟩)∧(isAgg i.d=false→i.zero=[z])):=by
 unfold tyI at h;split at h
 ·rename_i ti hti;split at h
  ·rename_i d hd;refine⟨(info_of hti).1,ti,(info_of hti).2,?_⟩;split at h
   ·rename_i z hz;cases h;refine⟨und_of hti hd,rfl,rfl,fun hzok=>?_⟩;simp only[baT,beqT] at hzok;obtain⟨⟨h1,h2⟩,h3⟩:=hzok;refine⟨z,hz,h1,rfl,h2,fun ha=>?_,fun ha=>?_⟩
    ·have ha:isAgg d=true:=ha;cases z<;>simp_all[cellsL]
    ·have ha:isAgg d=false:=ha;cases z<;>simp_all[cellsL]
   ·cases h;exact⟨und_of hti hd,rfl,rfl,fun hz=>by cases hz⟩
  ·cases h
 ·cases h
end
noncomputable def fldOK(ty:T TyI):Nat→Bool
 | 0=>true
 | t+1=>(match ty.get t with
   | some i=>(match i.d with| .struct fs=>fs.toList.all (fun f=>(ty.get f.type).isSome)|_=>true)
   | none=>true)&&fldOK ty t
theorem fldOK_spec{ty:T TyI}:∀ {N:Nat},fldOK ty N=true→∀ t,t<N→∀ i fs,ty.get t=some i→i.d= .struct fs→∀ f∈fs.toList,(ty.get f.type).isSome=true
 | 0,_,t,ht,_,_,_,_,_,_=>by omega
 | N+1,h,t,ht,i,fs,hi,hd,f,hf=>by
   simp only[fldOK,baT] at h;rcases Nat.lt_or_ge t N with h1|h1
   ·exact fldOK_spec h.2 t h1 i fs hi hd f hf
   ·have:t=N:=by omega
    subst this;have h2:=h.1;rw[hi] at h2;simp only[hd,List.all_eq_true] at h2;exact h2 f hf
def FlatOk(P:Program)(flat:List (TypeId×List CK)):Prop:=∀ t ks,flatKs t flat=some ks →
    (∀ (xs ys:Array Value) (w:World),fitsK ks xs.toList=true→fitsK ks ys.toList=true→(Op.equal t (.agg xs) (.agg ys)).run P w= .ok (eqCs xs.toList ys.toList) w) ∧
    P.eqGuardType P.depth t=false∧(∀ (em:Bool) (xs:Array Value) (w:World),fitsK ks xs.toList=true→(Instr.checkKey em 10000 t (.agg xs)).run P w= .ok () w)
def MemoOk(P:Program)(glob:Nat)(gro:List (Nat×List Value))(f:FuncId)(ct:Ct)(v:Value):Prop :=
 ∀ args h,hitC h ct args=some []→groOK h gro=true→∀ (G:Gh) (ρ:Ren) (n:Nat) (ys:Array Value) (w:World),glob≤G.ng→St G ρ h n w→LRel ρ args ys.toList →
   CallsIn Fence.wide 0 P f ys w (fun e w'=>∃ y,e= .returned y∧VRel ρ v y∧St G ρ h n w')
theorem findM_spec{h:T Blk}{args:List Value}:∀ {l:List (Ct×Value)}{v:Value},findM h args l=some v→∃ e∈l,hitC h e.1 args=some []∧e.2=v
 | [],v,hx=>by cases hx
 | e :: l,v,hx=>by
   simp only[findM] at hx;split at hx
   ·rename_i he;cases hx;exact⟨e,mcS ..,he,rfl⟩
   ·obtain⟨e',h1,h2⟩:=findM_spec hx;exact⟨e',mcM _ h1,h2⟩
theorem eok_env{P:Program}{flat:List (TypeId×List CK)}{memo:T (List (Ct×Value))}{gro:List (Nat×List Value)}(hf:fldOK (T.tab 10 (tyI P)) P.types.size=true)
 (hn:P.funcs.toList.all (fun fn=> !(fn.name == "runtime.NumGoroutine"))=true) (hflat:FlatOk P flat) (hmemo:∀ f l,memo.get f=some l→∀ e∈l,MemoOk P P.globals.size gro f e.1 e.2):EOk (envOf P flat memo gro) P:=by
 have hty:∀ {t i},(envOf P flat memo gro).ty.get t=some i→tyI P t=some i:=fun h=>T.get_tab (d:=10) h
 refine⟨fun t i hi=>(tyI_ok (hty hi)).2,fun t i fs k f hi hd hk=>?_,hflat,fun f fn hfn=>?_,fun f args h v hx G ρ n ys w hg H hl=>?_,fun f args h n r hr=>by cases hr⟩
 ·have:=fldOK_spec hf t (tyI_ok (hty hi)).1 i fs hi hd f (List.mem_of_getElem? (by simpa using hk));exact Option.isSome_iff_exists.1 this
 ·have hfn:fnI P f=some fn:=T.get_tab (d:=9) hfn;unfold fnI at hfn;split at hfn
  ·rename_i fn' hat;rw[biE] at hfn;split at hfn
   ·rename_i hb;cases hfn;rw[atL_eq] at hat;refine⟨by simpa using hat,by cases hbb:fn.body<;>simp_all,?_⟩;have:=List.all_eq_true.1 hn fn (List.mem_of_getElem? hat);simpa using this
   ·cases hfn
  ·cases hfn
 ·unfold memoA at hx;split at hx
  ·rename_i l hl';rw[biE] at hx;split at hx
   ·rename_i hgro;obtain⟨e,he,h1,h2⟩:=findM_spec hx;subst h2;exact hmemo f l hl' e he args h h1 hgro G ρ n ys w hg H hl
   ·cases hx
  ·cases hx
theorem eok_ext{E:Env}{P:Program}(K:EOk E P){x:Nat→List Value→T Blk→Nat→Option (Value×T Blk×Nat)}
 (hx:∀ f args h n r,x f args h n=some r→∀ (G:Gh) (ρ:Ren) (ys:Array Value) (w:World),E.glob≤G.ng→St G ρ h n w→LRel ρ args ys.toList →
  CallsIn Fence.wide 0 P f ys w (fun e w'=>∃ y ρ',e= .returned y∧VRel ρ' r.1 y∧Stp G ρ h n ρ' r.2.1 r.2.2 w')):EOk {E with ext:=x} P :=
 ⟨K.ty,K.fld,K.flat,K.fn,K.memo,hx⟩
theorem lit_inv{ρ:Ren}:∀ (f:Nat){v y:Value},lit f v=true→VRel ρ v y→y=v:=by
 intro f;have arr:∀ {g:Nat} {a a':Array Value},(∀ {v y:Value},lit g v=true→VRel ρ v y→y=v)→a.toList.all (lit g)=true→a.toList.length=a'.toList.length →
  (∀ (i:Nat) (x y:Value),a.toList[i]? =some x→a'.toList[i]? =some y→VRel ρ x y)→a'=a:=by
  intro g a a' ih ha hlen h;refine Array.toList_inj.1 (List.ext_getElem? fun i=>?_);rcases Nat.lt_or_ge i a.toList.length with h1|h1
  ·have e1:=ggE h1;have e2:=ggE (l:=a'.toList) (i:=i) (by omega);rw[e1,e2]
   congr 1
   exact ih (List.all_eq_true.1 ha _ (List.getElem_mem h1)) (h i _ _ e1 e2)
  ·rw[List.getElem?_eq_none_iff.2 h1,List.getElem?_eq_none_iff.2 (by omega)]
 have nil:∀ {a a':Array Value},a.toList.isEmpty=true→a.toList.length=a'.toList.length→a'=a:=by intro a a' ha hlen;rw[List.isEmpty_iff] at ha;rw[ha] at hlen;have:a'.toList=[]:=List.eq_nil_of_length_eq_zero (by simpa using hlen.symm);exact Array.toList_inj.1 (this.trans ha.symm)
 induction f with
 | zero =>
   intro v y hl h;cases h with
   | bool b=>rfl
   | int k i=>rfl
   | string s=>rfl
   | ptr0=>rfl
   | slice0 l c=>rfl
   | map0=>rfl
   | nilFunc=>rfl
   | nilIface=>rfl
   | func hf ha hb h1 h2 =>
     rename_i f g a b a' b';cases f with
     | func k =>
       have:=hf.func_inv;subst this;simp only[lit,baT] at hl;rw[nil hl.1 ha,nil hl.2 hb]
     | _=>simp[lit] at hl
   | _=>simp[lit] at hl
 | succ f ih =>
   intro v y hl h;cases h with
   | bool b=>rfl
   | int k i=>rfl
   | string s=>rfl
   | ptr0=>rfl
   | slice0 l c=>rfl
   | map0=>rfl
   | nilFunc=>rfl
   | nilIface=>rfl
   | func hf ha hb h1 h2 =>
     rename_i f g a b a' b';cases f with
     | func k =>
       have:=hf.func_inv;subst this;simp only[lit,baT] at hl;rw[nil hl.1 ha,nil hl.2 hb]
     | _=>simp[lit] at hl
   | iface t h=>simp only[lit] at hl;rw[ih hl h]
   | agg ha h=>simp only[lit] at hl;rw[arr ih hl ha h]
   | tuple ha h=>simp only[lit] at hl;rw[arr ih hl ha h]
   | _=>simp[lit] at hl
noncomputable def layC:Ct→T Blk→Nat→List Value×T Blk×Nat
 | .nil,h,n=>([],h,n)
 | .lit v next,h,n=>(v :: (layC next h n).1,(layC next h n).2)
 | .sl len cap kids next,h,n =>
   let k:=layC kids h n
   let r:=layC next (k.2.1.upd (some (.ro k.1)) k.2.2) (k.2.2+1)
   (.slice (some ⟨k.2.2,0,none⟩) len cap :: r.1,r.2)
 | .agg kids next,h,n =>
   let k:=layC kids h n
   let r:=layC next k.2.1 k.2.2
   (.agg ⟨k.1⟩ :: r.1,r.2)
def okC:Ct→Bool
 | .nil=>true
 | .lit v next=>lit 6 v&&okC next
 | .sl _ _ kids next=>okC kids&&okC next
 | .agg kids next=>okC kids&&okC next
structure Lay(ρ:Ren)(h:T Blk)(n:Nat)(w:World):Prop where
 blk:∀ b L k,ρ b=some L→h.get b=some k→(∃ cs,k= .ro cs)∧BRel ρ L k w.heap[L.blk]?
 fr:∀ b,n≤b→ρ b=none
 hb:∀ b,n≤b→h.get b=none
theorem lay_sim{G:Gh}{ρ:Ren}{h:T Blk}{w:World}(H:WRel G ρ h w):∀ (ct:Ct)(vs rest ys:List Value),okC ct=true→hitC h ct vs=some rest→LRel ρ vs ys→∀ (ρ0:Ren)(h0:T Blk)(n0:Nat),Lay ρ0 h0 n0 w →
 ∃ ρ1,Ext ρ0 ρ1∧Lay ρ1 (layC ct h0 n0).2.1 (layC ct h0 n0).2.2 w∧n0≤(layC ct h0 n0).2.2∧(layC ct h0 n0).1.length+rest.length=vs.length∧LRel ρ1 (layC ct h0 n0).1 (ys.take (layC ct h0 n0).1.length):=by
 intro ct
 induction ct with
 | nil =>
   intro vs rest ys _ hx hl ρ0 h0 n0 S;simp only[hitC] at hx;cases hx;exact⟨ρ0,.refl _,S,nlR _,by simp[layC],by simpa [layC] using LRel.nil ρ0⟩
 | lit v next ih =>
   intro vs rest ys hok hx hl ρ0 h0 n0 S;cases vs with
   | nil=>simp[hitC] at hx
   | cons x vs =>
     simp only[hitC,biE] at hx;split at hx
     ·rename_i hs;obtain⟨y,ys',rfl,hxy,hl'⟩:=hl.cons_left;simp only[okC,baT] at hok;have e1:=sameV_eq 6 _ _ hs;subst e1;obtain⟨ρ1,q1,q2,q3,q4,q5⟩:=ih vs rest ys' hok.2 hx hl' ρ0 h0 n0 S;have hy:=lit_inv 6 hok.1 hxy;subst hy;exact⟨ρ1,q1,q2,q3,by simp only[layC,List.length_cons];omega,.cons (lit_rel ρ1 6 _ hok.1) q5⟩
     ·cases hx
 | sl len cap kids next ihk ihn =>
   intro vs rest ys hok hx hl ρ0 h0 n0 S;cases vs with
   | nil=>simp[hitC] at hx
   | cons x vs =>
     simp only[hitC,biE] at hx;split at hx
     ·rename_i b o l c;split at hx
      ·rename_i hlc;simp only[baT,beqT] at hlc;obtain⟨rfl,rfl⟩:=hlc;split at hx
       ·rename_i cs hcs;split at hx
        ·rename_i ho;rw[bleT] at ho;split at hx
         ·rename_i r2 hk;obtain⟨y,ys',rfl,hxy,hl'⟩:=hl.cons_left;simp only[okC,baT] at hok;have hL:∃ L,ρ b=some L:=by
           cases hxy with
           | slice _ _ hL _=>exact⟨_,hL⟩
           | sliceU _ hL=>exact⟨_,hL⟩
           | sliceZ _ hL=>exact⟨_,hL⟩
          obtain⟨L,hL⟩:=hL;have hcell:∃ ca e fr,w.heap[L.blk]? =some (.cells ca e fr)∧CellsRel ρ cs L ca:=by
           unfold cellsOf at hcs;split at hcs
           ·rename_i cs' hg;cases hcs;obtain⟨ca,e,fr,h1,_,h3⟩:=H.blk b L _ hL hg;exact⟨ca,e,fr,h1,h3⟩
           ·rename_i cs' hg;cases hcs;obtain⟨ca,e,fr,h1,h3⟩:=H.blk b L _ hL hg;exact⟨ca,e,fr,h1,h3⟩
           ·cases hcs
          obtain⟨ca,e,fr,hw,hc1,hc2,hc3⟩:=hcell;have hzs:LRel ρ (dropL cs o) ((ca.toList.drop (L.sh+o)).take (cs.length-o)):=by
           rw[dropL_eq];refine LRel.of ?_ fun i x hx=>?_
           ·have hca:ca.toList.length=ca.size:=by simp
            rw[List.length_drop,List.length_take,List.length_drop];omega
           ·rw[List.getElem?_drop] at hx;obtain⟨z,z1,z2⟩:=hc3 (o+i) x hx;have:=(gsI hx).1;refine⟨z,?_,z2⟩;rw[List.getElem?_take_of_lt (by omega),List.getElem?_drop,Array.getElem?_toList,← z1]
            congr 1
            omega
          obtain⟨ρ1,q1,q2,q3,q4,q5⟩:=ihk _ _ _ hok.1 hk hzs ρ0 h0 n0 S;have hklen:(layC kids h0 n0).1.length≤cs.length-o:=by rw[dropL_eq,List.length_drop] at q4;omega
          have hn1:ρ1 (layC kids h0 n0).2.2=none:=q2.fr _ (nlR _);have hext:=Ext.add (⟨L.blk,L.sh+o,L.size⟩:Pl) hn1;have S2:Lay (ρ1.add (layC kids h0 n0).2.2 ⟨L.blk,L.sh+o,L.size⟩) ((layC kids h0 n0).2.1.upd (some (.ro (layC kids h0 n0).1)) (layC kids h0 n0).2.2) ((layC kids h0 n0).2.2+1) w:=by
           refine⟨fun b' M k h1 h2=>?_,fun b' hb'=>?_,fun b' hb'=>?_⟩
           ·by_cases hb':b'=(layC kids h0 n0).2.2
            ·subst hb';rw[Ren.add_same] at h1;cases h1;rw[T.gsE] at h2;cases h2;refine⟨⟨_,rfl⟩,ca,e,fr,hw,?_,hc2,fun i x hx=>?_⟩
             ·show L.sh+o+_≤L.size;omega
             ·obtain⟨z,z1,z2⟩:=q5.get hx;have hi:=(gsI hx).1;rw[List.getElem?_take_of_lt hi,List.getElem?_take_of_lt (by omega),List.getElem?_drop,Array.getElem?_toList] at z1;exact⟨z,z1,z2.mono hext⟩
            ·rw[Ren.add_ne _ _ hb'] at h1;rw[T.gnE _ _ hb'] at h2;obtain⟨h3,h4⟩:=q2.blk b' M k h1 h2;exact⟨h3,h4.mono hext⟩
           ·rw[Ren.add_ne _ _ (by omega)];exact q2.fr b' (by omega)
           ·rw[T.gnE _ _ (by omega)];exact q2.hb b' (by omega)
          obtain⟨ρ2,r1,r2,r3,r4,r5⟩:=ihn vs rest ys' hok.2 hx hl' _ _ _ S2;refine⟨ρ2,q1.trans (hext.trans r1),r2,?_,?_,.cons ?_ r5⟩
          ·simp only[layC];omega
          ·simp only[layC,List.length_cons];omega
          ·have hat:ρ2 (layC kids h0 n0).2.2=some ⟨L.blk,L.sh+o,L.size⟩:=r1 _ _ (Ren.add_same _ _ _);cases hxy with
           | slice _ _ hM hc =>
             rw[hL] at hM;cases hM;exact .slice l c hat hc
           | sliceU _ hM hu hk' hl'' hc hs ho' =>
             rw[hL] at hM;cases hM;exact .sliceU (L:=⟨L.blk,L.sh+o,L.size⟩) l hat hu hk' hl'' hc hs ho'
           | sliceZ a hM hk' hz =>
             exact .sliceZ a hat hk' hz
         ·cases hx
        ·cases hx
       ·cases hx
      ·cases hx
     ·cases hx
 | agg kids next ihk ihn =>
   intro vs rest ys hok hx hl ρ0 h0 n0 S;cases vs with
   | nil=>simp[hitC] at hx
   | cons x vs =>
     simp only[hitC] at hx;split at hx
     ·rename_i cs;split at hx
      ·rename_i hk;obtain⟨y,ys',rfl,hxy,hl'⟩:=hl.cons_left;simp only[okC,baT] at hok;obtain⟨cs',rfl,hcs⟩:=hxy.agg_inv;obtain⟨ρ1,q1,q2,q3,q4,q5⟩:=ihk _ _ _ hok.1 hk hcs ρ0 h0 n0 S;obtain⟨ρ2,r1,r2,r3,r4,r5⟩:=ihn vs rest ys' hok.2 hx hl' ρ1 _ _ q2;refine⟨ρ2,q1.trans r1,r2,?_,?_,.cons ?_ r5⟩
       ·simp only[layC];omega
       ·simp only[layC,List.length_cons];omega
       ·have hlen:(layC kids h0 n0).1.length=cs'.toList.length:=by
         have h1:=hcs.1;have h2:=q4;simp only[List.length_nil,Nat.add_zero] at h2;omega
        rw[hlen,List.take_length] at q5;exact VRel.mkAgg (q5.mono r1)
      ·cases hx
     ·cases hx
noncomputable def baseT:List (Nat×List Value)→T Blk
 | []=> .leaf
 | x :: l=>(baseT l).upd (some (.ro x.2)) x.1
theorem baseT_some:∀ {l:List (Nat×List Value)}{b:Nat}{k:Blk},(baseT l).get b=some k→∃ x∈l,x.1=b∧k= .ro x.2
 | [],b,k,h=>by rw[baseT,T.get_leaf] at h;cases h
 | x :: l,b,k,h=>by
   rw[baseT,T.get_upd] at h;split at h
   ·rename_i e;cases h;exact⟨x,mcS ..,e.symm,rfl⟩
   ·obtain⟨y,h1,h2⟩:=baseT_some h;exact⟨y,mcM _ h1,h2⟩
theorem groOK_spec{h:T Blk}:∀ {l:List (Nat×List Value)},groOK h l=true→∀ x∈l,h.get x.1=some (.ro x.2)
 | [],_,x,hx=>by cases hx
 | y :: l,hk,x,hx=>by
   simp only[groOK,baT] at hk;rcases List.mem_cons.1 hx with rfl|hx
   ·have h1:=hk.1;split at h1
    ·rename_i cs hcs;rw[hcs,sameL_eq (sameV_eq 6) h1]
    ·cases h1
   ·exact groOK_spec hk.2 x hx
theorem memo_gen{E:Env}{P:Program}{f:FuncId}{ct:Ct}{v:Value}(hok:okC ct=true)(hv:lit 6 v=true)(hgl:E.glob≤1000)
 (hgr:E.gro.all (fun x=>Nat.blt x.1 1000&&x.2.all (lit 6))=true)
 (hrun:∀ (G:Gh) (ρ:Ren) (ys:Array Value) (w:World),E.glob≤G.ng→St G ρ (layC ct (baseT E.gro) 1000).2.1 (layC ct (baseT E.gro) 1000).2.2 w→LRel ρ (layC ct (baseT E.gro) 1000).1 ys.toList →
  CallsIn Fence.wide 0 P f ys w fun e w'=>∃ h' n',RetOk G ρ (layC ct (baseT E.gro) 1000).2.1 (layC ct (baseT E.gro) 1000).2.2 v h' n' e w'):MemoOk P E.glob E.gro f ct v:=by
 intro args h hhit hgro G ρ n ys w hg H hl;have hgr':=List.all_eq_true.1 hgr
 let ρ0:Ren:=fun b=>if b<E.glob then ρ b else none
 have lo:∀ {b L},ρ0 b=some L→b<E.glob∧ρ b=some L:=by
  intro b L hb;by_cases h1:b<E.glob
  ·exact⟨h1,by simpa [ρ0,h1] using hb⟩
  ·simp[ρ0,h1] at hb
 have S0:Lay ρ0 (baseT E.gro) 1000 w:=by
  refine⟨fun b L k h1 h2=>?_,fun b hb=>?_,fun b hb=>?_⟩
  ·obtain⟨x,hx,rfl,rfl⟩:=baseT_some h2;obtain⟨_,hρ⟩:=lo h1;have hx':=hgr' x hx;simp only[baT,List.all_eq_true] at hx';obtain⟨c,e,fr,w1,c1,c2,c3⟩:=H.wr.blk x.1 L _ hρ (groOK_spec hgro x hx);refine⟨⟨_,rfl⟩,c,e,fr,w1,c1,c2,fun i z hz=>?_⟩;obtain⟨y,y1,y2⟩:=c3 i z hz;have hlit:=hx'.2 z (List.mem_of_getElem? hz);have:=lit_inv 6 hlit y2;subst this;exact⟨_,y1,lit_rel ρ0 6 _ hlit⟩
  ·have:¬ b<E.glob:=by omega
   simp[ρ0,this]
  ·cases hbx:(baseT E.gro).get b with
   | none=>rfl
   | some k =>
     obtain⟨x,hx,rfl,_⟩:=baseT_some hbx;have:=hgr' x hx;simp only[baT,bltT] at this;omega
 obtain⟨ρ1,q1,q2,q3,q4,q5⟩:=lay_sim H.wr ct args [] ys.toList hok hhit hl ρ0 (baseT E.gro) 1000 S0
 let G0:Gh:={heap:=w.heap,own:=fun _=>False,ng:=E.glob,oo:=Oo w}
 have S:St G0 ρ1 (layC ct (baseT E.gro) 1000).2.1 (layC ct (baseT E.gro) 1000).2.2 w:=by
  refine⟨⟨fun b L k h1 h2=>(q2.blk b L k h1 h2).2,?_,?_,fun _ _ _=>rfl,nlR _,?_,rfl⟩,q2.fr,q2.hb⟩
  ·intro b b' L L' k k' _ h1 h1' h2 h2' hr;obtain⟨cs,rfl⟩:=(q2.blk b L k h1 h2).1;obtain⟨cs',rfl⟩:=(q2.blk b' L' k' h1' h2').1;rcases hr with hr|hr<;>cases hr
  ·intro b L k h1 h2 hr;obtain⟨cs,rfl⟩:=(q2.blk b L k h1 h2).1;cases hr
  ·intro g hg';have hg':g<E.glob:=hg';obtain⟨s,hs⟩:=H.wr.glob g (by omega);exact⟨s,q1 _ _ (by simp[ρ0,hg',hs])⟩
 have hlen:(layC ct (baseT E.gro) 1000).1.length=ys.toList.length:=by have h1:=hl.1;have h2:=q4;simp only[List.length_nil,Nat.add_zero] at h2;omega
 rw[hlen,List.take_length] at q5;refine CallsIn.mono (F:=Fence.wide) (hrun G0 ρ1 ys w (nlR _) S q5) fun e w' he=>?_
 obtain⟨h',n',y,ρ',rfl,r2,r3⟩:=he;have:=lit_inv 6 hv r2;subst this;exact⟨_,rfl,lit_rel ρ 6 _ hv,⟨H.wr.keep (fun r hr=>r3.st.wr.frame r hr id) r3.st.wr.size r3.st.wr.out,H.fr,H.hb⟩⟩
theorem memo_ok{E:Env}{P:Program}(K:EOk E P)(hm:P.follows .mixedOrders=true){fuel:Nat}{f:FuncId}{ct:Ct}{v:Value}(hok:okC ct=true)(hv:lit 6 v=true)(hgl:E.glob≤1000)
 (hgr:E.gro.all (fun x=>Nat.blt x.1 1000&&x.2.all (lit 6))=true) {h':T Blk} {n':Nat}
 (hrun:callF E (exec E fuel) f (layC ct (baseT E.gro) 1000).1 (layC ct (baseT E.gro) 1000).2.1 (layC ct (baseT E.gro) 1000).2.2= .ret v h' n'):MemoOk P E.glob E.gro f ct v :=
 memo_gen hok hv hgl hgr fun G ρ ys w hg S hl=>CallsIn.mono (F:=Fence.wide) (callF_sim K (sx_sim K hm fuel) f _ _ _ v h' n' hrun G ρ ys w hg S hl) fun _ _ he=>⟨h',n',he⟩
def retIs(v:Value):COut→Bool
 | .ret w _ _=>sameV 6 v w
 | .no _=>false
noncomputable def callsOK(E:Env)(fuel:Nat)(f:FuncId):List (Ct×Value)→Bool
 | []=>true
 | e :: l=>okC e.1&&lit 6 e.2&&retIs e.2 (callF E (kexec E fuel) f (layC e.1 (baseT E.gro) 1000).1 (layC e.1 (baseT E.gro) 1000).2.1 (layC e.1 (baseT E.gro) 1000).2.2)&&callsOK E fuel f l
theorem calls_ok{E:Env}{P:Program}(K:EOk E P)(hm:P.follows .mixedOrders=true)(hgl:E.glob≤1000)(hgr:E.gro.all (fun x=>Nat.blt x.1 1000&&x.2.all (lit 6))=true){fuel:Nat}{f:FuncId} :
 ∀ {l:List (Ct×Value)},callsOK E fuel f l=true→∀ e∈l,MemoOk P E.glob E.gro f e.1 e.2
 | [],_,e,he=>by cases he
 | x :: l,h,e,he=>by
   simp only[callsOK,baT] at h;obtain⟨⟨⟨h1,h2⟩,h3⟩,h4⟩:=h;rcases List.mem_cons.1 he with rfl|he
   ·rw[kexec_eq] at h3;unfold retIs at h3;split at h3
    ·rename_i w h' n' hret;have:=sameV_eq 6 _ _ h3;exact memo_ok K hm h1 h2 hgl hgr (by rw[hret,this])
    ·cases h3
   ·exact calls_ok K hm hgl hgr h4 e he
noncomputable def memoT:List (FuncId×List (Ct×Value))→T (List (Ct×Value))
 | []=> .leaf
 | x :: l=>(memoT l).upd (some x.2) x.1
theorem memoT_some:∀ {l:List (FuncId×List (Ct×Value))}{f:FuncId}{r:List (Ct×Value)},(memoT l).get f=some r→(f,r)∈l
 | [],f,r,h=>by rw[memoT,T.get_leaf] at h;cases h
 | x :: l,f,r,h=>by
   rw[memoT,T.get_upd] at h;split at h
   ·rename_i e;cases h;rw[e];exact mcS ..
   ·exact mcM _ (memoT_some h)
def repK(ks:List CK):Nat→List CK
 | 0=>[]
 | n+1=>ks ++ repK ks n
def flatFs(P:Program)(rec:TypeId→Option (List CK)):List Field→Nat→Option (List CK)
 | [],_=>some []
 | f :: fs,o =>
   bif Nat.beq f.offset o&&(f.name != "_") then
    (match rec f.type with
     | some kf =>
       bif Nat.beq kf.length (P.cellsOf f.type) then
        (match flatFs P rec fs (o+kf.length) with
         | some kr=>some (kf ++ kr)
         | none=>none)
       else none
     | none=>none)
   else none
def flatA(P:Program):Nat→TypeId→Option (List CK)
 | 0,_=>none
 | d+1,t =>
   match P.underlying t with
   | some .bool=>some [.bool]
   | some (.int k)=>some [.int k]
   | some .string=>some [.str]
   | some (.array n e) =>
     (match flatA P d e with
      | some ke=>bif Nat.beq ke.length (P.cellsOf e)&&Nat.beq (n * ke.length) (P.cellsOf t) then some (repK ke n) else none
      | none=>none)
   | some (.struct fs) =>
     (match flatFs P (flatA P d) fs.toList 0 with
      | some ks=>bif Nat.beq ks.length (P.cellsOf t) then some ks else none
      | none=>none)
   | _=>none
def litC:Value→Lit
 | .bool b=> .bool b
 | .int k n=> .int k n
 | .string s=> .string s.data.toList
 | _=> .bool false
theorem fitsK_len:∀ {ks:List CK}{xs:List Value},fitsK ks xs=true→xs.length=ks.length
 | [],[],_=>rfl
 | [],_ :: _,h=>by simp[fitsK] at h
 | _ :: _,[],h=>by simp[fitsK] at h
 | k :: ks,x :: xs,h=>by simp only[fitsK,baT] at h;simp[fitsK_len h.2]
theorem fitsK_app:∀ {ks ls:List CK}{xs:List Value},fitsK (ks ++ ls) xs=true→fitsK ks (xs.take ks.length)=true∧fitsK ls (xs.drop ks.length)=true
 | [],ls,xs,h=>by simpa [fitsK] using h
 | k :: ks,ls,[],h=>by simp[fitsK] at h
 | k :: ks,ls,x :: xs,h=>by simp only[List.cons_append,fitsK,baT] at h;obtain⟨h1,h2⟩:=fitsK_app h.2;simp only[List.length_cons,List.take_succ_cons,List.drop_succ_cons,fitsK,baT];exact⟨⟨h.1,h1⟩,h2⟩
theorem litC_inj:∀ {ks:List CK}{xs ys:List Value},fitsK ks xs=true→fitsK ks ys=true→(xs.map litC=ys.map litC↔xs=ys)
 | [],[],[],_,_=>by simp
 | [],_ :: _,_,h,_=>by simp[fitsK] at h
 | [],[],_ :: _,_,h=>by simp[fitsK] at h
 | _ :: _,[],_,h,_=>by simp[fitsK] at h
 | _ :: _,_ :: _,[],_,h=>by simp[fitsK] at h
 | k :: ks,x :: xs,y :: ys,hx,hy=>by
   simp only[fitsK,baT] at hx hy;have ih:=litC_inj hx.2 hy.2;have h1:litC x=litC y↔x=y:=by
    refine⟨fun e=>?_,fun e=>by rw[e]⟩;have f1:=hx.1;have f2:=hy.1;cases k<;>cases x<;>simp only[fitC] at f1<;>try cases f1
    all_goals cases y<;>simp only[fitC] at f2<;>try cases f2
    ·simp only[litC,Lit.int.injEq] at e;rw[e.1,e.2]
    ·simp only[litC,Lit.bool.injEq] at e;rw[e]
    ·simp only[litC,Lit.string.injEq] at e;rw[data_inj e]
   simp only[List.map_cons,List.cons.injEq,ih,h1]
section
variable {P:Program}
theorem fitC_one{k:CK}{xs:List Value}(h:fitsK [k] xs=true):∃ x,xs=[x]∧fitC k x=true:=by
 match xs,h with
 | [],h=>simp[fitsK] at h
 | [x],h=>exact⟨x,rfl,by simpa [fitsK] using h⟩
 | _ :: _ :: _,h=>simp[fitsK] at h
theorem flat_lits:∀ (D:Nat)(t:TypeId)(ks:List CK),flatA P D t=some ks→∀ xs,fitsK ks xs=true→P.keyLits D t xs=some (xs.map litC)
 | 0,_,_,h,_,_=>by simp[flatA] at h
 | D+1,t,ks,h,xs,hf=>by
   unfold flatA at h;unfold Program.keyLits;split at h
   ·rename_i hu;cases h;obtain⟨x,rfl,hx⟩:=fitC_one hf;cases x<;>simp only[fitC] at hx<;>try cases hx
    simp[hu,litC]
   ·rename_i k hu;cases h;obtain⟨x,rfl,hx⟩:=fitC_one hf;cases x<;>simp only[fitC] at hx<;>try cases hx
    simp only[baT,kindEqT] at hx;obtain⟨⟨rfl,h1⟩,h2⟩:=hx;simp only[hu,litC,Lit.wf,h1,h2,Bool.and_self,and_self,if_true,List.map_cons,List.map_nil]
   ·rename_i hu;cases h;obtain⟨x,rfl,hx⟩:=fitC_one hf;cases x<;>simp only[fitC] at hx<;>try cases hx
    rename_i s;rw[bleT] at hx;have:s.size≤maxLen:=by unfold maxLen;omega
    simp[hu,litC,this]
   ·rename_i n e hu;split at h
    ·rename_i ke he;rw[biE] at h;split at h
     ·rename_i hc;simp only[baT,beqT] at hc;cases h;have hlen:∀ m,(repK ke m).length=m * ke.length:=by
       intro m
       induction m with
       | zero=>simp[repK]
       | succ m ih=>rw[repK,List.length_append,ih,Nat.succ_mul];omega
      have key:∀ (m i:Nat),fitsK (repK ke m) (xs.drop (i * ke.length))=true→∃ ls,(List.range' i m).mapM (fun i=>P.keyLits D e ((xs.drop (i * P.cellsOf e)).take (P.cellsOf e)))=some ls∧ls.flatten=(xs.drop (i * ke.length)).map litC:=by
       intro m
       induction m with
       | zero =>
         intro i h0;have:=fitsK_len h0;refine⟨[],by simp,?_⟩;rw[List.eq_nil_of_length_eq_zero (l:=xs.drop (i * ke.length)) (by rw[this];rfl)];rfl
       | succ m ih =>
         intro i h0;rw[repK] at h0;obtain⟨h1,h2⟩:=fitsK_app h0;rw[List.drop_drop] at h2;obtain⟨ls,e1,e2⟩:=ih (i+1) (by rw[Nat.succ_mul];exact h2);have h3:=flat_lits D e ke he _ h1;refine⟨((xs.drop (i * ke.length)).take ke.length).map litC :: ls,?_,?_⟩
         ·rw[List.range'_succ,List.mapM_cons,← hc.1,h3];simp only[←hc.1] at e1;simp[e1]
         ·rw[List.flatten_cons,e2,← List.map_append,Nat.succ_mul,← List.drop_drop,List.take_append_drop]
      have h0:fitsK (repK ke n) (xs.drop (0 * ke.length))=true:=by simpa using hf
      obtain⟨ls,e1,e2⟩:=key n 0 h0;have hl:xs.length=P.cellsOf t:=by rw[fitsK_len hf,hlen,hc.2]
      simp only[hu,hl,if_true,List.range_eq_range',e1,Option.map_some,e2];simp
     ·cases h
    ·cases h
   ·rename_i fs hu;split at h
    ·rename_i kk hk;rw[biE] at h;split at h
     ·rename_i hc;rw[beqT] at hc;cases h;have key:∀ (l:List Field) (o:Nat) (kr:List CK),flatFs P (flatA P D) l o=some kr→fitsK kr (xs.drop o)=true→(∀ f∈l,f.name≠ "_") ∧
       ∃ ls,l.mapM (fun f=>P.keyLits D f.type ((xs.drop f.offset).take (P.cellsOf f.type)))=some ls∧ls.flatten=(xs.drop o).map litC:=by
       intro l
       induction l with
       | nil =>
         intro o kr hkr h0;simp only[flatFs] at hkr;cases hkr;have:=fitsK_len h0;refine⟨by simp,[],by simp,?_⟩;rw[List.eq_nil_of_length_eq_zero (l:=xs.drop o) (by rw[this];rfl)];rfl
       | cons f l ih =>
         intro o kr hkr h0;simp only[flatFs,biE] at hkr;split at hkr
         ·rename_i hfo;simp only[baT,beqT,bne_iff_ne,ne_eq] at hfo;obtain⟨hfo,hfn⟩:=hfo;split at hkr
          ·rename_i kf hkf;split at hkr
           ·rename_i hcl;rw[beqT] at hcl;split at hkr
            ·rename_i kr' hkr';cases hkr;obtain⟨h1,h2⟩:=fitsK_app h0;rw[List.drop_drop] at h2;obtain⟨q1,ls,e1,e2⟩:=ih (o+kf.length) kr' hkr' h2;have h3:=flat_lits D f.type kf hkf _ h1;refine⟨fun g hg=>(List.mem_cons.1 hg).elim (fun e=>e▸hfn) (q1 g),((xs.drop o).take kf.length).map litC :: ls,?_,?_⟩
             ·rw[List.mapM_cons,hfo,← hcl,h3];simp[e1]
             ·rw[List.flatten_cons,e2,← List.map_append,← List.drop_drop,List.take_append_drop]
            ·cases hkr
           ·cases hkr
          ·cases hkr
         ·cases hkr
      obtain⟨q1,ls,e1,e2⟩:=key fs.toList 0 _ hk (by simpa using hf);have hl:xs.length=P.cellsOf t:=by rw[fitsK_len hf,hc]
      have hall:fs.all (·.name != "_")=true:=by rw[Array.all_eq_true_iff_forall_mem];intro f hf';simpa using q1 f (by simpa using hf')
      simp only[hu,hl,hall,and_self,if_true,e1,Option.map_some,e2];simp
     ·cases h
    ·cases h
   ·cases h
def ckEq:List CK→List CK→Bool
 | [],[]=>true
 | .int j :: a,.int k :: b=>kindEq j k&&ckEq a b
 | .bool :: a,.bool :: b=>ckEq a b
 | .str :: a,.str :: b=>ckEq a b
 | _,_=>false
theorem ckEq_eq:∀ {a b:List CK},ckEq a b=true→a=b
 | [],[],_=>rfl
 | .int j :: a,.int k :: b,h=>by simp only[ckEq,baT,kindEqT] at h;rw[h.1,ckEq_eq h.2]
 | .bool :: a,.bool :: b,h=>by rw[ckEq_eq (a:=a) (b:=b) (by simpa [ckEq] using h)]
 | .str :: a,.str :: b,h=>by rw[ckEq_eq (a:=a) (b:=b) (by simpa [ckEq] using h)]
 | [],_ :: _,h=>by simp[ckEq] at h
 | _ :: _,[],h=>by simp[ckEq] at h
 | .int _ :: _,.bool :: _,h=>by simp[ckEq] at h
 | .int _ :: _,.str :: _,h=>by simp[ckEq] at h
 | .bool :: _,.int _ :: _,h=>by simp[ckEq] at h
 | .bool :: _,.str :: _,h=>by simp[ckEq] at h
 | .str :: _,.int _ :: _,h=>by simp[ckEq] at h
 | .str :: _,.bool :: _,h=>by simp[ckEq] at h
def flatChk(P:Program):List (TypeId×List CK)→Bool
 | []=>true
 | x :: l=>(match flatA P 6 x.1 with|some ks=>ckEq ks x.2|none=>false)&&P.keyTypeAt 6 x.1&& !(P.eqGuardType P.depth x.1) &&
     (match P.underlying x.1 with|some (.struct _)=>true|some (.array _ _)=>true|_=>false)&&Nat.beq x.2.length (P.cellsOf x.1)&&flatChk P l
theorem flat_ok:∀ {flat:List (TypeId×List CK)},flatChk P flat=true→FlatOk P flat
 | [],_,t,ks,h=>by simp[flatKs] at h
 | x :: l,hc,t,ks,h=>by
   simp only[flatChk,baT,Bool.not_eq_true',beqT] at hc;obtain⟨⟨⟨⟨⟨h1,h2⟩,h3⟩,h4⟩,h5⟩,h6⟩:=hc;rw[flatKs,biE] at h;split at h
   ·rename_i e;rw[beqT] at e;subst e;cases h;split at h1
    ·rename_i ks hks;have:=ckEq_eq h1;subst this;have formed:∀ xs:Array Value,fitsK x.2 xs.toList=true→(Value.agg xs).formed P x.1=true:=by
      intro xs hf;have hs:xs.size=P.cellsOf x.1:=by rw[←Array.length_toList,fitsK_len hf,h5]
      unfold Value.formed;split at h4<;>simp_all
     refine⟨fun xs ys w hx hy=>?_,h3,fun em xs w hx=>?_⟩
     ·obtain⟨r,r1,r2⟩:=run_equalIn_deep (P:=P) 9994 6 x.1 h2 w 6 6 (.agg xs) (.agg ys) _ _ (formed xs hx) (formed ys hy) (flat_lits 6 x.1 _ hks _ hx) (flat_lits 6 x.1 _ hks _ hy);have hr:r=eqCs xs.toList ys.toList:=by
       rw[Bool.eq_iff_iff];exact(r2.trans (litC_inj hx hy)).trans (eqCs_iff hx hy).symm
      rw[←hr];exact r1
     ·exact run_checkKey_deep em 9994 6 x.1 h2 w 6 (.agg xs) _ (formed xs hx) (flat_lits 6 x.1 _ hks _ hx)
    ·cases h1
   ·exact flat_ok h6 t ks h
end
def Ev(E:Env)(c:Code)(rd:Option Nat)(many:Nat)(t:T Value)(d:List Deferred)(h:T Blk)(n:Nat)(o:Out):Prop:=∃ F,∀ f,F≤f→exec E f c rd many t d h n=o
def Cl(E:Env)(g:FuncId)(args:List Value)(h:T Blk)(n:Nat)(o:COut):Prop:=∃ F,∀ f,F≤f→callF E (exec E f) g args h n=o
section
variable {E:Env}{rd:Option Nat}{many:Nat}{t t1:T Value}{d d1:List Deferred}{h h1:T Blk}{n n1:Nat}{o:Out}
theorem Ev.step{c:Code}(hx:∃ F,∀ f,F≤f→stepA E (exec E f) c rd many t d h n=o):Ev E c rd many t d h n o:=by
 obtain⟨F,hF⟩:=hx;refine⟨F+1,fun f hf=>?_⟩;obtain⟨k,rfl⟩:∃ k,f=k+1:=⟨f-1,by omega⟩
 exact hF k (by omega)
theorem Ev.seq{a b:Code}(ha:Ev E a rd many t d h n (.ok .normal t1 d1 h1 n1))(hb:Ev E b rd many t1 d1 h1 n1 o):Ev E (.seq a b) rd many t d h n o:=by obtain⟨F,hF⟩:=ha;obtain⟨F',hF'⟩:=hb;refine Ev.step ⟨max F F',fun f hf=>?_⟩;simp only[stepA,hF f (by omega)];exact hF' f (by omega)
theorem Ev.seq_out{a b:Code}{e:Ex}(ha:Ev E a rd many t d h n (.ok e t1 d1 h1 n1))(he:e≠ .normal):Ev E (.seq a b) rd many t d h n (.ok e t1 d1 h1 n1):=by obtain⟨F,hF⟩:=ha;refine Ev.step ⟨F,fun f hf=>?_⟩;simp only[stepA,hF f hf];cases e<;>first|rfl|exact absurd rfl he
theorem Ev.ret:Ev E .ret rd many t d h n (.ok .ret t d h n):=Ev.step ⟨0,fun _ _=>rfl⟩
theorem Ev.skip:Ev E .skip rd many t d h n (.ok .normal t d h n):=Ev.step ⟨0,fun _ _=>rfl⟩
theorem Ev.exit{id:Nat}:Ev E (.exit id) rd many t d h n (.ok (.exit id) t d h n):=Ev.step ⟨0,fun _ _=>rfl⟩
theorem Ev.label{l:Nat}:Ev E (.label l) rd many t d h n (.ok .normal t d h n):=Ev.step ⟨0,fun _ _=>rfl⟩
theorem Ev.cond_true{x:Operand}{a b:Code}(hx:evA E t x=some (.bool true))(ha:Ev E a rd many t d h n o):Ev E (.cond x a b) rd many t d h n o:=by obtain⟨F,hF⟩:=ha;exact Ev.step ⟨F,fun f hf=>by simp only[stepA,hx,hF f hf]⟩
theorem Ev.cond_false{x:Operand}{a b:Code}(hx:evA E t x=some (.bool false))(hb:Ev E b rd many t d h n o):Ev E (.cond x a b) rd many t d h n o:=by obtain⟨F,hF⟩:=hb;exact Ev.step ⟨F,fun f hf=>by simp only[stepA,hx,hF f hf]⟩
theorem Ev.scope{b:Code}(hb:Ev E b none many t d h n o):Ev E (.scope b) none many t d h n o:=by obtain⟨F,hF⟩:=hb;exact Ev.step ⟨F,fun f hf=>by simp only[stepA,hF f hf]⟩
theorem Ev.block_normal{id:Nat}{b:Code}(hb:Ev E b rd many t d h n (.ok .normal t1 d1 h1 n1)):Ev E (.block id b) rd many t d h n (.ok .normal t1 d1 h1 n1):=by obtain⟨F,hF⟩:=hb;exact Ev.step ⟨F,fun f hf=>by simp only[stepA,hF f hf]⟩
theorem Ev.block_ret{id:Nat}{b:Code}(hb:Ev E b rd many t d h n (.ok .ret t1 d1 h1 n1)):Ev E (.block id b) rd many t d h n (.ok .ret t1 d1 h1 n1):=by obtain⟨F,hF⟩:=hb;exact Ev.step ⟨F,fun f hf=>by simp only[stepA,hF f hf]⟩
theorem Ev.block_exit{id:Nat}{b:Code}(hb:Ev E b rd many t d h n (.ok (.exit id) t1 d1 h1 n1)):Ev E (.block id b) rd many t d h n (.ok .normal t1 d1 h1 n1):=by obtain⟨F,hF⟩:=hb;exact Ev.step ⟨F,fun f hf=>by simp only[stepA,hF f hf,Nat.beq_refl,_root_.cond_true]⟩
theorem Ev.block_other{id id':Nat}{b:Code}(hne:Nat.beq id' id=false)(hb:Ev E b rd many t d h n (.ok (.exit id') t1 d1 h1 n1)):Ev E (.block id b) rd many t d h n (.ok (.exit id') t1 d1 h1 n1):=by obtain⟨F,hF⟩:=hb;exact Ev.step ⟨F,fun f hf=>by simp only[stepA,hF f hf,hne,_root_.cond_false]⟩
theorem Ev.loop_step{b:Code}(hb:Ev E b rd many t d h n (.ok .normal t1 d1 h1 n1))(hl:Ev E (.loop b) rd many t1 d1 h1 n1 o):Ev E (.loop b) rd many t d h n o:=by obtain⟨F,hF⟩:=hb;obtain⟨F',hF'⟩:=hl;refine Ev.step ⟨max F F',fun f hf=>?_⟩;simp only[stepA,hF f (by omega)];exact hF' f (by omega)
theorem Ev.loop_out{b:Code}{e:Ex}(hb:Ev E b rd many t d h n (.ok e t1 d1 h1 n1))(he:e≠ .normal):Ev E (.loop b) rd many t d h n (.ok e t1 d1 h1 n1):=by obtain⟨F,hF⟩:=hb;refine Ev.step ⟨F,fun f hf=>?_⟩;simp only[stepA,hF f hf];cases e<;>first|rfl|exact absurd rfl he
theorem Cl.body{g:FuncId}{args:List Value}{fn:Func}{c:Code}{e:Ex}{v:Value}(hm:memoA E g args h=none)(hf:E.fn.get g=some fn)(hb:fn.body=some c)(hl:Nat.ble args.length fn.ntmps=true)(he:∀ id,e≠ .exit id)
 (hc:Ev E c none fn.ntmps (argsT args 0 .leaf) [] h n (.ok e t1 [] h1 n1)) (hr:resA E fn t1 h1=some v) (hx:E.ext g args h n=none:=by rfl):Cl E g args h n (.ret v h1 n1):=by
 obtain⟨F,hF⟩:=hc;refine⟨F,fun f hf'=>?_⟩;unfold callF callG;simp only[hm,hx,hf,hb,hl,_root_.cond_true,hF f hf'];cases e<;>first|exact absurd rfl (he _)|simp only[leaveA,hr]
theorem Cl.memo{g:FuncId}{args:List Value}{v:Value}(hm:memoA E g args h=some v):Cl E g args h n (.ret v h n):=⟨0,fun f _=>by unfold callF;rw[hm]⟩
end
def WP(E:Env)(many:Nat)(c:Code)(t:T Value)(h:T Blk)(n:Nat)(Q:Ex→T Value→T Blk→Nat→Prop):Prop :=
 ∃ e t' h' n',Ev E c none many t [] h n (.ok e t' [] h' n')∧Q e t' h' n'
def Rd(E:Env)(l:Nat)(args:List Value)(h:T Blk)(n:Nat)(o:COut):Prop:=∃ F,∀ f,F≤f→roundF E (exec E f) l args h n=o
def OpsW(E:Env)(many:Nat)(all:List Oper):List Oper→T Value→T Blk→Nat→(T Value→T Blk→Nat→Prop)→Prop
 | [],t,h,n,Q=>Q t h n
 | o :: l,t,h,n,Q =>
   match wantedA all t o with
   | some true =>
     (match opA E t h n o with
      | .val v h' n'=>(match putT many o.dst v t with|some t'=>OpsW E many all l t' h' n' Q|none=>False)
      | .skip h' n'=>(match putT many o.dst undefV t with|some t'=>OpsW E many all l t' h' n' Q|none=>False)
      | .enter f args=>∃ v h' n',Cl E f args h n (.ret v h' n')∧(match putT many o.dst v t with|some t'=>OpsW E many all l t' h' n' Q|none=>False)
      | .round r args=>∃ v h' n',Rd E r args h n (.ret v h' n')∧(match putT many o.dst v t with|some t'=>OpsW E many all l t' h' n' Q|none=>False)
      | _=>False)
   | some false=>(match putT many o.dst undefV t with|some t'=>OpsW E many all l t' h n Q|none=>False)
   | none=>False
theorem OpsW.sound{E:Env}{many:Nat}{all:List Oper}:∀ {l:List Oper}{t:T Value}{h:T Blk}{n:Nat}{Q:T Value→T Blk→Nat→Prop},OpsW E many all l t h n Q →
 ∃ t' h' n',Q t' h' n'∧∃ F,∀ f,F≤f→opsS E (exec E f) none many all l t [] h n= .ok .normal t' [] h' n'
 | [],t,h,n,Q,hq=>⟨t,h,n,hq,0,fun _ _=>rfl⟩
 | o :: l,t,h,n,Q,hq=>by
   simp only[OpsW] at hq;split at hq
   ·rename_i hw;split at hq
    ·rename_i v h1 n1 ho;split at hq
     ·rename_i t1 hp;obtain⟨t',h',n',q,F,hF⟩:=OpsW.sound hq;exact⟨t',h',n',q,F,fun f hf=>by simp only[opsS,hw,opC,ho,hp,hF f hf]⟩
     ·exact hq.elim
    ·rename_i h1 n1 ho;split at hq
     ·rename_i t1 hp;obtain⟨t',h',n',q,F,hF⟩:=OpsW.sound hq;exact⟨t',h',n',q,F,fun f hf=>by simp only[opsS,hw,opC,ho,hp,hF f hf]⟩
     ·exact hq.elim
    ·rename_i g args ho;obtain⟨v,h1,n1,⟨F1,hF1⟩,hq⟩:=hq;split at hq
     ·rename_i t1 hp;obtain⟨t',h',n',q,F,hF⟩:=OpsW.sound hq;exact⟨t',h',n',q,max F F1,fun f hf=>by simp only[opsS,hw,opC,ho,hF1 f (by omega),hp,hF f (by omega)]⟩
     ·exact hq.elim
    ·rename_i g args ho;obtain⟨v,h1,n1,⟨F1,hF1⟩,hq⟩:=hq;split at hq
     ·rename_i t1 hp;obtain⟨t',h',n',q,F,hF⟩:=OpsW.sound hq;exact⟨t',h',n',q,max F F1,fun f hf=>by simp only[opsS,hw,opC,ho,hF1 f (by omega),hp,hF f (by omega)]⟩
     ·exact hq.elim
    ·exact hq.elim
   ·rename_i hw;split at hq
    ·rename_i t1 hp;obtain⟨t',h',n',q,F,hF⟩:=OpsW.sound hq;exact⟨t',h',n',q,F,fun f hf=>by simp only[opsS,hw,hp,hF f hf]⟩
    ·exact hq.elim
   ·exact hq.elim
def OpsDW(E:Env)(many:Nat)(all:List Oper):List Oper→List Ent→T Value→T Blk→Nat→(List Ent→T Value→T Blk→Nat→Prop)→Prop
 | [],acc,t,h,n,Q=>Q acc t h n
 | o :: l,acc,t,h,n,Q =>
   match wantedA all t o with
   | some true =>
     belowT n t (opTmps o)=true ∧
     (match opA E t h n o with
      | .val v h' n'=>(match putT many o.dst v t with|some t'=>OpsDW E many all l (acc ++ [⟨true,t,v,h,h',n,n'⟩]) t' h' n' Q|none=>False)
      | .skip h' n'=>(match putT many o.dst undefV t with|some t'=>OpsDW E many all l (acc ++ [⟨true,t,undefV,h,h',n,n'⟩]) t' h' n' Q|none=>False)
      | .enter f args=>∃ v h' n',Cl E f args h n (.ret v h' n')∧(match putT many o.dst v t with|some t'=>OpsDW E many all l (acc ++ [⟨true,t,v,h,h',n,n'⟩]) t' h' n' Q|none=>False)
      | _=>False)
   | some false=>(match putT many o.dst undefV t with|some t'=>OpsDW E many all l (acc ++ [⟨false,t,undefV,h,h,n,n⟩]) t' h n Q|none=>False)
   | none=>False
theorem OpsDW.sound{E:Env}{many:Nat}{all:List Oper}:∀ {l:List Oper}{acc:List Ent}{t:T Value}{h:T Blk}{n:Nat}{Q:List Ent→T Value→T Blk→Nat→Prop},OpsDW E many all l acc t h n Q →
 ∃ log t' h' n',Q log t' h' n'∧∃ F,∀ f,F≤f→opsD E (exec E f) many all l acc t h n= .ok log t' h' n'
 | [],acc,t,h,n,Q,hq=>⟨acc,t,h,n,hq,0,fun _ _=>rfl⟩
 | o :: l,acc,t,h,n,Q,hq=>by
   simp only[OpsDW] at hq;split at hq
   ·rename_i hw;obtain⟨hb,hq⟩:=hq;split at hq
    ·rename_i v h1 n1 ho;split at hq
     ·rename_i t1 hp;obtain⟨log,t',h',n',q,F,hF⟩:=OpsDW.sound hq;exact⟨log,t',h',n',q,F,fun f hf=>by simp only[opsD,hw,opN,ho,hp,hb,_root_.cond_true,hF f hf]⟩
     ·exact hq.elim
    ·rename_i h1 n1 ho;split at hq
     ·rename_i t1 hp;obtain⟨log,t',h',n',q,F,hF⟩:=OpsDW.sound hq;exact⟨log,t',h',n',q,F,fun f hf=>by simp only[opsD,hw,opN,ho,hp,hb,_root_.cond_true,hF f hf]⟩
     ·exact hq.elim
    ·rename_i g args ho;obtain⟨v,h1,n1,⟨F1,hF1⟩,hq⟩:=hq;split at hq
     ·rename_i t1 hp;obtain⟨log,t',h',n',q,F,hF⟩:=OpsDW.sound hq;exact⟨log,t',h',n',q,max F F1,fun f hf=>by simp only[opsD,hw,opN,ho,hF1 f (by omega),hp,hb,_root_.cond_true,hF f (by omega)]⟩
     ·exact hq.elim
    ·exact hq.elim
   ·rename_i hw;split at hq
    ·rename_i t1 hp;obtain⟨log,t',h',n',q,F,hF⟩:=OpsDW.sound hq;exact⟨log,t',h',n',q,F,fun f hf=>by simp only[opsD,hw,hp,hF f hf]⟩
    ·exact hq.elim
   ·exact hq.elim
section
variable {E:Env}{many:Nat}{t:T Value}{h:T Blk}{n:Nat}{Q:Ex→T Value→T Blk→Nat→Prop}
theorem WP.mono{c:Code}{Q':Ex→T Value→T Blk→Nat→Prop}(hw:WP E many c t h n Q)(hq:∀ e t h n,Q e t h n→Q' e t h n):WP E many c t h n Q':=by obtain⟨e,t',h',n',h1,h2⟩:=hw;exact⟨e,t',h',n',h1,hq _ _ _ _ h2⟩
def SeqQ(E:Env)(many:Nat)(b:Code)(Q:Ex→T Value→T Blk→Nat→Prop)(e:Ex)(t:T Value)(h:T Blk)(n:Nat):Prop :=
 match e with
 | .normal=>WP E many b t h n Q
 | e=>Q e t h n
theorem WP.seq{a b:Code}(hw:WP E many a t h n (SeqQ E many b Q)):WP E many (.seq a b) t h n Q:=by
 obtain⟨e,t',h',n',h1,h2⟩:=hw;cases e with
 | normal =>
   obtain⟨e,t2,h2',n2,h3,h4⟩:=h2;exact⟨e,t2,h2',n2,.seq h1 h3,h4⟩
 | exit id=>exact⟨_,t',h',n',.seq_out h1 (by simp),h2⟩
 | ret=>exact⟨_,t',h',n',.seq_out h1 (by simp),h2⟩
theorem WP.reg{id:Nat}{ops:Array Oper}(hw:OpsW E many ops.toList ops.toList t h n (Q .normal)):WP E many (.region id ops false) t h n Q:=by obtain⟨t',h',n',h1,F,hF⟩:=hw.sound;exact⟨.normal,t',h',n',Ev.step ⟨F,fun f hf=>by simp only[stepA];exact hF f hf⟩,h1⟩
theorem WP.regD{id:Nat}{ops:Array Oper}(hR:regOK ops.toList=true)(hw:OpsDW E many ops.toList ops.toList [] t h n (fun log t' h' n'=>floatOK E ops.toList log (regFl ops.toList)=true∧Q .normal t' h' n')):WP E many (.region id ops true) t h n Q:=by obtain⟨log,t',h',n',⟨h0,h1⟩,F,hF⟩:=hw.sound;refine⟨.normal,t',h',n',Ev.step ⟨F,fun f hf=>?_⟩,h1⟩;simp only[stepA,Go.Sx.regD,hR,_root_.cond_true,hF f hf,h0]
theorem WP.ret(hq:Q .ret t h n):WP E many .ret t h n Q:=⟨.ret,t,h,n,.ret,hq⟩
theorem WP.skip(hq:Q .normal t h n):WP E many .skip t h n Q:=⟨.normal,t,h,n,.skip,hq⟩
theorem WP.exit{id:Nat}(hq:Q (.exit id) t h n):WP E many (.exit id) t h n Q:=⟨.exit id,t,h,n,.exit,hq⟩
theorem WP.cond{x:Operand}{a b:Code}{v:Bool}(hx:evA E t x=some (.bool v))(ha:v=true→WP E many a t h n Q)(hb:v=false→WP E many b t h n Q):WP E many (.cond x a b) t h n Q:=by
 cases v with
 | true =>
   obtain⟨e,t',h',n',h1,h2⟩:=ha rfl;exact⟨e,t',h',n',.cond_true hx h1,h2⟩
 | false =>
   obtain⟨e,t',h',n',h1,h2⟩:=hb rfl;exact⟨e,t',h',n',.cond_false hx h1,h2⟩
def BlockQ(id:Nat)(Q:Ex→T Value→T Blk→Nat→Prop)(e:Ex)(t:T Value)(h:T Blk)(n:Nat):Prop :=
 match e with
 | .exit i=>bif Nat.beq i id then Q .normal t h n else Q (.exit i) t h n
 | e=>Q e t h n
theorem WP.block{id:Nat}{b:Code}(hw:WP E many b t h n (BlockQ id Q)):WP E many (.block id b) t h n Q:=by
 obtain⟨e,t',h',n',h1,h2⟩:=hw;cases e with
 | normal=>exact⟨_,t',h',n',.block_normal h1,h2⟩
 | ret=>exact⟨_,t',h',n',.block_ret h1,h2⟩
 | exit i =>
   simp only[BlockQ,biE,beqT] at h2;by_cases hi:i=id
   ·subst hi;rw[if_pos rfl] at h2;exact⟨_,t',h',n',.block_exit h1,h2⟩
   ·rw[if_neg hi] at h2;refine⟨_,t',h',n',.block_other ?_ h1,h2⟩;cases hb:Nat.beq i id with
    | false=>rfl
    | true=>rw[beqT] at hb;exact absurd hb hi
theorem WP.loop{b:Code}(I:Nat→T Value→T Blk→Nat→Prop)(hb:∀ k t h n,I k t h n→WP E many b t h n (fun e t' h' n'=>match e with| .normal=>∃ k',k'<k∧I k' t' h' n'|e=>Q e t' h' n')) :
 ∀ k t h n,I k t h n→WP E many (.loop b) t h n Q:=by
 intro k
 induction k using Nat.strongRecOn with
 | _ k ih =>
   intro t h n hi;obtain⟨e,t',h',n',h1,h2⟩:=hb k t h n hi;cases e with
   | normal =>
     obtain⟨k',h3,h4⟩:=h2;obtain⟨e,t2,h2',n2,h5,h6⟩:=ih k' h3 t' h' n' h4;exact⟨e,t2,h2',n2,.loop_step h1 h5,h6⟩
   | exit id=>exact⟨_,t',h',n',.loop_out h1 (by simp),h2⟩
   | ret=>exact⟨_,t',h',n',.loop_out h1 (by simp),h2⟩
end
theorem Cl.wp{E:Env}{g:FuncId}{args:List Value}{h:T Blk}{n:Nat}{R:Value→T Blk→Nat→Prop}{fn:Func}{c:Code}{many:Nat}(hm:memoA E g args h=none)(hf:E.fn.get g=some fn)(hb:fn.body=some c)(hmany:fn.ntmps=many)
 (hl:Nat.ble args.length many=true) (hw:WP E many c (argsT args 0 .leaf) h n (fun e t' h' n'=>(∀ id,e≠ .exit id)∧∃ v,resA E fn t' h'=some v∧R v h' n')) (hx:E.ext g args h n=none:=by rfl):∃ v h' n',Cl E g args h n (.ret v h' n')∧R v h' n':=by
 subst hmany;obtain⟨e,t',h',n',h1,h2,v,h3,h4⟩:=hw;exact⟨v,h',n',Cl.body hm hf hb hl h2 h1 h3 hx,h4⟩
end Go.Sx
namespace Go.Sx.Az
noncomputable section
inductive IB where
 | c
 | v (j:Nat)
 | ln (j:Nat)
structure IE where
 b:IB
 k:Int
inductive CT where
 | int (k:IntKind)
 | bool
 | str
 | sl (q:Nat)
inductive RK where
 | top
 | cur
 | low
inductive NT where
 | int (k:IntKind)
 | bool
 | str
 | sl (q:Nat) (r:RK)
inductive SV where
 | i (k:IntKind) (e:IE)
 | b (x:Bool)
 | bn (j:Nat) (neg:Bool)
 | le (x y:IE) (neg:Bool)
 | eq (x y:IE) (neg:Bool)
 | sn (j:Nat)
 | lit (v:Value)
 | ds (j:Nat)
 | dp (j:Nat) (e:IE) (sz off:Nat)
 | os (i:Nat) (len low:IE) (sz:Nat)
 | p (i off:Nat)
 | pv (i:Nat) (e:IE) (sz off:Nat)
 | g (k:Nat)
 | m (i:Nat)
 | f (g:FuncId) (first capt:List SV)
 | agg (l:List SV)
 | tup (l:List SV)
inductive AB where
 | cells (l:List SV)
 | vec (q:Nat) (r:RK) (low:IE)
 | map (kt:TypeId) (ct:CT)
 | iter (j:Nat) (e:IE)
structure S where
 t:List (Nat×SV)
 ty:List NT
 nb:Nat
 h:List (Nat×AB)
 fs:List (IE×IE)
 r:List (Nat×List SV)
 rv:List (Nat×(Nat×RK×IE))
structure Cfg where
 E0:Env
 Γ:List (List CT)
 rc:List (TypeId×Nat)
 lim:Nat
def Cfg.E(C:Cfg):Env:={C.E0 with ext:=fun _ _ _ _=>none}
def get1{α:Type}:List (Nat×α)→Nat→Option α
 | [],_=>none
 | x :: l,k=>bif Nat.beq x.1 k then some x.2 else get1 l k
def del1{α:Type}:List (Nat×α)→Nat→List (Nat×α)
 | [],_=>[]
 | x :: l,k=>bif Nat.beq x.1 k then del1 l k else x :: del1 l k
theorem get1_cons{α:Type}(x:Nat×α)(l:List (Nat×α))(j:Nat):get1 (x :: l) j=if x.1=j then some x.2 else get1 l j:=by simp only[get1,biE,beqT]
theorem del1_cons{α:Type}(x:Nat×α)(l:List (Nat×α))(j:Nat):del1 (x :: l) j=if x.1=j then del1 l j else x :: del1 l j:=by simp only[del1,biE,beqT]
theorem get1_del{α:Type}:∀ (l:List (Nat×α))(k j:Nat),get1 (del1 l k) j=if j=k then none else get1 l j
 | [],k,j=>by simp[del1,get1]
 | x :: l,k,j=>by
   rw[del1_cons];by_cases hk:x.1=k
   ·rw[if_pos hk,get1_del l k j];by_cases hj:j=k
    ·rw[if_pos hj,if_pos hj]
    ·rw[if_neg hj,if_neg hj,get1_cons,if_neg (by omega)]
   ·rw[if_neg hk,get1_cons,get1_cons,get1_del l k j];by_cases hj:x.1=j
    ·rw[if_pos hj,if_neg (by omega),if_pos hj]
    ·rw[if_neg hj,if_neg hj]
def put1{α:Type}(l:List (Nat×α))(k:Nat)(x:α):List (Nat×α):=(k,x) :: del1 l k
theorem get1_put{α:Type}(l:List (Nat×α))(k j:Nat)(x:α):get1 (put1 l k x) j=if j=k then some x else get1 l j:=by
 unfold put1;rw[get1_cons,get1_del];by_cases hj:k=j
 ·rw[if_pos hj,if_pos hj.symm]
 ·rw[if_neg hj,if_neg (by omega),if_neg (by omega)]
def evB(ν:List Value):IB→Option Int
 | .c=>some 0
 | .v j=>(match ν[j]? with|some (.int _ x)=>some x|_=>none)
 | .ln j=>(match ν[j]? with|some (.slice _ l _)=>some (l:Int)|some (.string s)=>some (s.size:Int)|_=>none)
def evI(ν:List Value)(e:IE):Option Int :=
 match evB ν e.b with
 | some x=>some (x+e.k)
 | none=>none
theorem evB_app{ν:List Value}{b:IB}{x:Int}(l:List Value)(h:evB ν b=some x):evB (ν ++ l) b=some x:=by
 cases b with
 | c=>exact h
 | v j =>
   simp only[evB] at h ⊢;cases hj:ν[j]? with
   | none=>rw[hj] at h;cases h
   | some y =>
     rw[hj] at h;rw[List.getElem?_append_left (gsI hj).1,hj];exact h
 | ln j =>
   simp only[evB] at h ⊢;cases hj:ν[j]? with
   | none=>rw[hj] at h;cases h
   | some y =>
     rw[hj] at h;rw[List.getElem?_append_left (gsI hj).1,hj];exact h
theorem evI_app{ν:List Value}{e:IE}{x:Int}(l:List Value)(h:evI ν e=some x):evI (ν ++ l) e=some x:=by
 unfold evI at h ⊢;cases hb:evB ν e.b with
 | none=>rw[hb] at h;cases h
 | some y=>rw[hb] at h;rw[evB_app l hb];exact h
theorem evI_add{ν:List Value}{e:IE}{x:Int}(k:Int)(h:evI ν e=some x):evI ν ⟨e.b,e.k+k⟩=some (x+k):=by
 unfold evI at h ⊢;cases hb:evB ν e.b with
 | none=>rw[hb] at h;cases h
 | some y =>
   rw[hb] at h;simp only[Option.some.injEq] at h ⊢;omega
theorem evI_c{ν:List Value}(k:Int):evI ν ⟨.c,k⟩=some k:=by simp[evI,evB]
def FtOK(ν:List Value)(f:IE×IE):Prop:=∃ x y,evI ν f.1=some x∧evI ν f.2=some y∧x≤y
theorem FtOK.app{ν:List Value}{f:IE×IE}(l:List Value)(h:FtOK ν f):FtOK (ν ++ l) f:=by obtain⟨x,y,h1,h2,h3⟩:=h;exact⟨x,y,evI_app l h1,evI_app l h2,h3⟩
def IB.beq:IB→IB→Bool
 | .c,.c=>true
 | .v i,.v j=>Nat.beq i j
 | .ln i,.ln j=>Nat.beq i j
 | _,_=>false
theorem IB.beq_eq{a b:IB}(h:IB.beq a b=true):a=b:=by cases a<;>cases b<;>simp[IB.beq,beqT] at h<;>first|rfl|(subst h;rfl)
noncomputable def leB(x y:IE):Bool:=bif IB.beq x.b y.b then leI x.k y.k else false
noncomputable def leF(fs:List (IE×IE)):Nat→IE→IE→Bool
 | 0,x,y=>leB x y
 | f+1,x,y=>leB x y||fs.any (fun p=>bif IB.beq p.1.b x.b then leF fs f ⟨p.2.b,addI p.2.k (subI x.k p.1.k)⟩ y else false)
theorem leB_ok{ν:List Value}{x y:IE}{a b:Int}(h:leB x y=true)(hx:evI ν x=some a)(hy:evI ν y=some b):a≤b:=by
 unfold leB at h;rw[biE] at h;split at h
 ·rename_i hb;have:=IB.beq_eq hb;rw[leI_eq,decide_eq_true_eq] at h;unfold evI at hx hy;rw[this] at hx;cases hv:evB ν y.b with
  | none=>rw[hv] at hx;cases hx
  | some z =>
    rw[hv] at hx hy;simp only[Option.some.injEq] at hx hy;omega
 ·cases h
theorem leF_ok{ν:List Value}{fs:List (IE×IE)}(hf:∀ p∈fs,FtOK ν p):∀ (f:Nat){x y:IE}{a b:Int},leF fs f x y=true→evI ν x=some a→evI ν y=some b→a≤b
 | 0,x,y,a,b,h,hx,hy=>leB_ok h hx hy
 | f+1,x,y,a,b,h,hx,hy=>by
   simp only[leF,Bool.or_eq_true,List.any_eq_true] at h;rcases h with h|⟨p,hp,h⟩
   ·exact leB_ok h hx hy
   ·rw[biE] at h;split at h
    ·rename_i hb;have hb:=IB.beq_eq hb;obtain⟨u,v,h1,h2,h3⟩:=hf p hp;rw[addI_eq,subI_eq] at h;have h4:=leF_ok hf f h (evI_add (x.k-p.1.k) h2) hy;unfold evI at hx h1;rw[hb] at h1;cases hv:evB ν x.b with
     | none=>rw[hv] at hx;cases hx
     | some z =>
       rw[hv] at hx h1;simp only[Option.some.injEq] at hx h1;omega
    ·cases h
mutual
inductive V (ν:List Value) (β:List (Option Nat)):SV→Value→Prop
 | i {k:IntKind} {e:IE} {x:Int} (h:evI ν e=some x) (h1:k.min≤x) (h2:x≤k.max):V ν β (.i k e) (.int k x)
 | b (x:Bool):V ν β (.b x) (.bool x)
 | bn {j:Nat} {neg x:Bool} (h:ν[j]? =some (.bool x)):V ν β (.bn j neg) (.bool (neg != x))
 | le {e e':IE} {neg:Bool} {x y:Int} (h:evI ν e=some x) (h':evI ν e'=some y):V ν β (.le e e' neg) (.bool (neg != decide (x≤y)))
 | eq {e e':IE} {neg:Bool} {x y:Int} (h:evI ν e=some x) (h':evI ν e'=some y):V ν β (.eq e e' neg) (.bool (neg != decide (x=y)))
 | sn {j:Nat} {s:ByteArray} (h:ν[j]? =some (.string s)) (h1:s.size≤16000000):V ν β (.sn j) (.string s)
 | lit {v:Value} (h:lit 6 v=true):V ν β (.lit v) v
 | ds {j:Nat} {a:Option Addr} {l c:Nat} (h:ν[j]? =some (.slice a l c)):V ν β (.ds j) (.slice a l c)
 | dp {j b o l c x:Nat} {e:IE} {sz off:Nat} (h:ν[j]? =some (.slice (some ⟨b,o,none⟩) l c)) (h1:evI ν e=some (x:Int)) (h2:x<l):V ν β (.dp j e sz off) (.pointer (some ⟨b,o+x * sz+off,none⟩))
 | os {i b L W c:Nat} {len low:IE} {sz:Nat} (h:β[i]? =some (some b)) (h1:evI ν len=some (L:Int)) (h2:evI ν low=some (W:Int)) (h3:L≤W) (h4:W<1000000000) (h5:c=UNK * sz+W∨c=W) (h6:0<sz):V ν β (.os i len low sz) (.slice (some ⟨b,0,none⟩) L c)
 | osn {i:Nat} {len low:IE} {sz:Nat} (h:β[i]? =some none) (h1:evI ν len=some 0) (h2:evI ν low=some 0) (h6:0<sz):V ν β (.os i len low sz) (.slice none 0 0)
 | p {i b off:Nat} (h:β[i]? =some (some b)):V ν β (.p i off) (.pointer (some ⟨b,off,none⟩))
 | pv {i b x:Nat} {e:IE} {sz off:Nat} (h:β[i]? =some (some b)) (h1:evI ν e=some (x:Int)):V ν β (.pv i e sz off) (.pointer (some ⟨b,x * sz+off,none⟩))
 | g (k:Nat):V ν β (.g k) (.pointer (some ⟨k,0,none⟩))
 | m {i b:Nat} (h:β[i]? =some (some b)):V ν β (.m i) (.map (some b))
 | f {g:FuncId} {first capt:List SV} {a c:List Value} (h:VL ν β first a) (h1:VL ν β capt c):V ν β (.f g first capt) (.func (.func g) ⟨a⟩ ⟨c⟩)
 | agg {l:List SV} {vs:List Value} (h:VL ν β l vs):V ν β (.agg l) (.agg ⟨vs⟩)
 | tup {l:List SV} {vs:List Value} (h:VL ν β l vs):V ν β (.tup l) (.tuple ⟨vs⟩)
inductive VL (ν:List Value) (β:List (Option Nat)):List SV→List Value→Prop
 | nil:VL ν β [] []
 | cons {x:SV} {l:List SV} {v:Value} {vs:List Value} (h:V ν β x v) (hl:VL ν β l vs):VL ν β (x :: l) (v :: vs)
end
theorem gapp{α:Type}{l:List α}{j:Nat}{x:α}(m:List α)(h:l[j]? =some x):(l ++ m)[j]? =some x:=by rw[List.getElem?_append_left (gsI h).1,h]
mutual
theorem V.app{ν:List Value}{β:List (Option Nat)}{x:SV}{v:Value}(l:List Value)(m:List (Option Nat)):V ν β x v→V (ν ++ l) (β ++ m) x v
 | .i h h1 h2=> .i (evI_app l h) h1 h2
 | .b x=> .b x
 | .bn h=> .bn (gapp l h)
 | .le h h'=> .le (evI_app l h) (evI_app l h')
 | .eq h h'=> .eq (evI_app l h) (evI_app l h')
 | .sn h h1=> .sn (gapp l h) h1
 | .lit h=> .lit h
 | .ds h=> .ds (gapp l h)
 | .dp h h1 h2=> .dp (gapp l h) (evI_app l h1) h2
 | .os h h1 h2 h3 h4 h5 h6=> .os (gapp m h) (evI_app l h1) (evI_app l h2) h3 h4 h5 h6
 | .osn h h1 h2 h6=> .osn (gapp m h) (evI_app l h1) (evI_app l h2) h6
 | .p h=> .p (gapp m h)
 | .pv h h1=> .pv (gapp m h) (evI_app l h1)
 | .g k=> .g k
 | .m h=> .m (gapp m h)
 | .f h h1=> .f (VL.app l m h) (VL.app l m h1)
 | .agg h=> .agg (VL.app l m h)
 | .tup h=> .tup (VL.app l m h)
theorem VL.app{ν:List Value}{β:List (Option Nat)}{x:List SV}{v:List Value}(l:List Value)(m:List (Option Nat)):VL ν β x v→VL (ν ++ l) (β ++ m) x v
 | .nil=> .nil
 | .cons h hl=> .cons (V.app l m h) (VL.app l m hl)
end
def Ext(ν:List Value)(β:List (Option Nat))(ν':List Value)(β':List (Option Nat)):Prop:=(∃ l,ν'=ν ++ l)∧∃ m,β'=β ++ m
section
variable {ν ν' ν'':List Value}{β β' β'':List (Option Nat)}
theorem Ext.rfl':Ext ν β ν β:=⟨⟨[],by simp⟩,[],by simp⟩
theorem Ext.trans(h:Ext ν β ν' β')(h':Ext ν' β' ν'' β''):Ext ν β ν'' β'':=by obtain⟨⟨l,rfl⟩,m,rfl⟩:=h;obtain⟨⟨l',rfl⟩,m',rfl⟩:=h';exact⟨⟨l ++ l',by simp⟩,m ++ m',by simp⟩
theorem Ext.nu(h:Ext ν β ν' β'){e:IE}{x:Int}(hx:evI ν e=some x):evI ν' e=some x:=by obtain⟨⟨l,rfl⟩,m,rfl⟩:=h;exact evI_app l hx
theorem Ext.be(h:Ext ν β ν' β'){i:Nat}{o:Option Nat}(hx:β[i]? =some o):β'[i]? =some o:=by obtain⟨⟨l,rfl⟩,m,rfl⟩:=h;exact gapp m hx
theorem Ext.at(h:Ext ν β ν' β'){i:Nat}{o:Value}(hx:ν[i]? =some o):ν'[i]? =some o:=by obtain⟨⟨l,rfl⟩,m,rfl⟩:=h;exact gapp l hx
theorem V.ext(h:Ext ν β ν' β'){x:SV}{v:Value}(hx:V ν β x v):V ν' β' x v:=by obtain⟨⟨l,rfl⟩,m,rfl⟩:=h;exact hx.app l m
theorem VL.ext(h:Ext ν β ν' β'){x:List SV}{v:List Value}(hx:VL ν β x v):VL ν' β' x v:=by obtain⟨⟨l,rfl⟩,m,rfl⟩:=h;exact hx.app l m
theorem FtOK.ext(h:Ext ν β ν' β'){p:IE×IE}(hx:FtOK ν p):FtOK ν' p:=by obtain⟨⟨l,rfl⟩,m,rfl⟩:=h;exact hx.app l
theorem VL.len:∀ {x:List SV}{v:List Value},VL ν β x v→x.length=v.length
 | _,_,.nil=>rfl
 | _,_,.cons _ hl=>by simp[hl.len]
theorem VL.at:∀ {x:List SV}{v:List Value},VL ν β x v→∀ {i:Nat}{s:SV},nth x i=some s→∃ w,nth v i=some w∧V ν β s w
 | _,_,.nil,i,s,h=>by simp[nth] at h
 | _,_,.cons (x:=x) (v:=v) hx hl,i,s,h=>by
   simp only[nth,biE,beqT] at h ⊢;by_cases hi:i=0
   ·rw[if_pos hi] at h ⊢;cases h;exact⟨v,rfl,hx⟩
   ·rw[if_neg hi] at h ⊢;exact hl.at h
theorem VL.append:∀ {x:List SV}{v:List Value}{y:List SV}{w:List Value},VL ν β x v→VL ν β y w→VL ν β (x ++ y) (v ++ w)
 | _,_,_,_,.nil,h=>h
 | _,_,_,_,.cons hx hl,h=> .cons hx (hl.append h)
theorem VL.dropL:∀ {x:List SV}{v:List Value}(n:Nat),VL ν β x v→VL ν β (dropL x n) (dropL v n)
 | _,_,n,.nil=> .nil
 | _,_,n,.cons hx hl=>by
   simp only[Go.Sx.dropL,biE,beqT];by_cases hn:n=0
   ·rw[if_pos hn,if_pos hn];exact .cons hx hl
   ·rw[if_neg hn,if_neg hn];exact hl.dropL _
theorem VL.takeL:∀ (n:Nat){x r:List SV}{v:List Value},VL ν β x v→takeL n x=some r→∃ w,takeL n v=some w∧VL ν β r w
 | 0,_,_,_,_,h=>by simp only[Go.Sx.takeL,Option.some.injEq] at h ⊢;subst h;exact⟨_,rfl,.nil⟩
 | n+1,_,_,_,.nil,h=>by simp[Go.Sx.takeL] at h
 | n+1,_,_,_,.cons (l:=l) hx hl,h=>by
   simp only[Go.Sx.takeL] at h ⊢;split at h
   ·rename_i r hr;cases h;obtain⟨w,h1,h2⟩:=VL.takeL n hl hr;rw[h1];exact⟨_,rfl,.cons hx h2⟩
   ·cases h
theorem VL.seg{x r:List SV}{v:List Value}{o n:Nat}(hv:VL ν β x v)(h:seg x o n=some r):∃ w,seg v o n=some w∧VL ν β r w:=VL.takeL n (hv.dropL o) h
theorem VL.over:∀ {x m r:List SV}{v w:List Value},VL ν β x v→VL ν β m w→over x m=some r→∃ z,over v w=some z∧VL ν β r z
 | x,[],r,v,_,hx,.nil,h=>by simp only[Go.Sx.over,Option.some.injEq] at h;subst h;exact⟨v,by cases v<;>rfl,hx⟩
 | [],_ :: _,_,_,_,.nil,.cons _ _,h=>by simp[Go.Sx.over] at h
 | _ :: _,_ :: _,r,_,_,.cons hx hl,.cons hm hml,h=>by
   simp only[Go.Sx.over] at h ⊢;split at h
   ·rename_i r' hr;cases h;obtain⟨z,h1,h2⟩:=VL.over hl hml hr;rw[h1];exact⟨_,rfl,.cons hm h2⟩
   ·cases h
theorem VL.overAt{m:List SV}{w:List Value}(hm:VL ν β m w):∀ {x r:List SV}{v:List Value}{n:Nat},VL ν β x v→overAt m x n=some r→∃ z,overAt w v n=some z∧VL ν β r z
 | _,r,_,n,.nil,h=>by
   simp only[Go.Sx.overAt,biE,beqT] at h ⊢;by_cases hn:n=0
   ·rw[if_pos hn] at h ⊢;exact VL.over .nil hm h
   ·rw[if_neg hn] at h;cases h
 | _,r,_,n,.cons hx hl,h=>by
   simp only[Go.Sx.overAt,biE,beqT] at h ⊢;by_cases hn:n=0
   ·rw[if_pos hn] at h ⊢;exact VL.over (.cons hx hl) hm h
   ·rw[if_neg hn] at h ⊢;split at h
    ·rename_i r' hr;cases h;obtain⟨z,h1,h2⟩:=VL.overAt hm hl hr;rw[h1];exact⟨_,rfl,.cons hx h2⟩
    ·cases h
end
def sumF(f:Nat→Nat):Nat→Nat
 | 0=>0
 | n+1=>sumF f n+f n
theorem sumF_le(f:Nat→Nat){i n:Nat}(hi:i<n):f i≤sumF f n:=by
 induction n with
 | zero=>omega
 | succ n ih =>
   show f i≤sumF f n+f n;by_cases e:i=n
   ·subst e;omega
   ·have:=ih (by omega);omega
inductive D (Γ:List (List CT)) (lim:Nat) (h:T Blk):Nat→CT→Value→Prop
 | int {r:Nat} {k:IntKind} {x:Int} (h1:k.min≤x) (h2:x≤k.max):D Γ lim h r (.int k) (.int k x)
 | bool {r:Nat} (x:Bool):D Γ lim h r .bool (.bool x)
 | str {r:Nat} {s:ByteArray} (h1:s.size≤16000000):D Γ lim h r .str (.string s)
 | nil {r q:Nat}:D Γ lim h r (.sl q) (.slice none 0 0)
 | sl {r q b o l c:Nat} {cs:List Value} {cts:List CT} (f:Nat→Nat) (hb:h.get b=some (.ro cs)) (hq:nth Γ q=some cts) (hp:0<cts.length) (ho:o+l * cts.length≤cs.length) (hs:sumF f (l * cts.length)+l≤r) (hl:r≤lim)
  (hc:∀ (i:Nat) (x:Value) (ct:CT),i<l * cts.length→nth cs (o+i)=some x→nth cts (i % cts.length)=some ct→D Γ lim h (f i) ct x):D Γ lim h r (.sl q) (.slice (some ⟨b,o,none⟩) l c)
theorem D.mono{Γ:List (List CT)}{lim:Nat}{h h':T Blk}(hh:∀ b cs,h.get b=some (.ro cs)→h'.get b=some (.ro cs)){r:Nat}{ct:CT}{v:Value}(hd:D Γ lim h r ct v):D Γ lim h' r ct v:=by
 induction hd with
 | int h1 h2=>exact .int h1 h2
 | bool x=>exact .bool x
 | str h1=>exact .str h1
 | nil=>exact .nil
 | sl f hb hq hp ho hs hl _ ih=>exact .sl f (hh _ _ hb) hq hp ho hs hl ih
theorem part_lt{f:Nat→Nat}{l m r i:Nat}(hs:sumF f (l * m)+l≤r)(hi:i<l * m):f i<r:=by
 have:=sumF_le f hi;have:0<l:=by
  rcases Nat.eq_zero_or_pos l with rfl|h
  ·simp at hi
  ·exact h
 omega
def rkOK(R:Nat):RK→Nat→Prop
 | .top,_=>True
 | .cur,r=>r<R
 | .low,r=>r+1<R
def DR(C:Cfg)(R:Nat)(h:T Blk)(rk:RK):CT→Value→Prop
 | .sl q,v=>∃ r,rkOK R rk r∧D C.Γ C.lim h r (.sl q) v
 | ct,v=>D C.Γ C.lim h 0 ct v
theorem DR.mono{C:Cfg}{R:Nat}{h h':T Blk}(hh:∀ b cs,h.get b=some (.ro cs)→h'.get b=some (.ro cs)){rk:RK}{ct:CT}{v:Value}(hd:DR C R h rk ct v):DR C R h' rk ct v:=by
 cases ct with
 | sl q=>obtain⟨r,h1,h2⟩:=hd;exact⟨r,h1,h2.mono hh⟩
 | int k=>exact D.mono hh hd
 | bool=>exact D.mono hh hd
 | str=>exact D.mono hh hd
theorem DR.of{C:Cfg}{R:Nat}{h:T Blk}{rk:RK}{ct:CT}{v:Value}{r:Nat}(hr:rkOK R rk r)(hd:D C.Γ C.lim h r ct v):DR C R h rk ct v:=by
 cases ct with
 | sl q=>exact⟨r,hr,hd⟩
 | int k=>cases hd with|int h1 h2=>exact D.int h1 h2
 | bool=>cases hd with|bool x=>exact D.bool x
 | str=>cases hd with|str h1=>exact D.str h1
def NTok(C:Cfg)(R:Nat)(h:T Blk):NT→Value→Prop
 | .int k,v=>∃ x,v= .int k x∧k.min≤x∧x≤k.max
 | .bool,v=>∃ x,v= .bool x
 | .str,v=>∃ s,v= .string s∧s.size≤16000000
 | .sl q rk,v=>∃ r,rkOK R rk r∧D C.Γ C.lim h r (.sl q) v
theorem NTok.mono{C:Cfg}{R:Nat}{h h':T Blk}(hh:∀ b cs,h.get b=some (.ro cs)→h'.get b=some (.ro cs)){T:NT}{v:Value}(hn:NTok C R h T v):NTok C R h' T v:=by
 cases T with
 | sl q rk =>
   obtain⟨r,h1,h2⟩:=hn;exact⟨r,h1,h2.mono hh⟩
 | int k=>exact hn
 | bool=>exact hn
 | str=>exact hn
def fitK1(E:Env)(kt:TypeId)(v:Value):Bool :=
 match E.ty.get kt,v with
 | some i,.int j _=>(match i.d with| .int j'=>kindEq j j'|_=>false)
 | _,_=>true
def ABok(C:Cfg)(R:Nat)(ν:List Value)(β:List (Option Nat))(h:T Blk):AB→Option Nat→Prop
 | .cells l,some b=>∃ cs,h.get b=some (.cells cs)∧VL ν β l cs∧allCells cs=true
 | .vec q rk low,some b=>∃ cs cts L,h.get b=some (.cells cs)∧nth C.Γ q=some cts∧0<cts.length∧evI ν low=some ((L:Nat):Int)∧cs.length=L * cts.length ∧
  ∀ (i:Nat) (x:Value) (ct:CT),nth cs i=some x→nth cts (i % cts.length)=some ct→DR C R h rk ct x
 | .vec q _ low,none=>evI ν low=some 0∧∃ cts,nth C.Γ q=some cts∧0<cts.length
 | .map kt ct,some b=>∃ es kk,h.get b=some (.map es)∧kkOf C.E kt=some kk∧∀ e∈es,fitKK kk e.1=true∧fitK1 C.E kt e.1=true∧D C.Γ C.lim h 0 ct e.2
 | .iter j e,some b=>∃ s pos,ν[j]? =some (.string s)∧evI ν e=some ((pos:Nat):Int)∧h.get b=some (.iter s pos)
 | _,none=>False
def RkOK(F:Nat→Prop)(h0:T Blk)(r:List (Nat×List SV))(ν:List Value)(β:List (Option Nat)):Prop :=
 ∀ i l,get1 r i=some l→∃ b cs,β[i]? =some (some b)∧F b∧h0.get b=some (.cells cs)∧VL ν β l cs
theorem RkOK.ext{F:Nat→Prop}{h0:T Blk}{r:List (Nat×List SV)}{ν ν':List Value}{β β':List (Option Nat)}(e:Ext ν β ν' β')(h:RkOK F h0 r ν β):RkOK F h0 r ν' β':=fun i l hi=>by obtain⟨b,cs,h1,h2,h3,h4⟩:=h i l hi;exact⟨b,cs,e.be h1,h2,h3,h4.ext e⟩
def RvOK(C:Cfg)(R:Nat)(F:Nat→Prop)(h0:T Blk)(r:List (Nat×(Nat×RK×IE)))(ν:List Value)(β:List (Option Nat)):Prop :=
 ∀ i x,get1 r i=some x→∃ o,β[i]? =some o∧(∀ b,o=some b→F b)∧ABok C R ν β h0 (.vec x.1 x.2.1 x.2.2) o
structure Ga(C:Cfg)(R:Nat)(F:Nat→Prop)(h0:T Blk)(n0:Nat)(s:S)(ν:List Value)(β:List (Option Nat))(t:T Value)(h:T Blk)(n:Nat):Prop where
 tm:∀ k x,get1 s.t k=some x→∃ v,t.get k=some v∧V ν β x v
 nt:∀ j T,nth s.ty j=some T→∃ v,ν[j]? =some v∧NTok C R h T v
 nl:ν.length=s.ty.length
 bl:β.length=s.nb
 bb:∀ (i:Nat) b,β[i]? =some (some b)→b<n
 hp:∀ i a,get1 s.h i=some a→∃ o,β[i]? =some o∧ABok C R ν β h a o
 nd:∀ i j a a' b,get1 s.h i=some a→get1 s.h j=some a'→β[i]? =some (some b)→β[j]? =some (some b)→i=j
 ft:∀ f∈s.fs,FtOK ν f
 fr:∀ b,n≤b→h.get b=none
 gr:∀ x∈C.E.gro,h.get x.1=some (.ro x.2)
 pr:∀ b,F b→b<n∧h.get b=h0.get b∧∀ i a,get1 s.h i=some a→β[i]? ≠some (some b)
 nn:n0≤n
 rk:RkOK F h0 s.r ν β
 rvk:RvOK C R F h0 s.rv ν β
 ro:∀ b cs,h0.get b=some (.ro cs)→h.get b=some (.ro cs)
end
end Go.Sx.Az
namespace Go.Sx.Az
noncomputable section
def mapO{α β:Type}(g:α→Option β):List α→Option (List β)
 | []=>some []
 | a :: l=>match g a,mapO g l with
   | some b,some r=>some (b :: r)
   | _,_=>none
def inK(k:IntKind)(x:Int):Bool:=leI k.min x&&leI x k.max
def isAggV:Value→Bool
 | .agg _=>true
 | .int _ _=>true
 | .bool _=>true
 | _=>false
def svOf:Nat→Value→Option SV
 | 0,_=>none
 | f+1,v =>
   match v with
   | .int k x=>bif inK k x then some (.i k ⟨.c,x⟩) else none
   | .bool x=>some (.b x)
   | .agg cs=>(match mapO (svOf f) cs.toList with|some l=>some (.agg l)|none=>none)
   | v=>bif lit 6 v&& !isAggV v then some (.lit v) else none
def evS(C:Cfg)(s:S):Operand→Option SV
 | .tmp k=>get1 s.t k
 | .const v=>bif lit 6 v then svOf 4 v else none
 | .global g=>bif Nat.blt g C.E.glob then some (.g g) else none
 | .func f=>some (.f f [] [])
def evSL(C:Cfg)(s:S)(l:List Operand):Option (List SV):=mapO (evS C s) l
def S.set(s:S)(k:Nat)(x:SV):S:={s with t:=put1 s.t k x}
def S.name(s:S)(T:NT):S:={s with ty:=s.ty ++ [T]}
def S.fact(s:S)(a b:IE):S:={s with fs:=(a,b) :: s.fs}
def S.blk(s:S)(a:AB):S:={s with nb:=s.nb+1,h:=put1 s.h s.nb a}
def S.setB(s:S)(i:Nat)(a:AB):S:={s with h:=put1 s.h i a}
def S.dropB(s:S)(i:Nat):S:={s with h:=del1 s.h i}
def ieC(k:Int):IE:=⟨.c,k⟩
def IE.up(e:IE)(k:Int):IE:=⟨e.b,addI e.k k⟩
def leQ(s:S)(x y:IE):Bool:=leF s.fs 3 x y
def inR(s:S)(k:IntKind)(e:IE):Bool:=leQ s (ieC k.min) e&&leQ s e (ieC k.max)
def splitB(s:S):SV→Option (List (Bool×S))
 | .b x=>some [(x,s)]
 | .bn _ _=>some [(true,s),(false,s)]
 | .le x y neg =>
   bif leQ s x y then some [(!neg,s)]
   else bif leQ s (y.up 1) x then some [(neg,s)]
   else some [(!neg,s.fact x y),(neg,s.fact (y.up 1) x)]
 | .eq x y neg =>
   bif leQ s (x.up 1) y||leQ s (y.up 1) x then some [(neg,s)]
   else bif leQ s x y then (bif leQ s y x then some [(!neg,s)] else some [(!neg,s.fact y x),(neg,s.fact (x.up 1) y)])
   else bif leQ s y x then some [(!neg,s.fact x y),(neg,s.fact (y.up 1) x)]
   else some [(!neg,(s.fact x y).fact y x),(neg,s)]
 | _=>none
def kid:RK→RK
 | .top=> .top
 | .cur=> .low
 | .low=> .low
def freshC(C:Cfg)(s:S)(rk:RK):CT→S×SV
 | .int k=>(s.name (.int k),.i k ⟨.v s.ty.length,0⟩)
 | .bool=>(s.name .bool,.bn s.ty.length false)
 | .str=>(((s.name .str).fact (ieC 0) ⟨.ln s.ty.length,0⟩).fact ⟨.ln s.ty.length,0⟩ (ieC 16000000),.sn s.ty.length)
 | .sl q=>(((s.name (.sl q rk)).fact (ieC 0) ⟨.ln s.ty.length,0⟩).fact ⟨.ln s.ty.length,0⟩ (ieC C.lim),.ds s.ty.length)
def freshL(C:Cfg)(s:S)(rk:RK):List CT→S×List SV
 | []=>(s,[])
 | c :: l=>((freshL C (freshC C s rk c).1 rk l).1,(freshC C s rk c).2 :: (freshL C (freshC C s rk c).1 rk l).2)
def freshI(C:Cfg)(s:S)(k:IntKind):SV×S:=((freshC C s .top (.int k)).2,(freshC C s .top (.int k)).1)
def freshB(C:Cfg)(s:S):SV×S:=((freshC C s .top .bool).2,(freshC C s .top .bool).1)
def loF(j:Nat):List IE→S→S
 | [],s=>s
 | e :: l,s=>loF j l (s.fact e ⟨.v j,0⟩)
def hiF(j:Nat):List IE→S→S
 | [],s=>s
 | e :: l,s=>hiF j l (s.fact ⟨.v j,0⟩ e)
def boundI(C:Cfg)(s:S)(k:IntKind)(lo hi:List IE):SV×S :=
 (.i k ⟨.v s.ty.length,0⟩,hiF s.ty.length hi (loF s.ty.length lo (s.name (.int k))))
def ldC(C:Cfg)(s:S)(i:TyI)(cts:List CT)(rk:RK)(off:Nat):Option (SV×S) :=
 bif isAgg i.d then (match seg cts off i.size with|some r=>some (.agg (freshL C s rk r).2,(freshL C s rk r).1)|none=>none)
 else (match nth cts off with|some c=>some ((freshC C s rk c).2,(freshC C s rk c).1)|none=>none)
def cellsG(s:S)(j:Nat):Option (List SV) :=
 match get1 s.h j with
 | some (.cells l)=>some l
 | some _=>none
 | none=>get1 s.r j
def vecG(s:S)(j:Nat):Option (Nat×RK×IE) :=
 match get1 s.h j with
 | some (.vec q r low)=>some (q,r,low)
 | some _=>none
 | none=>get1 s.rv j
def ldS(C:Cfg)(s:S)(ty:TypeId)(x:SV):Option (SV×S) :=
 match C.E.ty.get ty with
 | none=>none
 | some i =>
   match x with
   | .p j off =>
     (match cellsG s j with
      | some l=>bif isAgg i.d then (match seg l off i.size with|some r=>some (.agg r,s)|none=>none) else (match nth l off with|some r=>some (r,s)|none=>none)
      | none=>none)
   | .dp j _ sz off =>
     (match nth s.ty j with
      | some (.sl q rk)=>(match nth C.Γ q with|some cts=>bif Nat.beq sz cts.length then ldC C s i cts (kid rk) off else none|none=>none)
      | _=>none)
   | .pv j e sz off =>
     (match vecG s j with
      | some (q,rk,low)=>(match nth C.Γ q with|some cts=>bif Nat.beq sz cts.length&&leQ s (e.up 1) low then ldC C s i cts rk off else none|none=>none)
      | _=>none)
   | _=>none
def cellOK:SV→Bool
 | .agg _=>false
 | .tup _=>false
 | .lit v=>isCell v
 | _=>true
def cellsS(x:SV):Option (List SV) :=
 match x with
 | .agg l=>bif l.all cellOK then some l else none
 | x=>bif cellOK x then some [x] else none
def kindB(j k:IntKind):Bool:=kindEq j k
def rkLe:RK→RK→Bool
 | _,.top=>true
 | .top,_=>false
 | _,.cur=>true
 | .cur,.low=>false
 | .low,.low=>true
def isStr:SV→Bool
 | .sn _=>true
 | .lit (.string s)=>Nat.ble s.size 16000000
 | _=>false
def isBool:SV→Bool
 | .b _=>true
 | .bn _ _=>true
 | .le _ _ _=>true
 | .eq _ _ _=>true
 | _=>false
def svCT(s:S)(rk:RK)(x:SV):CT→Bool
 | .int k=>(match x with| .i j _=>kindB j k|_=>false)
 | .bool=>isBool x
 | .str=>isStr x
 | .sl q=>(match x with
   | .ds j=>(match nth s.ty j with|some (.sl p r)=>Nat.beq p q&&rkLe r rk|_=>false)
   | .lit (.slice none 0 0)=>(match rk with| .top=>true|_=>false)
   | _=>false)
def svCTs(s:S)(rk:RK):List SV→List CT→Bool
 | [],[]=>true
 | x :: l,c :: m=>svCT s rk x c&&svCTs s rk l m
 | _,_=>false
def stS(C:Cfg)(s:S)(ty:TypeId)(a x:SV):Option S :=
 match C.E.ty.get ty,cellsS x with
 | some i,some m =>
   bif Nat.beq m.length i.size then
    (match a with
     | .p j off=>(match get1 s.h j with
      | some (.cells l)=>(match overAt m l off with|some r=>some (s.setB j (.cells r))|none=>none)
      | _=>none)
     | .pv j e sz off=>(match get1 s.h j with
      | some (.vec q rk low)=>(match nth C.Γ q with
        | some cts=>(match seg cts off m.length with
          | some r=>bif Nat.beq sz cts.length&&leQ s (e.up 1) low&&svCTs s rk m r&&Nat.blt 0 m.length then some (s.setB j (.vec q rk low)) else none
          | none=>none)
        | none=>none)
      | _=>none)
     | _=>none)
   else none
 | _,_=>none
def fillS(place:Nat→Option (Nat×Nat)):List (Nat×SV)→List SV→Option (List SV)
 | [],cs=>some cs
 | (i,x) :: rest,cs =>
   match place i,cellsS x with
   | some (off,size),some m =>
     bif Nat.beq m.length size then
      (match overAt m cs off with
       | some cs'=>fillS place rest cs'
       | none=>none)
     else none
   | _,_=>none
def evSP(C:Cfg)(s:S):List (Nat×Operand)→Option (List (Nat×SV))
 | []=>some []
 | (i,x) :: l=>match evS C s x,evSP C s l with
   | some v,some r=>some ((i,v) :: r)
   | _,_=>none
def zeroS(i:TyI):Option (List SV) :=
 bif i.zok&&allCells i.zero then mapO (svOf 4) i.zero else none
def buildS(C:Cfg)(t:TypeId)(parts:List (Nat×SV)):Option SV :=
 match C.E.ty.get t with
 | some i =>
   (match zeroS i with
    | some z =>
      (match i.d with
       | .struct fs=>(match fillS (fieldPlaces C.E fs.toList) parts z with|some cs=>some (.agg cs)|none=>none)
       | .array _ e=>(match C.E.ty.get e with
         | some j=>(match fillS (fun k=>some (k * j.size,j.size)) parts z with|some cs=>some (.agg cs)|none=>none)
         | none=>none)
       | _=>none)
    | none=>none)
 | none=>none
def buildSliceS(C:Cfg)(t:TypeId)(len:Nat)(parts:List (Nat×SV)):Option (List SV×Nat) :=
 match C.E.ty.get t with
 | some i =>
   (match i.d with
    | .slice e =>
      (match C.E.ty.get e with
       | some j =>
         (match zeroS j with
          | some z=>bif Nat.ble (len * j.size) 100000&&Nat.beq z.length j.size&&Nat.blt 0 j.size then (match fillS (fun k=>some (k * j.size,j.size)) parts (repL z len) with|some cs=>some (cs,j.size)|none=>none) else none
          | none=>none)
       | none=>none)
    | _=>none)
 | none=>none
def natI:Int→Option Nat
 | .ofNat n=>some n
 | _=>none
def ieN(e:IE):Option Nat :=
 match e.b with
 | .c=>natI e.k
 | _=>none
def idxS(C:Cfg)(s:S)(ty:TypeId)(x:SV)(e:IE):Option SV :=
 match C.E.ty.get ty with
 | some ti =>
   (match ti.d with
    | .slice et =>
      (match C.E.ty.get et with
       | some j =>
         (match x with
          | .ds a=>(match nth s.ty a with
            | some (.sl _ _)=>bif leQ s (ieC 0) e&&leQ s (e.up 1) ⟨.ln a,0⟩ then some (.dp a e j.size 0) else none
            | _=>none)
          | .os a len low sz =>
            bif Nat.beq sz j.size&&leQ s (ieC 0) e&&leQ s (e.up 1) len then
             (match get1 s.h a,ieN e,vecG s a with
              | some (.cells _),some k,_=>some (.p a (k * sz))
              | _,_,some _=>some (.pv a e sz 0)
              | _,_,_=>none)
            else none
          | _=>none)
       | none=>none)
    | .array len et =>
      (match C.E.ty.get et,x,ieN e with
       | some j,.p a off,some k=>bif Nat.blt k len then some (.p a (off+k * j.size)) else none
       | _,_,_=>none)
    | _=>none)
 | none=>none
def casesI(s:S)(e:IE):Nat→Nat→List (Nat×S)
 | 0,_=>[]
 | m+1,k=>(k,(s.fact e (ieC k)).fact (ieC k) e) :: casesI s e m (k+1)
def ctB(C:Cfg)(s:S)(ks:List CK)(l:List SV):Bool :=
 match ks,l with
 | [],[]=>true
 | k :: ks,x :: l=>(match k,x with
   | .int j,.i j' _=>kindEq j j'
   | .bool,x=>isBool x
   | .str,x=>isStr x
   | _,_=>false)&&ctB C s ks l
 | _,_=>false
def flipS:SV→Option SV
 | .b x=>some (.b (!x))
 | .bn j n=>some (.bn j (!n))
 | .le x y n=>some (.le x y (!n))
 | .eq x y n=>some (.eq x y (!n))
 | _=>none
def isEql:BinOp→Option Bool
 | .eql=>some false
 | .neq=>some true
 | _=>none
def negB(n:Bool)(x:SV):Option SV:=bif n then flipS x else some x
def eqS(C:Cfg)(s:S)(t:TypeId)(x y:SV):Option (SV×S) :=
 match C.E.ty.get t with
 | some i =>
   (match i.d,x,y with
    | .pointer _,.lit (.pointer none),.lit (.pointer none)=>some (.b true,s)
    | .pointer _,.lit (.pointer none),.p _ _=>some (.b false,s)
    | .pointer _,.p _ _,.lit (.pointer none)=>some (.b false,s)
    | .slice _,.lit (.slice none _ _),.lit (.slice none _ _)=>some (.b true,s)
    | .slice _,.ds _,.lit (.slice none _ _)=>some (freshB C s)
    | .slice _,.lit (.slice none _ _),.ds _=>some (freshB C s)
    | .slice _,.os _ _ _ _,.lit (.slice none _ _)=>some (freshB C s)
    | .map _ _,.lit (.map none),.lit (.map none)=>some (.b true,s)
    | .map _ _,.m _,.lit (.map none)=>some (.b false,s)
    | .func _ _ _,.f _ _ _,.lit .nilFunc=>some (.b false,s)
    | .func _ _ _,.lit .nilFunc,.lit .nilFunc=>some (.b true,s)
    | .struct _,.agg a,.agg b=>(match flatKs t C.E.flat with|some ks=>bif ctB C s ks a&&ctB C s ks b then some (freshB C s) else none|none=>none)
    | .array _ _,.agg a,.agg b=>(match flatKs t C.E.flat with|some ks=>bif ctB C s ks a&&ctB C s ks b then some (freshB C s) else none|none=>none)
    | .bool,x,.b b=>bif isBool x then (match negB (!b) x with|some r=>some (r,s)|none=>none) else none
    | .bool,x,y=>bif isBool x&&isBool y then some (freshB C s) else none
    | _,_,_=>none)
 | none=>none
def ubC(s:S)(e:IE):Option Int :=
 match e.b with
 | .c=>some e.k
 | _=>s.fs.foldl (fun r p=>bif IB.beq p.1.b e.b&&IB.beq p.2.b .c then (match r with
    | none=>some (addI p.2.k (subI e.k p.1.k))
    | some x=>bif leI (addI p.2.k (subI e.k p.1.k)) x then some (addI p.2.k (subI e.k p.1.k)) else some x) else r) none
def lbC(s:S)(e:IE):Option Int :=
 match e.b with
 | .c=>some e.k
 | _=>s.fs.foldl (fun r p=>bif IB.beq p.2.b e.b&&IB.beq p.1.b .c then (match r with
    | none=>some (addI p.1.k (subI e.k p.2.k))
    | some x=>bif leI x (addI p.1.k (subI e.k p.2.k)) then some (addI p.1.k (subI e.k p.2.k)) else some x) else r) none
def addS(C:Cfg)(s:S)(k:IntKind)(a b:IE):SV×S :=
 match b.b,a.b with
 | .c,_=>bif inR s k (a.up b.k) then (.i k (a.up b.k),s) else freshI C s k
 | _,.c=>bif inR s k (b.up a.k) then (.i k (b.up a.k),s) else freshI C s k
 | _,_ =>
   (match lbC s a,ubC s a,lbC s b,ubC s b with
    | some la,some ua,some lb,some ub =>
      bif inK k (addI la lb)&&inK k (addI ua ub)&&leQ s (ieC la) a&&leQ s a (ieC ua)&&leQ s (ieC lb) b&&leQ s b (ieC ub) then
       boundI C s k ([ieC (addI la lb),a.up lb,b.up la]) [ieC (addI ua ub),a.up ub,b.up ua]
      else freshI C s k
    | _,_,_,_=>freshI C s k)
def subS(C:Cfg)(s:S)(k:IntKind)(a b:IE):SV×S :=
 match b.b with
 | .c=>bif inR s k (a.up (subI 0 b.k)) then (.i k (a.up (subI 0 b.k)),s) else freshI C s k
 | _=>bif IB.beq a.b b.b&&inK k (subI a.k b.k) then (.i k (ieC (subI a.k b.k)),s)
   else bif leQ s (ieC 0) b&&leQ s b a&&inR s k a&&inK k 0 then boundI C s k [ieC 0] [a]
   else freshI C s k
def eqStr(x y:SV):Option Bool :=
 match x,y with
 | .lit (.string a),.lit (.string b)=>some (bytesEq a.data.toList b.data.toList)
 | _,_=>none
def binT(C:Cfg)(s:S)(op:BinOp)(x y:SV):Option (SV×S) :=
 match op with
 | .eql=>(match eqStr x y with|some b=>some (.b b,s)|none=>some (freshB C s))
 | .neq=>(match eqStr x y with|some b=>some (.b (!b),s)|none=>some (freshB C s))
 | .lss=>some (freshB C s)
 | .gtr=>some (freshB C s)
 | _=>none
def binE(C:Cfg)(s:S)(op:BinOp)(t:TypeId)(x y:SV):Option (SV×S) :=
 match isEql op,eqS C s t x y with
 | some n,some (r,s')=>(match negB n r with|some r'=>some (r',s')|none=>none)
 | _,_=>none
def binS(C:Cfg)(s:S)(op:BinOp)(t:TypeId)(x y:SV):Option (SV×S) :=
 match x,y with
 | .i j a,.i k b =>
   bif kindEq j k then
    (match op with
     | .add=>some (addS C s j a b)
     | .sub=>some (subS C s j a b)
     | .mul=>some (freshI C s j)
     | .quo=>bif leQ s (b.up 1) (ieC 0)||leQ s (ieC 1) b then some (freshI C s j) else none
     | .eql=>some (.eq a b false,s)
     | .neq=>some (.eq a b true,s)
     | .lss=>some (.le b a true,s)
     | .leq=>some (.le a b false,s)
     | .gtr=>some (.le a b true,s)
     | .geq=>some (.le b a false,s)
     | _=>none)
   else none
 | x,y=>bif isStr x&&isStr y then binT C s op x y else binE C s op t x y
def evSO(C:Cfg)(s:S):Option Operand→Option (Option SV)
 | none=>some none
 | some x=>match evS C s x with
   | some v=>some (some v)
   | none=>none
def sliceS(C:Cfg)(s:S)(ty:TypeId)(x:SV)(lo hi mx:Option SV):Option (SV×S) :=
 match C.E.ty.get ty with
 | some ti =>
   (match ti.d,x,lo,hi,mx with
    | .slice et,.os a len low sz,none,some (.i _ e),none =>
      (match C.E.ty.get et with
       | some j=>bif Nat.beq sz j.size&&leQ s (ieC 0) e&&leQ s e low then some (.os a e low sz,s) else none
       | none=>none)
    | .slice et,.lit (.slice none 0 0),lo,hi,mx =>
      (match C.E.ty.get et with
       | some _=>bif zeroO lo&&zeroO hi&&zeroO mx&& !(hi.isNone&&mx.isSome) then some (.lit (.slice none 0 0),s) else none
       | none=>none)
    | .array m et,.g k,none,some (.i _ e),none =>
      (match C.E.ty.get et,ieN e,aget C.E.gro k with
       | some j,some n,some cs=>bif Nat.blt n m&&Nat.blt 0 n&&Nat.beq j.size 1&&strs cs&&Nat.ble n C.lim&&Nat.ble n cs.length&&Nat.blt m UNK then
        (match strQ C.Γ 0 with
         | some q=>some (.ds s.ty.length,(((s.name (.sl q .top)).fact (ieC n) ⟨.ln s.ty.length,0⟩).fact ⟨.ln s.ty.length,0⟩ (ieC n)))
         | none=>none)
         else none
       | _,_,_=>none)
    | _,_,_,_,_=>none)
 | none=>none
where
 zeroO:Option SV→Bool
  | none=>true
  | some (.i _ e)=>(match ieN e with|some 0=>true|_=>false)
  | _=>false
 aget:List (Nat×List Value)→Nat→Option (List Value)
  | [],_=>none
  | x :: l,k=>bif Nat.beq x.1 k then some x.2 else aget l k
 strs:List Value→Bool
  | []=>true
  | .string s :: l=>Nat.ble s.size 16000000&&strs l
  | _=>false
 strQ:List (List CT)→Nat→Option Nat
  | [],_=>none
  | [.str] :: _,k=>some k
  | _ :: l,k=>strQ l (k+1)
def scT(C:Cfg)(t:TypeId):Option CT :=
 match C.E.ty.get t with
 | some i=>(match i.d with
   | .int k=>some (.int k)
   | .bool=>some .bool
   | .string=>some .str
   | _=>none)
 | none=>none
def ctEq:CT→CT→Bool
 | .int j,.int k=>kindEq j k
 | .bool,.bool=>true
 | .str,.str=>true
 | .sl p,.sl q=>Nat.beq p q
 | _,_=>false
def fitS(C:Cfg)(s:S)(kk:KK)(x:SV):Bool :=
 match kk,x with
 | .int,.i _ _=>true
 | .str,x=>isStr x
 | .flat ks,.agg l=>ctB C s ks l
 | _,_=>false
def lookupS(C:Cfg)(s:S)(mt:TypeId)(m k:SV)(ok:Bool):Option (SV×S) :=
 match C.E.ty.get mt,m with
 | some i,.m b =>
   (match i.d,get1 s.h b with
    | .map kt et,some (.map kt' ct) =>
      (match kkOf C.E kt,C.E.ty.get et with
       | some kk,some j =>
         bif Nat.beq kt kt'&&fitS C s kk k&&j.zok&&zct ct j&&intK C kt k then
          (bif ok then some (.tup [(freshC C s .top ct).2,(freshC C (freshC C s .top ct).1 .top .bool).2],(freshC C (freshC C s .top ct).1 .top .bool).1)
           else some ((freshC C s .top ct).2,(freshC C s .top ct).1))
         else none
       | _,_=>none)
    | _,_=>none)
 | some i,.lit (.map none) =>
   (match i.d with
    | .map kt et =>
      (match kkOf C.E kt,C.E.ty.get et,scT C et with
       | some kk,some j,some ct =>
         bif fitS C s kk k&&j.zok&&zct ct j then
          (bif ok then some (.tup [(freshC C s .top ct).2,(freshC C (freshC C s .top ct).1 .top .bool).2],(freshC C (freshC C s .top ct).1 .top .bool).1)
           else some ((freshC C s .top ct).2,(freshC C s .top ct).1))
         else none
       | _,_,_=>none)
    | _=>none)
 | _,_=>none
where
 zct (ct:CT) (j:TyI):Bool :=
  match isAgg j.d,j.zero,ct with
  | false,[.int k x],.int k'=>kindEq k k'&&inK k x
  | false,[.bool _],.bool=>true
  | false,[.string s],.str=>Nat.ble s.size 16000000
  | _,_,_=>false
 intK (C:Cfg) (kt:TypeId) (k:SV):Bool :=
  match C.E.ty.get kt,k with
  | some i,.i j _=>(match i.d with| .int j'=>kindEq j j'|_=>false)
  | _,_=>true
def noSl:CT→Bool
 | .sl _=>false
 | _=>true
def mapPutS(C:Cfg)(s:S)(mt:TypeId)(m k v:SV):Option S :=
 match C.E.ty.get mt,m with
 | some i,.m b =>
   (match i.d,get1 s.h b with
    | .map kt _,some (.map kt' ct) =>
      (match kkOf C.E kt with
       | some kk=>bif Nat.beq kt kt'&&fitS C s kk k&&lookupS.intK C kt k&&noSl ct&&svCT s .top v ct then some s else none
       | none=>none)
    | _,_=>none)
 | _,_=>none
def makeMapS(C:Cfg)(s:S)(mt:TypeId):Option (SV×S) :=
 match C.E.ty.get mt with
 | some i =>
   (match i.d with
    | .map kt et=>(match kkOf C.E kt,scT C et with
     | some _,some ct=>some (.m s.nb,s.blk (.map kt ct))
     | _,_=>none)
    | _=>none)
 | none=>none
def recOf:List (TypeId×Nat)→TypeId→Option Nat
 | [],_=>none
 | x :: l,t=>bif Nat.beq x.1 t then some x.2 else recOf l t
def rowsS(s:S)(rk:RK)(cts:List CT):Nat→List SV→Bool
 | 0,l=>l.isEmpty
 | m+1,l=>(match takeL cts.length l with
   | some a=>svCTs s rk a cts&&rowsS s rk cts m (dropL l cts.length)
   | none=>false)
def ieEq(a b:IE):Bool:=IB.beq a.b b.b&&eqI a.k b.k
def newS(C:Cfg)(s:S)(j:TyI)(q:Nat)(cts:List CT)(rk:RK)(xt:Option TypeId)(x:SV):Option IE :=
 match xt with
 | none=>none
 | some xt =>
   (match C.E.ty.get xt with
    | some xi =>
      (match xi.d,x with
       | .int _,.i _ e =>
         (match zeroS j with
          | some z=>bif leQ s (ieC 0) e&&leQ s e (ieC 16000000)&&svCTs s rk z cts then some e else none
          | none=>none)
       | .slice _,.ds a =>
         (match nth s.ty a with
          | some (.sl p r)=>bif Nat.beq p q&&rkLe (kid r) rk then some ⟨.ln a,0⟩ else none
          | _=>none)
       | .slice _,.os a len low sz =>
         (match get1 s.h a,ieN len,vecG s a with
          | some (.cells l),some m,_=>(match seg l 0 (m * cts.length) with|some r=>bif rowsS s rk cts m r&&Nat.beq sz cts.length&&Nat.ble m 16000000 then some len else none|none=>none)
          | _,_,some (p,r,low')=>bif Nat.beq p q&&rkLe r rk&&Nat.beq sz cts.length&&leQ s len (ieC 16000000)&&ieEq low low' then some len else none
          | _,_,_=>none)
       | .slice _,.lit (.slice none 0 0)=>some (ieC 0)
       | _,_=>none)
    | none=>none)
def ubD(s:S)(e:IE):Int :=
 match ubC s e with
 | some u=>bif leQ s e (ieC u) then u else 16000000
 | none=>16000000
def sumS(s:S)(a b:IE):IE×S :=
 match b.b,a.b with
 | .c,_=>(a.up b.k,s)
 | _,.c=>(b.up a.k,s)
 | _,_=>(⟨.v s.ty.length,0⟩,((((s.name (.int .i64)).fact a ⟨.v s.ty.length,0⟩).fact b ⟨.v s.ty.length,0⟩).fact ⟨.v s.ty.length,0⟩ (ieC (addI (ubD s a) (ubD s b)))))
def grownS(s:S)(q:Nat)(rk:RK)(len:IE)(sz:Nat):SV×S :=
 (.os s.nb len ⟨.v s.ty.length,0⟩ sz,(((s.name (.int .i64)).fact len ⟨.v s.ty.length,0⟩).fact ⟨.v s.ty.length,0⟩ (ieC 1000000000)).blk (.vec q rk ⟨.v s.ty.length,0⟩))
def appendS(C:Cfg)(s:S)(st:TypeId)(xt:Option TypeId)(a x:SV):Option (SV×S) :=
 match C.E.ty.get st with
 | some i =>
   (match i.d with
    | .slice e =>
      (match C.E.ty.get e,recOf C.rc e with
       | some j,some q =>
         (match nth C.Γ q with
          | some cts =>
            bif Nat.ble j.bytes 4096&&Nat.blt 0 j.size&&Nat.blt 0 j.bytes&&j.zok&&Nat.beq j.zero.length j.size&&Nat.beq cts.length j.size then
             (match a with
              | .lit (.slice none 0 0) =>
                (match newS C s j q cts .low xt x with
                 | some xl=>some (grownS (s) q .low xl j.size)
                 | none=>(match newS C s j q cts .top xt x with
                   | some xl=>some (grownS (s) q .top xl j.size)
                   | none=>none))
              | .os b len low sz =>
                (match get1 s.h b with
                 | some (.vec p rk low') =>
                   bif Nat.beq p q&&ieEq low low'&&Nat.beq sz j.size&&leQ s len (ieC 16000000) then
                    (match newS C s j q cts rk xt x with
                     | some xl=>some (grownS ((sumS s len xl).2.dropB b) q rk (sumS s len xl).1 j.size)
                     | none=>none)
                   else none
                 | _=>none)
              | _=>none)
            else none
          | none=>none)
       | _,_=>none)
    | _=>none)
 | none=>none
def lenS(C:Cfg)(t:TypeId)(x:SV):Option IE :=
 match C.E.ty.get t with
 | some i =>
   (match i.d,x with
    | .string,.sn j=>some ⟨.ln j,0⟩
    | .string,.lit (.string s)=>bif Nat.ble s.size 16000000 then some (ieC s.size) else none
    | .slice _,.ds j=>some ⟨.ln j,0⟩
    | .slice _,.os _ len _ _=>some len
    | .slice _,.lit (.slice none 0 _)=>some (ieC 0)
    | _,_=>none)
 | none=>none
def capS(C:Cfg)(t:TypeId)(x:SV):Option IE :=
 match C.E.ty.get t with
 | some i =>
   (match i.d,x with
    | .slice _,.lit (.slice none 0 0)=>some (ieC 0)
    | _,_=>none)
 | none=>none
def makeSliceS(C:Cfg)(s:S)(t:TypeId)(l c:SV):Option (SV×S) :=
 match C.E.ty.get t,l,c with
 | some i,.i _ l,.i _ c =>
   (match i.d with
    | .slice e =>
      (match C.E.ty.get e,recOf C.rc e with
       | some j,some q =>
         (match nth C.Γ q,zeroS j with
          | some cts,some z =>
            bif Nat.ble j.bytes 4096&&Nat.blt 0 j.size&&Nat.beq z.length j.size&&Nat.beq cts.length j.size&&svCTs s .low z cts&&leQ s (ieC 0) l&&leQ s l c&&leQ s c (ieC 16000000) then
             some (.os s.nb l c j.size,s.blk (.vec q .low c)) else none
          | _,_=>none)
       | _,_=>none)
    | _=>none)
 | _,_,_=>none
def rangeS(C:Cfg)(s:S)(t:TypeId)(x:SV):Option (SV×S) :=
 match C.E.ty.get t with
 | some i =>
   (match i.d,x with
    | .string,.sn j=>some (.p s.nb 0,s.blk (.iter j (ieC 0)))
    | _,_=>none)
 | none=>none
def nextS(s:S)(x:SV):Option (List (SV×S)) :=
 match x with
 | .p b 0 =>
   (match get1 s.h b with
    | some (.iter j e) =>
      bif leQ s (ieC 0) e&&leQ s e (ieC 100000000) then
       some [(.tup [.b false],s),
        (.tup [.b true,.i .i64 e,.i .i32 ⟨.v s.ty.length,0⟩],
         ((((((s.name (.int .i32)).name (.int .i64)).fact (e.up 1) ⟨.v (s.ty.length+1),0⟩).fact ⟨.v (s.ty.length+1),0⟩ (e.up 4)).fact (e.up 1) ⟨.ln j,0⟩).setB b (.iter j ⟨.v (s.ty.length+1),0⟩)))]
      else none
    | _=>none)
 | _=>none
def convS(C:Cfg)(s:S)(src dst:TypeId)(x:SV):Option (SV×S) :=
 match C.E.ty.get src,C.E.ty.get dst with
 | some _,some i =>
   (match i.d,x with
    | .int k,.i j e=>bif kindEq j k then some (.i j e,s) else some (freshI C s k)
    | .string,.sn j=>some (.sn j,s)
    | .string,.lit (.string z)=>some (.lit (.string z),s)
    | _,_=>none)
 | _,_=>none
def unS(C:Cfg)(s:S)(op:UnOp)(x:SV):Option (SV×S) :=
 match op,x with
 | .neg,.i k e=>(match e.b with
   | .c=>bif inK k (subI 0 e.k) then some (.i k (ieC (subI 0 e.k)),s) else none
   | _=>some (freshI C s k))
 | .not,x=>(match flipS x with|some y=>some (y,s)|none=>none)
 | _,_=>none
def maxS(C:Cfg)(s:S)(big:Bool)(l:List SV):Option (SV×S) :=
 match l with
 | [.i j a,.i k b]=>bif kindEq j k then (bif big then some (boundI C s j [a,b] []) else some (boundI C s j [] [a,b])) else none
 | _=>none
def biS(C:Cfg)(s:S)(b:Builtin)(ats:List TypeId)(l:List SV):Option (SV×S) :=
 match b,ats,l with
 | .len,st :: _,[x]=>(match lenS C st x with|some e=>some (.i .i64 e,s)|none=>none)
 | .cap,st :: _,[x]=>(match capS C st x with|some e=>some (.i .i64 e,s)|none=>none)
 | .append,st :: ts,[a,x]=>appendS C s st (nth ts 0) a x
 | .max,_,l=>maxS C s true l
 | .min,_,l=>maxS C s false l
 | _,_,_=>none
def one(r:Option (SV×S)):Option (List (SV×S)) :=
 match r with
 | some x=>some [x]
 | none=>none
def undefS:SV:= .tup []
abbrev CallS:=S→FuncId→List SV→Option (List (SV×S))
def callS(C:Cfg)(callr:CallS)(s:S)(f:SV)(args:List SV):Option (List (SV×S)) :=
 match f with
 | .f k first capt=>(match C.E.fn.get k with
   | some _=>callr s k (first ++ args ++ capt)
   | none=>none)
 | _=>none
def fieldS(C:Cfg)(st:TypeId)(x:SV)(k:Nat):Option SV :=
 match fieldOff C.E st k with
 | some f =>
   (match x with
    | .p i off=>some (.p i (off+f))
    | .dp j e sz off=>some (.dp j e sz (off+f))
    | .pv i e sz off=>some (.pv i e sz (off+f))
    | _=>none)
 | none=>none
def idxAllS(C:Cfg)(s:S)(ty:TypeId)(x:SV)(e:IE):Option (List (SV×S)) :=
 match C.E.ty.get ty,x with
 | some ti,.p a off =>
   (match ti.d with
    | .array len et =>
      (match C.E.ty.get et,lbC s e,ubC s e with
       | some j,some (.ofNat lo),some (.ofNat hi) =>
         bif Nat.blt hi len&&Nat.ble (hi-lo) 20&&leQ s (ieC lo) e&&leQ s e (ieC hi) then
          some ((casesI s e (hi+1-lo) lo).map fun p=>(.p a (off+p.1 * j.size),p.2))
         else none
       | _,_,_=>none)
    | _=>none)
 | _,_=>none
def aop(C:Cfg)(callr:CallS)(s:S)(o:Oper):Option (List (SV×S)) :=
 match o.op with
 | .move x=>(match evS C s x with|some v=>some [(v,s)]|none=>none)
 | .assign x=>(match evS C s x with|some v=>some [(v,s)]|none=>none)
 | .pick c a b =>
   (match evS C s c with
    | some v=>(match splitB s v with
      | some l=>mapO (fun p:Bool×S=>match evS C p.2 (bif p.1 then a else b) with|some w=>some (w,p.2)|none=>none) l
      | none=>none)
    | none=>none)
 | .load ty a=>(match evS C s a with|some v=>one (ldS C s ty v)|none=>none)
 | .store ty a x=>(match evS C s a,evS C s x with
  | some p,some v=>(match stS C s ty p v with|some s'=>some [(undefS,s')]|none=>none)
  | _,_=>none)
 | .alloc e=>(match C.E.ty.get e with
  | some i=>(match zeroS i with|some z=>some [(.p s.nb 0,s.blk (.cells z))]|none=>none)
  | none=>none)
 | .box _ x=>(match evS C s x with
  | some v=>(match cellsS v with|some m=>some [(.p s.nb 0,s.blk (.cells m))]|none=>none)
  | none=>none)
 | .build ty ps=>(match evSP C s ps.toList with
  | some l=>(match buildS C ty l with|some v=>some [(v,s)]|none=>none)
  | none=>none)
 | .buildSlice ty len ps=>(match evSP C s ps.toList with
  | some l=>(match buildSliceS C ty len l with
   | some (cs,sz)=>bif allOKS cs then some [(.os s.nb (ieC len) (ieC len) sz,s.blk (.cells cs))] else none
   | none=>none)
  | none=>none)
 | .fieldAddr st x k=>(match evS C s x with
  | some v=>(match fieldS C st v k with|some w=>some [(w,s)]|none=>none)
  | none=>none)
 | .indexAddr ty x i=>(match evS C s x,evS C s i with
  | some v,some (.i _ e)=>(match idxS C s ty v e with|some w=>some [(w,s)]|none=>idxAllS C s ty v e)
  | _,_=>none)
 | .binOp op ty x y _=>(match evS C s x,evS C s y with|some a,some b=>one (binS C s op ty a b)|_,_=>none)
 | .unOp op _ x=>(match evS C s x with|some a=>one (unS C s op a)|none=>none)
 | .convert src dst x=>(match evS C s x with|some a=>one (convS C s src dst a)|none=>none)
 | .nilCheck x=>(match evS C s x with
  | some (.p i off)=>some [(.p i off,s)]
  | some (.dp j e sz off)=>some [(.dp j e sz off,s)]
  | some (.pv j e sz off)=>some [(.pv j e sz off,s)]
  | some (.f g a b)=>some [(.f g a b,s)]
  | _=>none)
 | .extract x k=>(match evS C s x with
  | some (.tup l)=>(match nth l k with|some v=>some [(v,s)]|none=>none)
  | _=>none)
 | .makeFunc f first capt=>(match f,evSL C s first.toList,evSL C s capt.toList with
  | .func k,some a,some b=>some [(.f k a b,s)]
  | _,_,_=>none)
 | .makeMap mt none=>one (makeMapS C s mt)
 | .makeSlice ty l c=>(match evS C s l,evS C s c with|some l,some c=>one (makeSliceS C s ty l c)|_,_=>none)
 | .slice ty x lo hi mx=>(match evS C s x,evSO C s lo,evSO C s hi,evSO C s mx with
  | some v,some lo,some hi,some mx=>one (sliceS C s ty v lo hi mx)
  | _,_,_,_=>none)
 | .lookup ty x i ok=>(match evS C s x,evS C s i with|some m,some k=>one (lookupS C s ty m k ok)|_,_=>none)
 | .mapUpdate ty m k x| .insert ty m k x=>(match evS C s m,evS C s k,evS C s x with
  | some m,some k,some v=>(match mapPutS C s ty m k v with|some s'=>some [(undefS,s')]|none=>none)
  | _,_,_=>none)
 | .range ty x=>(match evS C s x with|some v=>one (rangeS C s ty v)|none=>none)
 | .next x true=>(match evS C s x with|some v=>nextS s v|none=>none)
 | .call c=>(match evSL C s c.args.toList with
  | some args=>(match c.callee with
   | .value f=>(match evS C s f with|some v=>callS C callr s v args|none=>none)
   | .builtin b=>one (biS C s b c.argTypes.toList args)
   | _=>none)
  | none=>none)
 | _=>none
where
 allOKS (l:List SV):Bool:=l.all cellOK
end
theorem ABok.keep{C:Cfg}{R:Nat}{ν ν':List Value}{β β':List (Option Nat)}{h h':T Blk}{a:AB}{o:Option Nat}(ha:ABok C R ν β h a o)(he:Ext ν β ν' β')(hro:∀ b cs,h.get b=some (.ro cs)→h'.get b=some (.ro cs))(hb:∀ b,o=some b→h'.get b=h.get b):ABok C R ν' β' h' a o:=by
 cases o with
 | none =>
   cases a with
   | vec q rk low=>exact⟨he.nu ha.1,ha.2⟩
   | cells l=>exact ha.elim
   | map kt ct=>exact ha.elim
   | iter j e=>exact ha.elim
 | some b =>
   have hb:=hb b rfl;cases a with
   | vec q rk low =>
     obtain⟨cs,cts,L,h1,h2,h3,h4,h5,h7⟩:=ha;exact⟨cs,cts,L,by rw[hb,h1],h2,h3,he.nu h4,h5,fun i x ct hx hc=>(h7 i x ct hx hc).mono hro⟩
   | cells l =>
     obtain⟨cs,h1,h2,h3⟩:=ha;exact⟨cs,by rw[hb,h1],h2.ext he,h3⟩
   | map kt ct =>
     obtain⟨es,kk,h1,h2,h3⟩:=ha;exact⟨es,kk,by rw[hb,h1],h2,fun e hx=>⟨(h3 e hx).1,(h3 e hx).2.1,(h3 e hx).2.2.mono hro⟩⟩
   | iter j e =>
     obtain⟨z,pos,h1,h2,h3⟩:=ha;exact⟨z,pos,he.at h1,he.nu h2,by rw[hb,h3]⟩
theorem ABok.noro{C:Cfg}{R:Nat}{ν:List Value}{β:List (Option Nat)}{h:T Blk}{a:AB}{b:Nat}(ha:ABok C R ν β h a (some b))(cs:List Value):h.get b≠some (.ro cs):=by
 intro hr;cases a with
 | vec q rk low=>obtain⟨_,_,_,h1,_⟩:=ha;rw[hr] at h1;cases h1
 | cells l=>obtain⟨_,h1,_⟩:=ha;rw[hr] at h1;cases h1
 | map kt ct=>obtain⟨_,_,h1,_⟩:=ha;rw[hr] at h1;cases h1
 | iter j e=>obtain⟨_,_,_,_,h1⟩:=ha;rw[hr] at h1;cases h1
theorem RvOK.ext{C:Cfg}{R:Nat}{F:Nat→Prop}{h0:T Blk}{r:List (Nat×(Nat×RK×IE))}{ν ν':List Value}{β β':List (Option Nat)}(e:Ext ν β ν' β')(h:RvOK C R F h0 r ν β):RvOK C R F h0 r ν' β':=fun i x hi=>by obtain⟨o,h1,h2,h3⟩:=h i x hi;exact⟨o,e.be h1,h2,h3.keep e (fun _ _ h=>h) fun _ _=>rfl⟩
section
variable {C:Cfg}{R:Nat}{F:Nat→Prop}{h0:T Blk}{n0:Nat}{s:S}{ν:List Value}{β:List (Option Nat)}{t:T Value}{h:T Blk}{n:Nat}
theorem Ga.set(g:Ga C R F h0 n0 s ν β t h n){x:SV}{v:Value}(hv:V ν β x v)(k:Nat):Ga C R F h0 n0 (s.set k x) ν β (t.upd (some v) k) h n :=
 {tm:=fun j y hj=>by
   simp only[S.set] at hj;rw[get1_put] at hj;split at hj
   ·rename_i e;subst e;cases hj;exact⟨v,T.gsE _ _ _,hv⟩
   ·rename_i e;obtain⟨w,h1,h2⟩:=g.tm j y hj;exact⟨w,by rw[T.gnE _ _ e];exact h1,h2⟩
  nt:=g.nt,nl:=g.nl,bl:=g.bl,bb:=g.bb,hp:=g.hp,nd:=g.nd,ft:=g.ft,fr:=g.fr,gr:=g.gr,pr:=g.pr,rk:=g.rk,rvk:=g.rvk,nn:=g.nn,ro:=g.ro}
theorem Ga.tmps(g:Ga C R F h0 n0 s ν β t h n){l:List (Nat×SV)}{t':T Value}(ht:∀ k x,get1 l k=some x→∃ v,t'.get k=some v∧V ν β x v):Ga C R F h0 n0 {s with t:=l} ν β t' h n :=
 {tm:=ht,nt:=g.nt,nl:=g.nl,bl:=g.bl,bb:=g.bb,hp:=g.hp,nd:=g.nd,ft:=g.ft,fr:=g.fr,gr:=g.gr,pr:=g.pr,rk:=g.rk,rvk:=g.rvk,nn:=g.nn,ro:=g.ro}
theorem Ga.fact(g:Ga C R F h0 n0 s ν β t h n){a b:IE}(hf:FtOK ν (a,b)):Ga C R F h0 n0 (s.fact a b) ν β t h n :=
 {tm:=g.tm,nt:=g.nt,nl:=g.nl,bl:=g.bl,bb:=g.bb,hp:=g.hp,nd:=g.nd,fr:=g.fr,gr:=g.gr,pr:=g.pr,rk:=g.rk,rvk:=g.rvk,nn:=g.nn,ro:=g.ro
  ft:=fun f hm=>by
   rcases List.mem_cons.1 hm with rfl|hm
   ·exact hf
   ·exact g.ft f hm}
theorem Ext.name(ν:List Value)(β:List (Option Nat))(v:Value):Ext ν β (ν ++ [v]) β:=⟨⟨[v],rfl⟩,[],by simp⟩
theorem Ga.name(g:Ga C R F h0 n0 s ν β t h n){N:NT}{v:Value}(hT:NTok C R h N v):Ga C R F h0 n0 (s.name N) (ν ++ [v]) β t h n∧(ν ++ [v])[s.ty.length]? =some v:=by
 have he:=Ext.name ν β v;have hat:(ν ++ [v])[s.ty.length]? =some v:=by rw[←g.nl];simp
 refine⟨{tm:=fun k x hk=>?_,nt:=fun j T' hj=>?_,nl:=by simp[S.name,g.nl],bl:=g.bl,bb:=g.bb,hp:=fun i a hi=>?_,nd:=g.nd,ft:=fun f hf=>(g.ft f hf).ext he,fr:=g.fr,gr:=g.gr,pr:=g.pr,rk:=g.rk.ext he,rvk:=g.rvk.ext he,nn:=g.nn,ro:=g.ro},hat⟩
 ·obtain⟨w,h1,h2⟩:=g.tm k x hk;exact⟨w,h1,h2.ext he⟩
 ·simp only[S.name,nth_eq] at hj;by_cases hjl:j<s.ty.length
  ·rw[List.getElem?_append_left hjl] at hj;obtain⟨w,h1,h2⟩:=g.nt j T' (by rw[nth_eq];exact hj);exact⟨w,gapp _ h1,h2⟩
  ·have hlt:=(gsI hj).1;rw[List.length_append] at hlt;simp only[List.length_cons,List.length_nil] at hlt;have:j=s.ty.length:=by omega
   subst this;rw[List.getElem?_append_right (nlR _)] at hj;simp only[Nat.sub_self,List.getElem?_cons_zero,Option.some.injEq] at hj;subst hj;exact⟨v,hat,hT⟩
 ·obtain⟨o,h1,h2⟩:=g.hp i a hi;exact⟨o,h1,h2.keep he (fun _ _ h=>h) (fun _ _=>rfl)⟩
theorem Ga.blk(g:Ga C R F h0 n0 s ν β t h n){a:AB}{k:Blk}(ha:ABok C R ν (β ++ [some n]) (h.upd (some k) n) a (some n)):Ga C R F h0 n0 (s.blk a) ν (β ++ [some n]) t (h.upd (some k) n) (n+1):=by
 have he:Ext ν β ν (β ++ [some n]):=⟨⟨[],by simp⟩,[some n],rfl⟩
 have hne:∀ {b x},h.get b=some x→b≠n:=by intro b x hb e;rw[e,g.fr n (nlR _)] at hb;cases hb
 have hro:∀ b cs,h.get b=some (.ro cs)→(h.upd (some k) n).get b=some (.ro cs):=fun b cs hb=>by rw[T.gnE _ _ (hne hb)];exact hb
 have hnew:(β ++ [some n])[s.nb]? =some (some n):=by rw[←g.bl];simp
 have hold:∀ {i:Nat} {o},i≠s.nb→(β ++ [some n])[i]? =some o→β[i]? =some o:=by intro i o hi ho;have hlt:=(gsI ho).1;rw[List.length_append,g.bl] at hlt;simp only[List.length_cons,List.length_nil] at hlt;rw[List.getElem?_append_left (by rw[g.bl];omega)] at ho;exact ho
 refine {tm:=fun j x hj=>?_,nt:=fun j T' hj=>?_,nl:=g.nl,bl:=by simp[S.blk,g.bl],bb:=fun i b hi=>?_,hp:=fun i a' hi=>?_,nd:=fun i j a1 a2 b hi hj hbi hbj=>?_,ft:=g.ft,fr:=fun b hb=>?_,gr:=fun x hx=>?_,pr:=fun b hb=>?_,rk:=g.rk.ext he,rvk:=g.rvk.ext he,nn:=Nat.le_succ_of_le g.nn,ro:=fun b cs hb=>hro b cs (g.ro b cs hb)}
 ·obtain⟨w,h1,h2⟩:=g.tm j x hj;exact⟨w,h1,h2.ext he⟩
 ·obtain⟨w,h1,h2⟩:=g.nt j T' hj;exact⟨w,h1,h2.mono hro⟩
 ·by_cases hi':i=s.nb
  ·subst hi';rw[hnew] at hi;cases hi;exact Nat.lt_succ_self _
  ·exact Nat.lt_succ_of_lt (g.bb i b (hold hi' hi))
 ·simp only[S.blk] at hi;rw[get1_put] at hi;split at hi
  ·rename_i e;cases hi;subst e;exact⟨some n,hnew,ha⟩
  ·obtain⟨o,h1,h2⟩:=g.hp i a' hi;exact⟨o,he.be h1,h2.keep he hro fun b hb=>by subst hb;rw[T.gnE _ _ (Nat.ne_of_lt (g.bb i b h1))]⟩
 ·simp only[S.blk] at hi hj;rw[get1_put] at hi hj;split at hi<;>split at hj
  ·rename_i e1 e2;rw[e1,e2]
  ·rename_i e1 e2;subst e1;rw[hnew] at hbi;cases hbi;exact absurd (g.bb j n (hold e2 hbj)) (Nat.lt_irrefl _)
  ·rename_i e1 e2;subst e2;rw[hnew] at hbj;cases hbj;exact absurd (g.bb i n (hold e1 hbi)) (Nat.lt_irrefl _)
  ·rename_i e1 e2;exact g.nd i j a1 a2 b hi hj (hold e1 hbi) (hold e2 hbj)
 ·rw[T.gnE _ _ (by omega)];exact g.fr b (by omega)
 ·rw[T.gnE _ _ (hne (g.gr x hx))];exact g.gr x hx
 ·obtain⟨h1,h2,h3⟩:=g.pr b hb;refine⟨Nat.lt_succ_of_lt h1,by rw[T.gnE _ _ (Nat.ne_of_lt h1)];exact h2,fun i a' hi hbi=>?_⟩;simp only[S.blk] at hi;rw[get1_put] at hi;split at hi
  ·rename_i e;subst e;rw[hnew] at hbi;cases hbi;exact Nat.lt_irrefl _ h1
  ·rename_i e;exact h3 i a' hi (hold e hbi)
theorem Ga.nob(g:Ga C R F h0 n0 s ν β t h n){a:AB}(ha:ABok C R ν (β ++ [none]) h a none):Ga C R F h0 n0 (s.blk a) ν (β ++ [none]) t h n:=by
 have he:Ext ν β ν (β ++ [none]):=⟨⟨[],by simp⟩,[none],rfl⟩
 have hnew:(β ++ [none])[s.nb]? =some none:=by rw[←g.bl];simp
 have hold:∀ {i:Nat} {b:Nat},(β ++ [none])[i]? =some (some b)→β[i]? =some (some b):=by
  intro i b ho;have hlt:=(gsI ho).1;rw[List.length_append] at hlt;simp only[List.length_cons,List.length_nil] at hlt;by_cases hi:i=s.nb
  ·subst hi;rw[hnew] at ho;cases ho
  ·rw[List.getElem?_append_left (by rw[g.bl] at hlt ⊢;omega)] at ho;exact ho
 refine {tm:=fun j x hj=>?_,nt:=g.nt,nl:=g.nl,bl:=by simp[S.blk,g.bl],bb:=fun i b hi=>g.bb i b (hold hi),hp:=fun i a' hi=>?_,nd:=fun i j a1 a2 b hi hj hbi hbj=>?_,ft:=g.ft,fr:=g.fr,gr:=g.gr,pr:=fun b hb=>?_,rk:=g.rk.ext he,rvk:=g.rvk.ext he,nn:=g.nn,ro:=g.ro}
 ·obtain⟨w,h1,h2⟩:=g.tm j x hj;exact⟨w,h1,h2.ext he⟩
 ·simp only[S.blk] at hi;rw[get1_put] at hi;split at hi
  ·rename_i e;cases hi;subst e;exact⟨none,hnew,ha⟩
  ·obtain⟨o,h1,h2⟩:=g.hp i a' hi;exact⟨o,he.be h1,h2.keep he (fun _ _ h=>h) fun _ _=>rfl⟩
 ·simp only[S.blk] at hi hj;rw[get1_put] at hi hj;have h1:=hold hbi;have h2:=hold hbj;have l1:=(gsI h1).1;have l2:=(gsI h2).1;rw[if_neg (by rw[g.bl] at l1;omega)] at hi;rw[if_neg (by rw[g.bl] at l2;omega)] at hj;exact g.nd i j a1 a2 b hi hj h1 h2
 ·obtain⟨h1,h2,h3⟩:=g.pr b hb;refine⟨h1,h2,fun i a' hi hbi=>?_⟩;have h4:=hold hbi;have l1:=(gsI h4).1;simp only[S.blk] at hi;rw[get1_put,if_neg (by rw[g.bl] at l1;omega)] at hi;exact h3 i a' hi h4
theorem Ga.dropB(g:Ga C R F h0 n0 s ν β t h n)(i:Nat):Ga C R F h0 n0 (s.dropB i) ν β t h n:=by
 have hd:∀ {j a},get1 (s.dropB i).h j=some a→get1 s.h j=some a:=by
  intro j a hj;simp only[S.dropB] at hj;rw[get1_del] at hj;split at hj
  ·cases hj
  ·exact hj
 exact {tm:=g.tm,nt:=g.nt,nl:=g.nl,bl:=g.bl,bb:=g.bb,hp:=fun j a hj=>g.hp j a (hd hj),nd:=fun j k a a' b hj hk=>g.nd j k a a' b (hd hj) (hd hk),ft:=g.ft,fr:=g.fr,gr:=g.gr,
        pr:=fun b hb=>⟨(g.pr b hb).1,(g.pr b hb).2.1,fun j a hj=>(g.pr b hb).2.2 j a (hd hj)⟩,rk:=g.rk,rvk:=g.rvk,nn:=g.nn,ro:=g.ro}
theorem Ga.upd(g:Ga C R F h0 n0 s ν β t h n){i b:Nat}{a a':AB}{k:Blk}(hi:get1 s.h i=some a)(hb:β[i]? =some (some b))(ha:ABok C R ν β (h.upd (some k) b) a' (some b)):Ga C R F h0 n0 (s.setB i a') ν β t (h.upd (some k) b) n:=by
 obtain⟨o,ho,ha0⟩:=g.hp i a hi;rw[hb] at ho;cases ho;have hne:∀ {c cs},h.get c=some (.ro cs)→c≠b:=by intro c cs hc e;subst e;exact ha0.noro cs hc
 have hro:∀ c cs,h.get c=some (.ro cs)→(h.upd (some k) b).get c=some (.ro cs):=fun c cs hc=>by rw[T.gnE _ _ (hne hc)];exact hc
 have hd:∀ {j c},get1 (s.setB i a').h j=some c→∃ c',get1 s.h j=some c':=by
  intro j c hj;simp only[S.setB] at hj;rw[get1_put] at hj;split at hj
  ·rename_i e;subst e;exact⟨a,hi⟩
  ·exact⟨c,hj⟩
 have hlt:=g.bb i b hb;refine {tm:=g.tm,nt:=fun j T' hj=>?_,nl:=g.nl,bl:=g.bl,bb:=g.bb,hp:=fun j c hj=>?_,nd:=fun j j' c c' d hj hj'=>?_,ft:=g.ft,fr:=fun c hc=>?_,gr:=fun x hx=>hro _ _ (g.gr x hx),pr:=fun c hc=>?_,rk:=g.rk,rvk:=g.rvk,nn:=g.nn,ro:=fun c cs hc=>hro c cs (g.ro c cs hc)}
 ·obtain⟨w,h1,h2⟩:=g.nt j T' hj;exact⟨w,h1,h2.mono hro⟩
 ·simp only[S.setB] at hj;rw[get1_put] at hj;split at hj
  ·rename_i e;subst e;cases hj;exact⟨some b,hb,ha⟩
  ·rename_i e;obtain⟨o,h1,h2⟩:=g.hp j c hj;refine⟨o,h1,h2.keep .rfl' hro fun d hd'=>?_⟩;subst hd';rw[T.gnE];intro e';subst e';exact e (g.nd j i c a d hj hi h1 hb)
 ·obtain⟨c1,h1⟩:=hd hj;obtain⟨c2,h2⟩:=hd hj';exact g.nd j j' c1 c2 d h1 h2
 ·rw[T.gnE _ _ (by omega)];exact g.fr c hc
 ·obtain⟨h1,h2,h3⟩:=g.pr c hc;refine⟨h1,?_,fun j d hj=>?_⟩
  ·rw[T.gnE _ _ (fun e=>by subst e;exact h3 i a hi hb)];exact h2
  ·obtain⟨d',h4⟩:=hd hj;exact h3 j d' h4
theorem Ga.kill(g:Ga C R F h0 n0 s ν β t h n){i b:Nat}{a:AB}(hi:get1 s.h i=some a)(hb:β[i]? =some (some b)):Ga C R F h0 n0 (s.dropB i) ν β t (h.upd none b) n:=by
 obtain⟨o,ho,ha0⟩:=g.hp i a hi;rw[hb] at ho;cases ho;have hne:∀ {c cs},h.get c=some (.ro cs)→c≠b:=by intro c cs hc e;subst e;exact ha0.noro cs hc
 have hro:∀ c cs,h.get c=some (.ro cs)→(h.upd none b).get c=some (.ro cs):=fun c cs hc=>by rw[T.gnE _ _ (hne hc)];exact hc
 have hd:∀ {j c},get1 (s.dropB i).h j=some c→j≠i∧get1 s.h j=some c:=by
  intro j c hj;simp only[S.dropB] at hj;rw[get1_del] at hj;split at hj
  ·cases hj
  ·rename_i e;exact⟨e,hj⟩
 refine {tm:=g.tm,nt:=fun j T' hj=>?_,nl:=g.nl,bl:=g.bl,bb:=g.bb,hp:=fun j c hj=>?_,nd:=fun j j' c c' d hj hj'=>g.nd j j' c c' d (hd hj).2 (hd hj').2,ft:=g.ft,fr:=fun c hc=>?_,gr:=fun x hx=>hro _ _ (g.gr x hx),pr:=fun c hc=>?_,rk:=g.rk,rvk:=g.rvk,nn:=g.nn,ro:=fun c cs hc=>hro c cs (g.ro c cs hc)}
 ·obtain⟨w,h1,h2⟩:=g.nt j T' hj;exact⟨w,h1,h2.mono hro⟩
 ·obtain⟨e,hj⟩:=hd hj;obtain⟨o,h1,h2⟩:=g.hp j c hj;refine⟨o,h1,h2.keep .rfl' hro fun d hd'=>?_⟩;subst hd';rw[T.gnE];intro e';subst e';exact e (g.nd j i c a d hj hi h1 hb)
 ·by_cases e:c=b
  ·rw[e,T.gsE]
  ·rw[T.gnE _ _ e];exact g.fr c hc
 ·obtain⟨h1,h2,h3⟩:=g.pr c hc;refine⟨h1,?_,fun j d hj=>h3 j d (hd hj).2⟩;rw[T.gnE _ _ (fun e=>by subst e;exact h3 i a hi hb)];exact h2
theorem Ga.kept(g:Ga C R F h0 n0 s ν β t h n){h':T Blk}{n':Nat}(hk:∀ b,b<n→h'.get b=h.get b)(hn:n≤n')(hf:∀ b,n'≤b→h'.get b=none):Ga C R F h0 n0 s ν β t h' n':=by
 have hlt:∀ {b x},h.get b=some x→b<n:=by intro b x hb;apply Classical.byContradiction;intro hx;rw[g.fr b (by omega)] at hb;cases hb
 have hro:∀ c cs,h.get c=some (.ro cs)→h'.get c=some (.ro cs):=fun c cs hc=>by rw[hk c (hlt hc)];exact hc
 refine {tm:=g.tm,nt:=fun j T' hj=>?_,nl:=g.nl,bl:=g.bl,bb:=fun i b hi=>Nat.lt_of_lt_of_le (g.bb i b hi) hn,hp:=fun i a hi=>?_,nd:=g.nd,ft:=g.ft,fr:=hf,gr:=fun x hx=>hro _ _ (g.gr x hx),pr:=fun b hb=>?_,rk:=g.rk,rvk:=g.rvk,nn:=Nat.le_trans g.nn hn,ro:=fun b cs hb=>hro b cs (g.ro b cs hb)}
 ·obtain⟨w,h1,h2⟩:=g.nt j T' hj;exact⟨w,h1,h2.mono hro⟩
 ·obtain⟨o,h1,h2⟩:=g.hp i a hi;exact⟨o,h1,h2.keep .rfl' hro fun b hb=>by subst hb;exact hk b (g.bb i b h1)⟩
 ·obtain⟨h1,h2,h3⟩:=g.pr b hb;exact⟨Nat.lt_of_lt_of_le h1 hn,by rw[hk b h1];exact h2,h3⟩
theorem Ga.ie(g:Ga C R F h0 n0 s ν β t h n){x y:IE}{a b:Int}(hq:leQ s x y=true)(hx:evI ν x=some a)(hy:evI ν y=some b):a≤b:=leF_ok g.ft 3 hq hx hy
end
theorem evI_up{ν:List Value}{e:IE}{x:Int}(k:Int)(h:evI ν e=some x):evI ν (e.up k)=some (x+k):=by unfold IE.up;rw[addI_eq];exact evI_add k h
theorem evI_ieC{ν:List Value}(k:Int):evI ν (ieC k)=some k:=evI_c k
theorem mapO_at{α β:Type}{g:α→Option β}:∀ {l:List α}{r:List β},mapO g l=some r→∀ a∈l,∃ b∈r,g a=some b
 | [],r,h,a,ha=>by cases ha
 | x :: l,r,h,a,ha=>by
   simp only[mapO] at h;split at h
   ·rename_i b r' hb hr;cases h;rcases List.mem_cons.1 ha with rfl|ha
    ·exact⟨b,mcS ..,hb⟩
    ·obtain⟨c,h1,h2⟩:=mapO_at hr a ha;exact⟨c,mcM _ h1,h2⟩
   ·cases h
theorem mapO_VL{ν:List Value}{β:List (Option Nat)}{α:Type}{g:α→Option SV}{f:α→Option Value}(hg:∀ a x,g a=some x→∃ v,f a=some v∧V ν β x v):∀ {l:List α}{r:List SV},mapO g l=some r→∃ vs,mapO f l=some vs∧VL ν β r vs
 | [],r,h=>by simp only[mapO,Option.some.injEq] at h;subst h;exact⟨[],rfl,.nil⟩
 | a :: l,r,h=>by
   simp only[mapO] at h ⊢;split at h
   ·rename_i b r' hb hr;cases h;obtain⟨v,h1,h2⟩:=hg a b hb;obtain⟨vs,h3,h4⟩:=mapO_VL hg hr;rw[h1,h3];exact⟨v :: vs,rfl,.cons h2 h4⟩
   ·cases h
theorem mapO_self{α:Type}:∀ (l:List α),mapO (fun a=>some a) l=some l
 | []=>rfl
 | a :: l=>by simp only[mapO,mapO_self l]
theorem inK_iff{k:IntKind}{x:Int}:inK k x=true↔k.min≤x∧x≤k.max:=by unfold inK;rw[baT,leI_eq,leI_eq,decide_eq_true_eq,decide_eq_true_eq]
theorem svOf_ok{ν:List Value}{β:List (Option Nat)}:∀ (f:Nat)(v:Value)(x:SV),svOf f v=some x→V ν β x v
 | 0,v,x,h=>by simp[svOf] at h
 | f+1,v,x,h=>by
   simp only[svOf] at h;split at h
   ·rename_i k y;rw[biE] at h;split at h
    ·rename_i hk;cases h;obtain⟨h1,h2⟩:=inK_iff.1 hk;exact .i (evI_c y) h1 h2
    ·cases h
   ·cases h;exact .b _
   ·rename_i cs;split at h
    ·rename_i l hl;cases h;obtain⟨vs,h1,h2⟩:=mapO_VL (f:=fun a=>some a) (fun a x hx=>⟨a,rfl,svOf_ok f a x hx⟩) hl;rw[mapO_self] at h1;cases h1;exact V.agg h2
    ·cases h
   ·rw[biE] at h;split at h
    ·rename_i hl;cases h;rw[baT] at hl;exact .lit hl.1
    ·cases h
section
variable {C:Cfg}{R:Nat}{F:Nat→Prop}{h0:T Blk}{n0:Nat}{s:S}{ν:List Value}{β:List (Option Nat)}{t:T Value}{h:T Blk}{n:Nat}
theorem evS_ok(g:Ga C R F h0 n0 s ν β t h n){o:Operand}{x:SV}(hx:evS C s o=some x):∃ v,evA C.E t o=some v∧V ν β x v:=by
 cases o with
 | tmp k=>exact g.tm k x hx
 | const v =>
   simp only[evS,biE] at hx;split at hx
   ·rename_i hl;exact⟨v,by simp only[evA,hl,_root_.cond_true],svOf_ok 4 v x hx⟩
   ·cases hx
 | global k =>
   simp only[evS,biE] at hx;split at hx
   ·rename_i hl;cases hx;exact⟨_,by simp only[evA,hl,_root_.cond_true],.g k⟩
   ·cases hx
 | func f =>
   simp only[evS,Option.some.injEq] at hx;subst hx;exact⟨_,rfl,.f .nil .nil⟩
theorem evSL_ok(g:Ga C R F h0 n0 s ν β t h n):∀ {l:List Operand}{x:List SV},evSL C s l=some x→∃ v,evAll C.E t l=some v∧VL ν β x v
 | [],x,hx=>by simp only[evSL,mapO,Option.some.injEq] at hx;subst hx;exact⟨[],rfl,.nil⟩
 | o :: l,x,hx=>by
   simp only[evSL,mapO] at hx;split at hx
   ·rename_i b r hb hr;cases hx;obtain⟨v,h1,h2⟩:=evS_ok g hb;obtain⟨vs,h3,h4⟩:=evSL_ok g (l:=l) hr;exact⟨v :: vs,by simp only[evAll,h1,h3],.cons h2 h4⟩
   ·cases hx
inductive PL (ν:List Value) (β:List (Option Nat)):List (Nat×SV)→List (Nat×Value)→Prop
 | nil:PL ν β [] []
 | cons {i:Nat} {x:SV} {v:Value} {l:List (Nat×SV)} {m:List (Nat×Value)} (h:V ν β x v) (hl:PL ν β l m):PL ν β ((i,x) :: l) ((i,v) :: m)
theorem evSP_ok(g:Ga C R F h0 n0 s ν β t h n):∀ {l:List (Nat×Operand)}{x:List (Nat×SV)},evSP C s l=some x→∃ v,evParts C.E t l=some v∧PL ν β x v
 | [],x,hx=>by simp only[evSP,Option.some.injEq] at hx;subst hx;exact⟨[],rfl,.nil⟩
 | (i,o) :: l,x,hx=>by
   simp only[evSP] at hx;split at hx
   ·rename_i b r hb hr;cases hx;obtain⟨v,h1,h2⟩:=evS_ok g hb;obtain⟨vs,h3,h4⟩:=evSP_ok g (l:=l) hr;exact⟨(i,v) :: vs,by simp only[evParts,h1,h3],.cons h2 h4⟩
   ·cases hx
theorem evSO_ok(g:Ga C R F h0 n0 s ν β t h n){o:Option Operand}{x:Option SV}(hx:evSO C s o=some x):∃ v,evOpt C.E t o=some v∧((x=none∧v=none)∨∃ y w,x=some y∧v=some w∧V ν β y w):=by
 cases o with
 | none=>simp only[evSO,Option.some.injEq] at hx;subst hx;exact⟨none,rfl,.inl ⟨rfl,rfl⟩⟩
 | some o =>
   simp only[evSO] at hx;split at hx
   ·rename_i y hy;cases hx;obtain⟨w,h1,h2⟩:=evS_ok g hy;exact⟨some w,by simp only[evOpt,h1],.inr ⟨y,w,rfl,rfl,h2⟩⟩
   ·cases hx
theorem splitB_ok(g:Ga C R F h0 n0 s ν β t h n){x:SV}{l:List (Bool×S)}(hl:splitB s x=some l){v:Value}(hv:V ν β x v):∃ b s',v= .bool b∧(b,s')∈l∧Ga C R F h0 n0 s' ν β t h n:=by
 have upx:∀ {x:IE} {a:Int},evI ν x=some a→evI ν (x.up 1)=some (a+1):=fun hx=>evI_up 1 hx
 cases x with
 | b y =>
   cases hv;simp only[splitB,Option.some.injEq] at hl;subst hl;exact⟨y,s,rfl,by simp,g⟩
 | bn j neg =>
   cases hv;rename_i y hy;simp only[splitB,Option.some.injEq] at hl;subst hl;exact⟨_,s,rfl,by cases (neg != y)<;>simp,g⟩
 | le x y neg =>
   cases hv;rename_i a b hx hy;simp only[splitB,biE] at hl;split at hl
   ·rename_i hq;cases hl;have:=g.ie hq hx hy;exact⟨_,s,rfl,by simp[this],g⟩
   ·split at hl
    ·rename_i hq;cases hl;have:=g.ie hq (upx hy) hx;exact⟨_,s,rfl,by rw[decide_eq_false (by omega)];simp,g⟩
    ·cases hl;by_cases hab:a≤b
     ·exact⟨_,s.fact x y,rfl,by simp[hab],g.fact ⟨a,b,hx,hy,hab⟩⟩
     ·exact⟨_,s.fact (y.up 1) x,rfl,by simp[hab],g.fact ⟨b+1,a,upx hy,hx,by omega⟩⟩
 | eq x y neg =>
   cases hv;rename_i a b hx hy;simp only[splitB,biE] at hl;split at hl
   ·rename_i hq;cases hl;refine⟨_,s,rfl,?_,g⟩;rw[Bool.or_eq_true] at hq;rw[decide_eq_false]
    ·simp
    ·intro e;rcases hq with hq|hq
     ·have:=g.ie hq (upx hx) hy;omega
     ·have:=g.ie hq (upx hy) hx;omega
   ·split at hl
    ·rename_i hq;have h1:=g.ie hq hx hy;split at hl
     ·rename_i hq';cases hl;have h2:=g.ie hq' hy hx;exact⟨_,s,rfl,by rw[decide_eq_true (by omega)];simp,g⟩
     ·cases hl;by_cases hab:a=b
      ·exact⟨_,s.fact y x,rfl,by simp[hab],g.fact ⟨b,a,hy,hx,by omega⟩⟩
      ·exact⟨_,s.fact (x.up 1) y,rfl,by simp[hab],g.fact ⟨a+1,b,upx hx,hy,by omega⟩⟩
    ·split at hl
     ·rename_i hq;have h1:=g.ie hq hy hx;cases hl;by_cases hab:a=b
      ·exact⟨_,s.fact x y,rfl,by simp[hab],g.fact ⟨a,b,hx,hy,by omega⟩⟩
      ·exact⟨_,s.fact (y.up 1) x,rfl,by simp[hab],g.fact ⟨b+1,a,upx hy,hx,by omega⟩⟩
     ·cases hl;by_cases hab:a=b
      ·exact⟨_,(s.fact x y).fact y x,rfl,by simp[hab],(g.fact ⟨a,b,hx,hy,by omega⟩).fact ⟨b,a,hy,hx,by omega⟩⟩
      ·exact⟨_,s,rfl,by simp[hab],g⟩
 | _=>simp[splitB] at hl
theorem rkOK_kid{R:Nat}{rk:RK}{f r:Nat}(hf:f<r)(h:rkOK R rk r):rkOK R (kid rk) f:=by
 cases rk with
 | top=>exact trivial
 | cur=>have h:r<R:=h;show f+1<R;omega
 | low=>have h:r+1<R:=h;show f+1<R;omega
theorem freshC_ok(g:Ga C R F h0 n0 s ν β t h n)(hlim:C.lim≤16000000){rk:RK}{ct:CT}{v:Value}(hd:DR C R h rk ct v):∃ ν',Ext ν β ν' β∧Ga C R F h0 n0 (freshC C s rk ct).1 ν' β t h n∧V ν' β (freshC C s rk ct).2 v:=by
 cases ct with
 | int k =>
   cases hd;rename_i x h1 h2;obtain⟨g',hat⟩:=g.name (N:= .int k) (v:= .int k x) ⟨x,rfl,h1,h2⟩;refine⟨_,Ext.name _ _ _,g',.i ?_ h1 h2⟩;simp only[evI,evB,hat,Int.add_zero]
 | bool =>
   cases hd;rename_i x;obtain⟨g',hat⟩:=g.name (N:= .bool) (v:= .bool x) ⟨x,rfl⟩;refine⟨_,Ext.name _ _ _,g',?_⟩;have:=V.bn (ν:=ν ++ [.bool x]) (β:=β) (neg:=false) hat;simpa [freshC] using this
 | str =>
   cases hd;rename_i x h1;obtain⟨g',hat⟩:=g.name (N:= .str) (v:= .string x) ⟨x,rfl,h1⟩;have hln:evI (ν ++ [.string x]) ⟨.ln s.ty.length,0⟩=some (x.size:Int):=by simp only[evI,evB,hat,Int.add_zero]
   exact⟨_,Ext.name _ _ _,(g'.fact ⟨0,_,evI_ieC 0,hln,by omega⟩).fact ⟨_,16000000,hln,evI_ieC _,by omega⟩,.sn hat h1⟩
 | sl q =>
   obtain⟨r,hr,hd⟩:=hd;have hsh:∃ a l c,v= .slice a l c∧l≤C.lim:=by
    cases hd with
    | nil=>exact⟨none,0,0,rfl,Nat.zero_le _⟩
    | sl f hb hq hp ho hs hl hc=>exact⟨_,_,_,rfl,by omega⟩
   obtain⟨a,l,c,rfl,hl⟩:=hsh;obtain⟨g',hat⟩:=g.name (N:= .sl q rk) (v:= .slice a l c) ⟨r,hr,hd⟩;have hln:evI (ν ++ [.slice a l c]) ⟨.ln s.ty.length,0⟩=some (l:Int):=by simp only[evI,evB,hat,Int.add_zero]
   refine⟨_,Ext.name _ _ _,(g'.fact ⟨0,l,evI_ieC 0,hln,by omega⟩).fact ⟨l,C.lim,hln,evI_ieC _,by omega⟩,.ds hat⟩
theorem freshL_ok(hlim:C.lim≤16000000){rk:RK}:∀ {cts:List CT}{vs:List Value}{s:S}{ν:List Value},Ga C R F h0 n0 s ν β t h n→vs.length=cts.length→(∀ k ct v,nth cts k=some ct→nth vs k=some v→DR C R h rk ct v) →
 ∃ ν',Ext ν β ν' β∧Ga C R F h0 n0 (freshL C s rk cts).1 ν' β t h n∧VL ν' β (freshL C s rk cts).2 vs
 | [],[],s,ν,g,_,_=>⟨ν,.rfl',g,.nil⟩
 | [],_ :: _,s,ν,g,hl,_=>by simp at hl
 | _ :: _,[],s,ν,g,hl,_=>by simp at hl
 | c :: cts,v :: vs,s,ν,g,hl,hd=>by
   obtain⟨ν1,e1,g1,v1⟩:=freshC_ok g hlim (hd 0 c v rfl rfl);obtain⟨ν2,e2,g2,v2⟩:=freshL_ok hlim (cts:=cts) (vs:=vs) g1 (by simpa using hl) fun k ct w h1 h2=>hd (k+1) ct w h1 h2
   exact⟨ν2,e1.trans e2,g2,.cons (v1.ext e2) v2⟩
theorem nth_seg{α:Type}{l r:List α}{o m i:Nat}{x:α}(hs:seg l o m=some r)(hx:nth r i=some x):i<m∧nth l (o+i)=some x:=by obtain⟨h1,h2⟩:=seg_some hs;rw[nth_eq] at hx;have hi:=(gsI hx).1;rw[h1] at hi;refine⟨hi,?_⟩;rw[nth_eq,← (h2 i hi).1,hx]
theorem seg_ex{α:Type}(l:List α)(o m:Nat)(hl:o+m≤l.length):∃ r,seg l o m=some r:=by
 unfold seg;rw[dropL_eq];have:m≤(l.drop o).length:=by rw[List.length_drop];omega
 revert this;generalize l.drop o=k;intro hk
 induction m generalizing k with
 | zero=>exact⟨[],rfl⟩
 | succ m ih =>
   cases k with
   | nil=>simp at hk
   | cons a k =>
     obtain⟨r,hr⟩:=ih (by omega) k (by simpa using hk);exact⟨a :: r,by simp only[takeL,hr]⟩
theorem ldC_ok(g:Ga C R F h0 n0 s ν β t h n)(hlim:C.lim≤16000000){i:TyI}{cts:List CT}{rk:RK}{off base x L:Nat}{y:SV}{s':S}(hy:ldC C s i cts rk off=some (y,s')){cs:List Value}(hx:x<L)(hlen:base+L * cts.length≤cs.length)
 (hc:∀ (i:Nat) (v:Value) (ct:CT),i<L * cts.length→nth cs (base+i)=some v→nth cts (i % cts.length)=some ct→DR C R h rk ct v) :
 ∃ v ν',ldA i cs (base+x * cts.length+off)=some v∧Ext ν β ν' β∧Ga C R F h0 n0 s' ν' β t h n∧V ν' β y v:=by
 have hmul:x * cts.length+cts.length≤L * cts.length:=by have:(x+1) * cts.length≤L * cts.length:=Nat.mul_le_mul_right _ hx;rw[Nat.succ_mul] at this;exact this
 have hmod:∀ k,k<cts.length→(x * cts.length+k) % cts.length=k:=by intro k hk;rw[Nat.add_comm,Nat.add_mul_mod_self_right,Nat.mod_eq_of_lt hk]
 have key:∀ k ct,nth cts k=some ct→k<cts.length∧∃ v,nth cs (base+x * cts.length+k)=some v∧DR C R h rk ct v:=by
  intro k ct hk;have hlt:k<cts.length:=by rw[nth_eq] at hk;exact(gsI hk).1
  have hb:base+x * cts.length+k<cs.length:=by omega
  refine⟨hlt,cs[base+x * cts.length+k],by rw[nth_eq,ggE hb],?_⟩;refine hc (x * cts.length+k) _ ct (by omega) ?_ (by rw[hmod k hlt];exact hk);rw[nth_eq,← Nat.add_assoc,ggE hb]
 unfold ldC at hy;rw[biE] at hy;unfold ldA;rw[biE];split at hy
 ·rename_i hag;rw[if_pos hag];split at hy
  ·rename_i q hq;simp only[Option.some.injEq,Prod.mk.injEq] at hy;obtain⟨rfl,rfl⟩:=hy;obtain⟨hq1,hq2⟩:=seg_some hq;have hlast:off+i.size≤cts.length∨i.size=0:=by
    by_cases hz:i.size=0
    ·exact .inr hz
    ·have:=(hq2 (i.size-1) (by omega)).2;exact .inl (by omega)
   obtain⟨w,hw⟩:∃ w,seg cs (base+x * cts.length+off) i.size=some w:=by
    rcases hlast with hl|hl
    ·exact seg_ex _ _ _ (by omega)
    ·rw[hl];exact⟨[],rfl⟩
   rw[hw];obtain⟨ν',e,g',vl⟩:=freshL_ok hlim (cts:=q) (vs:=w) g (by rw[hq1,(seg_some hw).1]) fun k ct v hk hv=>by obtain⟨h1,h2⟩:=nth_seg hq hk;obtain⟨h3,h4⟩:=nth_seg hw hv;obtain⟨_,v',h5,h6⟩:=key _ _ h2;rw[←Nat.add_assoc] at h5;rw[h4] at h5;cases h5;exact h6
   exact⟨_,ν',rfl,e,g',.agg vl⟩
  ·cases hy
 ·rename_i hag;rw[if_neg hag];split at hy
  ·rename_i c hc';simp only[Option.some.injEq,Prod.mk.injEq] at hy;obtain⟨rfl,rfl⟩:=hy;obtain⟨_,v,h1,h2⟩:=key _ _ hc';obtain⟨ν',e,g',vl⟩:=freshC_ok g hlim h2;exact⟨v,ν',h1,e,g',vl⟩
  ·cases hy
theorem evI_inj{ν:List Value}{e:IE}{x y:Int}(h:evI ν e=some x)(h':evI ν e=some y):x=y:=by rw[h] at h';cases h';rfl
theorem cellsG_ok(g:Ga C R F h0 n0 s ν β t h n){j:Nat}{l:List SV}(hl:cellsG s j=some l):∃ b cs,β[j]? =some (some b)∧h.get b=some (.cells cs)∧VL ν β l cs:=by
 unfold cellsG at hl;split at hl
 ·rename_i l' hj;cases hl;obtain⟨o,h1,h2⟩:=g.hp j _ hj;cases o with
  | none=>exact h2.elim
  | some b=>obtain⟨cs,h3,h4,_⟩:=h2;exact⟨b,cs,h1,h3,h4⟩
 ·cases hl
 ·obtain⟨b,cs,h1,h2,h3,h4⟩:=g.rk j l hl;exact⟨b,cs,h1,by rw[(g.pr b h2).2.1];exact h3,h4⟩
theorem vecG_ok(g:Ga C R F h0 n0 s ν β t h n){j:Nat}{x:Nat×RK×IE}(hl:vecG s j=some x):∃ o,β[j]? =some o∧ABok C R ν β h (.vec x.1 x.2.1 x.2.2) o:=by
 unfold vecG at hl;split at hl
 ·rename_i q r low hj;cases hl;exact g.hp j _ hj
 ·cases hl
 ·obtain⟨o,h1,h2,h3⟩:=g.rvk j x hl;exact⟨o,h1,h3.keep .rfl' g.ro fun b hb=>(g.pr b (h2 b hb)).2.1⟩
theorem V.dp_inv{j:Nat}{e:IE}{sz off:Nat}{v:Value}(hv:V ν β (.dp j e sz off) v):∃ b o l c x:Nat,v= .pointer (some ⟨b,o+x * sz+off,none⟩)∧ν[j]? =some (.slice (some ⟨b,o,none⟩) l c)∧evI ν e=some (x:Int)∧x<l:=by
 cases hv with
 | dp h h1 h2=>exact⟨_,_,_,_,_,rfl,h,h1,h2⟩
theorem V.pv_inv{i:Nat}{e:IE}{sz off:Nat}{v:Value}(hv:V ν β (.pv i e sz off) v):∃ b x:Nat,v= .pointer (some ⟨b,x * sz+off,none⟩)∧β[i]? =some (some b)∧evI ν e=some (x:Int):=by
 cases hv with
 | pv h h1=>exact⟨_,_,rfl,h,h1⟩
theorem ldS_ok(g:Ga C R F h0 n0 s ν β t h n)(hlim:C.lim≤16000000){ty:TypeId}{x y:SV}{s':S}(hy:ldS C s ty x=some (y,s')){p:Value}(hp:V ν β x p):∃ v ν',loadA C.E h ty p=some v∧Ext ν β ν' β∧Ga C R F h0 n0 s' ν' β t h n∧V ν' β y v:=by
 unfold ldS at hy;split at hy
 ·cases hy
 ·rename_i i hi;cases x with
  | p j off =>
    cases hp;rename_i b hb;simp only at hy;split at hy
    ·rename_i l hl;obtain⟨b',cs,h1,h3,h4⟩:=cellsG_ok g hl;rw[hb] at h1;cases h1;unfold loadA;simp only[hi,cellsOf,h3];unfold ldA;rw[biE] at hy ⊢;split at hy
     ·rename_i hag;rw[if_pos hag];split at hy
      ·rename_i r hr;cases hy;obtain⟨w,h6,h7⟩:=h4.seg hr;rw[h6];exact⟨_,ν,rfl,.rfl',g,.agg h7⟩
      ·cases hy
     ·rename_i hag;rw[if_neg hag];split at hy
      ·rename_i r hr;cases hy;obtain⟨w,h6,h7⟩:=h4.at hr;exact⟨w,ν,h6,.rfl',g,h7⟩
      ·cases hy
    ·cases hy
  | dp j e sz off =>
    obtain⟨b,o,l,c,x,rfl,hj,he,hx⟩:=hp.dp_inv;simp only at hy;split at hy
    ·rename_i q rk hq;split at hy
     ·rename_i cts hcts;rw[biE] at hy;split at hy
      ·rename_i hsz;rw[beqT] at hsz;subst hsz;obtain⟨v,h1,r,h2,h3⟩:=g.nt j _ hq;rw[hj] at h1;cases h1;cases h3 with
       | sl f hb hq' hp' ho hs hl hc =>
         rw[hcts] at hq';cases hq';obtain⟨v,ν',h4,h5,h6,h7⟩:=ldC_ok g hlim hy hx ho fun i v ct k1 k2 k3=>DR.of (rkOK_kid (part_lt hs k1) h2) (hc i v ct k1 k2 k3)
         refine⟨v,ν',?_,h5,h6,h7⟩;unfold loadA;simp only[hi,cellsOf,hb];exact h4
      ·cases hy
     ·cases hy
    ·cases hy
  | pv j e sz off =>
    obtain⟨b,x,rfl,hb,he⟩:=hp.pv_inv;simp only at hy;split at hy
    ·rename_i q rk low hq;split at hy
     ·rename_i cts hcts;rw[biE] at hy;split at hy
      ·rename_i hsz;rw[baT,beqT] at hsz;obtain⟨rfl,hle⟩:=hsz;obtain⟨o,h1,h2⟩:=vecG_ok g hq;rw[hb] at h1;cases h1;obtain⟨cs,cts',L,h3,h4,h5,h6,h7,h9⟩:=h2;rw[hcts] at h4;cases h4;have:=g.ie hle (evI_up 1 he) h6;obtain⟨v,ν',h10,h11,h12,h13⟩:=ldC_ok g hlim hy (x:=x) (base:=0) (L:=L) (cs:=cs) (by omega) (by omega) fun i v ct h1 h2 h3=>h9 i v ct (by simpa using h2) h3
       refine⟨v,ν',?_,h11,h12,h13⟩;unfold loadA;simp only[hi,cellsOf,h3];simpa using h10
      ·cases hy
     ·cases hy
    ·cases hy
  | _=>simp at hy
end
section
variable {C:Cfg}{R:Nat}{F:Nat→Prop}{h0:T Blk}{n0:Nat}{s:S}{ν:List Value}{β:List (Option Nat)}{t:T Value}{h:T Blk}{n:Nat}
theorem cellOK_V{x:SV}{v:Value}(hx:cellOK x=true)(hv:V ν β x v):isCell v=true∧cellsL v=[v]:=by
 have:isCell v=true:=by cases hv<;>first|rfl|exact hx|(simp[cellOK] at hx)
 exact⟨this,cellsL_cell this⟩
theorem VL_cells:∀ {l:List SV}{vs:List Value},l.all cellOK=true→VL ν β l vs→allCells vs=true
 | _,_,_,.nil=>rfl
 | x :: l,v :: vs,h,.cons hx hl=>by simp only[List.all_cons,baT] at h;simp only[allCells,(cellOK_V h.1 hx).1,_root_.cond_true];exact VL_cells h.2 hl
theorem cellsS_ok{x:SV}{m:List SV}{v:Value}(hm:cellsS x=some m)(hv:V ν β x v):VL ν β m (cellsL v)∧allCells (cellsL v)=true∧m.all cellOK=true:=by
 unfold cellsS at hm;split at hm
 ·rename_i l;rw[biE] at hm;split at hm
  ·rename_i ha;cases hm;cases hv with
   | agg hl=>exact⟨hl,VL_cells ha hl,ha⟩
  ·cases hm
 ·rw[biE] at hm;split at hm
  ·rename_i ha;cases hm;obtain⟨h1,h2⟩:=cellOK_V ha hv;rw[h2];refine⟨.cons hv .nil,by simp[allCells,h1],by simp[ha]⟩
  ·cases hm
theorem isBool_ok{x:SV}(hx:isBool x=true){v:Value}(hv:V ν β x v):∃ b,v= .bool b:=by cases hv<;>first|exact⟨_,rfl⟩|(simp[isBool] at hx)
theorem isStr_ok{x:SV}(hx:isStr x=true){v:Value}(hv:V ν β x v):∃ z,v= .string z∧z.size≤16000000:=by
 cases hv<;>first|(simp[isStr] at hx;done)|skip
 ·rename_i h1;exact⟨_,rfl,h1⟩
 ·unfold isStr at hx;split at hx
  ·rename_i e;cases e
  ·rename_i z e;cases e;rw[bleT] at hx;exact⟨z,rfl,hx⟩
  ·cases hx
theorem rkOK_le{r r':RK}(h:rkLe r r'=true){k:Nat}(hk:rkOK R r k):rkOK R r' k:=by cases r<;>cases r'<;>first|exact trivial|exact hk|exact Nat.le_of_lt hk|(simp[rkLe] at h)
theorem kindB_eq{j k:IntKind}(h:kindEq j k=true):j=k:=by simpa [kindEq] using h
theorem svCT_ok(g:Ga C R F h0 n0 s ν β t h n){rk:RK}{x:SV}{ct:CT}(hx:svCT s rk x ct=true){v:Value}(hv:V ν β x v):DR C R h rk ct v:=by
 cases ct with
 | int k =>
   simp only[svCT] at hx;split at hx
   ·rename_i j e;have:=kindB_eq hx;subst this;cases hv with
    | i h1 h2 h3=>exact D.int h2 h3
   ·cases hx
 | bool =>
   obtain⟨b,rfl⟩:=isBool_ok hx hv;exact D.bool b
 | str =>
   obtain⟨z,rfl,hz⟩:=isStr_ok hx hv;exact D.str hz
 | sl q =>
   simp only[svCT] at hx;split at hx
   ·rename_i j;split at hx
    ·rename_i p r hp;rw[baT,beqT] at hx;obtain⟨rfl,hr⟩:=hx;cases hv with
     | ds hj =>
       obtain⟨w,h1,k,h2,h3⟩:=g.nt j _ hp;rw[hj] at h1;cases h1;exact⟨k,rkOK_le hr h2,h3⟩
    ·cases hx
   ·cases hv;cases rk with
    | top=>exact⟨0,trivial,.nil⟩
    | cur=>cases hx
    | low=>cases hx
   ·cases hx
theorem svCTs_ok(g:Ga C R F h0 n0 s ν β t h n){rk:RK}:∀ {m:List SV}{cts:List CT}{vs:List Value},svCTs s rk m cts=true→VL ν β m vs→m.length=cts.length∧∀ k ct v,nth cts k=some ct→nth vs k=some v→DR C R h rk ct v
 | [],[],_,_,.nil=>⟨rfl,fun k ct v h1=>by simp[nth] at h1⟩
 | [],_ :: _,_,hx,_=>by simp[svCTs] at hx
 | _ :: _,[],_,hx,_=>by simp[svCTs] at hx
 | x :: m,c :: cts,v :: vs,hx,.cons hv hl=>by
   simp only[svCTs,baT] at hx;obtain⟨h1,h3⟩:=svCTs_ok g hx.2 hl;refine⟨by simp[h1],fun k ct w hk hw=>?_⟩;cases k with
   | zero=>simp[nth] at hk hw;subst hk;subst hw;exact svCT_ok g hx.1 hv
   | succ k=>exact h3 k ct w hk hw
theorem overAt_nth{α:Type}{m l r:List α}{o:Nat}(h:overAt m l o=some r):r.length=l.length∧∀ i,nth r i=if o≤i∧i<o+m.length then nth m (i-o) else nth l i:=by obtain⟨h1,_,h3⟩:=overAt_some m l o r h;refine⟨h1,fun i=>?_⟩;have:=h3 i;rw[nth_eq,nth_eq,nth_eq,this]
theorem allCells_iff:∀ {l:List Value},allCells l=true↔∀ x∈l,isCell x=true
 | []=>by simp[allCells]
 | x :: l=>by
   simp only[allCells,biE,List.mem_cons,forall_eq_or_imp];by_cases hx:isCell x=true
   ·rw[if_pos hx,allCells_iff];simp[hx]
   ·rw[if_neg hx];simp[hx]
theorem allCells_over{m l r:List Value}{o:Nat}(hm:allCells m=true)(hl:allCells l=true)(h:overAt m l o=some r):allCells r=true:=by
 rw[allCells_iff] at hm hl ⊢;intro x hx;obtain⟨i,hi⟩:=List.getElem?_of_mem hx;obtain⟨h1,h2,h3⟩:=overAt_some m l o r h;rw[h3 i] at hi;split at hi
 ·exact hm x (List.mem_of_getElem? hi)
 ·exact hl x (List.mem_of_getElem? hi)
theorem over_ex{α:Type}:∀ (m l:List α),m.length≤l.length→∃ r,over l m=some r
 | [],l,_=>⟨l,by cases l<;>rfl⟩
 | a :: m,[],h=>by simp at h
 | a :: m,b :: l,h=>by obtain⟨r,hr⟩:=over_ex m l (by simpa using h);exact⟨a :: r,by simp only[over,hr]⟩
theorem overAt_ex{α:Type}(m:List α):∀ (l:List α)(o:Nat),o+m.length≤l.length→∃ r,overAt m l o=some r
 | [],o,h=>by
   simp only[List.length_nil] at h;have h1:o=0:=by omega
   have h2:m=[]:=List.length_eq_zero_iff.1 (by omega);subst h1;subst h2;exact⟨[],rfl⟩
 | a :: l,o,h=>by
   simp only[overAt,biE,beqT];by_cases ho:o=0
   ·rw[if_pos ho];exact over_ex m (a :: l) (by omega)
   ·rw[if_neg ho];obtain⟨r,hr⟩:=overAt_ex m l (o-1) (by simp only[List.length_cons] at h;omega);exact⟨a :: r,by rw[hr]⟩
theorem stS_ok(g:Ga C R F h0 n0 s ν β t h n){ty:TypeId}{a x:SV}{s':S}(hy:stS C s ty a x=some s'){p v:Value}(hp:V ν β a p)(hv:V ν β x v):∃ h',storeA C.E h ty p v=some h'∧Ga C R F h0 n0 s' ν β t h' n:=by
 unfold stS at hy;split at hy
 ·rename_i i m hi hm;obtain⟨c1,c2,c3⟩:=cellsS_ok hm hv;rw[biE] at hy;split at hy
  ·rename_i hlen;rw[beqT] at hlen;rw[c1.len] at hlen;have hstore:∀ {b o},storeA C.E h ty (.pointer (some ⟨b,o,none⟩)) v=putA h b o (cellsL v):=by
    intro b o;unfold storeA;simp only[hi];rw[biE,if_pos (by rw[beqT];exact hlen)]
   cases a with
   | p j off =>
     cases hp;rename_i b hb;simp only at hy;split at hy
     ·rename_i l hl;split at hy
      ·rename_i r hr;cases hy;obtain⟨o,h1,h2⟩:=g.hp j _ hl;rw[hb] at h1;cases h1;obtain⟨cs,h3,h4,h5⟩:=h2;obtain⟨z,h6,h7⟩:=VL.overAt c1 h4 hr;refine⟨h.upd (some (.cells z)) b,?_,g.upd hl hb ⟨z,T.gsE _ _ _,h7,allCells_over c2 h5 h6⟩⟩
       ·rw[hstore];unfold putA;simp only[h3,c2,_root_.cond_true,h6]
      ·cases hy
     ·cases hy
   | pv j e sz off =>
     obtain⟨b,x,rfl,hb,he⟩:=hp.pv_inv;simp only at hy;split at hy
     ·rename_i q rk low hq;split at hy
      ·rename_i cts hcts;split at hy
       ·rename_i r hr;rw[biE] at hy;split at hy
        ·rename_i hc;cases hy;simp only[baT,beqT] at hc;obtain⟨⟨⟨rfl,hle⟩,hcv⟩,hm0⟩:=hc;rw[bltT] at hm0;obtain⟨o,h1,h2⟩:=g.hp j _ hq;rw[hb] at h1;cases h1;obtain⟨cs,cts',L,h3,h4,h5,h6,h7,h9⟩:=h2;rw[hcts] at h4;cases h4;have hxL:=g.ie hle (evI_up 1 he) h6;obtain⟨hml,h11⟩:=svCTs_ok g hcv c1;obtain⟨hr1,hr2⟩:=seg_some hr;have hmul:x * cts.length+cts.length≤L * cts.length:=by
          have:(x+1) * cts.length≤L * cts.length:=Nat.mul_le_mul_right _ (by omega);rw[Nat.succ_mul] at this;exact this
         have hoff:off+m.length≤cts.length∨m.length=0:=by
          by_cases hz:m.length=0
          ·exact .inr hz
          ·have:=(hr2 (m.length-1) (by omega)).2;exact .inl (by omega)
         have hmv:m.length=(cellsL v).length:=c1.len;have hroom:x * cts.length+off+(cellsL v).length≤cs.length:=by rcases hoff with ho|ho<;>omega
         obtain⟨z,h12⟩:=overAt_ex (cellsL v) cs (x * cts.length+off) hroom;obtain⟨hz1,hz2⟩:=overAt_nth h12;refine⟨h.upd (some (.cells z)) b,?_,?_⟩
         ·rw[hstore];unfold putA;simp only[h3,c2,_root_.cond_true,h12]
         ·refine g.upd hq hb ⟨z,cts,L,T.gsE _ _ _,hcts,h5,h6,by rw[hz1,h7],fun i w ct hw hct=>?_⟩;rw[hz2 i] at hw;have hro:∀ c cs,h.get c=some (.ro cs)→(h.upd (some (.cells z)) b).get c=some (.ro cs):=fun c cs hc=>by
           rw[T.gnE]
           ·exact hc
           ·intro e;subst e;rw[h3] at hc;cases hc
          split at hw
          ·rename_i hi2;have hin:i % cts.length=off+(i-(x * cts.length+off)):=by
            have:i=x * cts.length+(i-x * cts.length):=by omega
            rw[this,Nat.add_comm (x * cts.length),Nat.add_mul_mod_self_right,Nat.mod_eq_of_lt (by omega)];omega
           rw[hin] at hct;have hct':nth r (i-(x * cts.length+off))=some ct:=by rw[nth_eq,(hr2 _ (by omega)).1,← nth_eq];exact hct
           exact(h11 _ ct w hct' hw).mono hro
          ·exact(h9 i w ct hw hct).mono hro
        ·cases hy
       ·cases hy
      ·cases hy
     ·cases hy
   | _=>simp at hy
  ·cases hy
 ·cases hy
end
theorem wrap_in{k:IntKind}{x:Int}(h1:k.min≤x)(h2:x≤k.max):k.wrap x=x:=by
 cases k<;>simp[IntKind.min,IntKind.max,IntKind.bits,IntKind.signed] at h1 h2<;>first
  | exact IntWalk.i8_in x (by omega)|exact IntWalk.i16_in x (by omega)|exact IntWalk.i32_in x (by omega)|exact IntWalk.i64_in x (by omega)
  | exact IntWalk.u8_in x (by omega)|exact IntWalk.u16_in x (by omega)|exact IntWalk.u32_in x (by omega)|exact IntWalk.u64_in x (by omega)
theorem wrap_rng(k:IntKind)(x:Int):k.min≤k.wrap x∧k.wrap x≤k.max:=by cases k<;>simp only[IntKind.min,IntKind.max,IntKind.bits,IntKind.signed,IntKind.wrap]<;>simp<;>(try split)<;>omega
section
variable {C:Cfg}{R:Nat}{F:Nat→Prop}{h0:T Blk}{n0:Nat}{s:S}{ν:List Value}{β:List (Option Nat)}{t:T Value}{h:T Blk}{n:Nat}
theorem zeroS_ok{i:TyI}{z:List SV}(hz:zeroS i=some z):i.zok=true∧allCells i.zero=true∧∀ ν β,VL ν β z i.zero:=by
 unfold zeroS at hz;rw[biE] at hz;split at hz
 ·rename_i hc;rw[baT] at hc;refine⟨hc.1,hc.2,fun ν β=>?_⟩;obtain⟨vs,h1,h2⟩:=mapO_VL (ν:=ν) (β:=β) (f:=fun a=>some a) (fun a x hx=>⟨a,rfl,svOf_ok 4 a x hx⟩) hz;rw[mapO_self] at h1;cases h1;exact h2
 ·cases hz
theorem fillS_ok{place:Nat→Option (Nat×Nat)}:∀ {ps:List (Nat×SV)}{pv:List (Nat×Value)}{z cs:List SV}{zs:List Value},fillS place ps z=some cs→PL ν β ps pv→VL ν β z zs→∃ r,fillA place pv zs=some r∧VL ν β cs r
 | [],_,z,cs,zs,hx,.nil,hz=>by simp only[fillS,Option.some.injEq] at hx;subst hx;exact⟨zs,rfl,hz⟩
 | (i,x) :: ps,_,z,cs,zs,hx,.cons (v:=v) hv hl,hz=>by
   simp only[fillS] at hx;split at hx
   ·rename_i off size m hp hm;rw[biE] at hx;split at hx
    ·rename_i hlen;rw[beqT] at hlen;split at hx
     ·rename_i cs' hov;obtain⟨c1,c2,c3⟩:=cellsS_ok hm hv;obtain⟨z',h1,h2⟩:=VL.overAt c1 hz hov;obtain⟨r,h3,h4⟩:=fillS_ok hx hl h2;refine⟨r,?_,h4⟩;simp only[fillA,hp];rw[biE,if_pos (by rw[beqT,← c1.len];exact hlen),h1];exact h3
     ·cases hx
    ·cases hx
   ·cases hx
theorem buildS_ok{ty:TypeId}{ps:List (Nat×SV)}{pv:List (Nat×Value)}{x:SV}(hx:buildS C ty ps=some x)(hp:PL ν β ps pv):∃ v,buildA C.E ty pv=some v∧V ν β x v:=by
 unfold buildS at hx;split at hx
 ·rename_i i hi;split at hx
  ·rename_i z hz;obtain⟨z1,z2,z3⟩:=zeroS_ok hz;unfold buildA;simp only[hi,z1,_root_.cond_true];split at hx
   ·rename_i fs hd;split at hx
    ·rename_i cs hcs;cases hx;obtain⟨r,h1,h2⟩:=fillS_ok hcs hp (z3 ν β);simp only[hd,h1];exact⟨_,rfl,.agg h2⟩
    ·cases hx
   ·rename_i len e hd;split at hx
    ·rename_i j hj;split at hx
     ·rename_i cs hcs;cases hx;obtain⟨r,h1,h2⟩:=fillS_ok hcs hp (z3 ν β);simp only[hd,hj,h1];exact⟨_,rfl,.agg h2⟩
     ·cases hx
    ·cases hx
   ·cases hx
  ·cases hx
 ·cases hx
theorem VL.rep{l:List SV}{vs:List Value}(hl:VL ν β l vs):∀ n,VL ν β (repL l n) (repL vs n)
 | 0=> .nil
 | n+1=>hl.append (VL.rep hl n)
theorem buildSliceS_ok{ty:TypeId}{len sz:Nat}{ps:List (Nat×SV)}{pv:List (Nat×Value)}{x:List SV}(hx:buildSliceS C ty len ps=some (x,sz))(hp:PL ν β ps pv):∃ cs,buildSliceA C.E ty len pv=some cs∧VL ν β x cs∧0<sz∧len≤100000:=by
 unfold buildSliceS at hx;split at hx
 ·rename_i i hi;split at hx
  ·rename_i e hd;split at hx
   ·rename_i j hj;split at hx
    ·rename_i z hz;obtain⟨z1,z2,z3⟩:=zeroS_ok hz;rw[biE] at hx;split at hx
     ·rename_i hc;split at hx
      ·rename_i cs hcs;simp only[Option.some.injEq,Prod.mk.injEq] at hx;obtain⟨rfl,rfl⟩:=hx;simp only[baT,bleT,beqT,bltT] at hc;obtain⟨⟨hc1,hc2⟩,hc3⟩:=hc;obtain⟨r,h1,h2⟩:=fillS_ok hcs hp ((z3 ν β).rep len);refine⟨r,?_,h2,hc3,?_⟩
       ·unfold buildSliceA;simp only[hi,hd,hj,z1,Bool.true_and];rw[biE,if_pos]
        ·exact h1
        ·simp only[baT,bleT,beqT,bltT];exact⟨⟨hc1,by rw[←(z3 ν β).len,hc2]⟩,hc3⟩
       ·exact Nat.le_trans (Nat.le_mul_of_pos_right len hc3) hc1
      ·cases hx
     ·cases hx
    ·cases hx
   ·cases hx
  ·cases hx
 ·cases hx
theorem ieN_ok{e:IE}{k:Nat}(hk:ieN e=some k):evI ν e=some (k:Int):=by
 unfold ieN at hk;split at hk
 ·rename_i hb;unfold natI at hk;split at hk
  ·rename_i m hm;cases hk;unfold evI;rw[hb];simp only[evB,hm,Option.some.injEq];exact Int.zero_add _
  ·cases hk
 ·cases hk
theorem idxA_slice{E:Env}{ty et:TypeId}{ti j:TyI}{b o l c x:Nat}{ik:IntKind}(hti:E.ty.get ty=some ti)(hd:ti.d= .slice et)(hj:E.ty.get et=some j)(hx:x<l):idxA E ty (.slice (some ⟨b,o,none⟩) l c) (.int ik (x:Int))=some (.pointer (some ⟨b,o+x * j.size,none⟩)):=by
 unfold idxA;simp only[hti,hd,hj];have h1:natV (.int ik (x:Int)) (l-1)=some x:=by show(bif Nat.ble x (l-1) then some x else none)=some x;rw[biE,if_pos (by rw[bleT];omega)]
 rw[h1];show(bif Nat.blt x l then _ else none)=_;rw[biE,if_pos (by rw[bltT];exact hx)]
theorem idxA_array{E:Env}{ty et:TypeId}{ti j:TyI}{b o l x:Nat}{ik:IntKind}(hti:E.ty.get ty=some ti)(hd:ti.d= .array l et)(hj:E.ty.get et=some j)(hx:x<l):idxA E ty (.pointer (some ⟨b,o,none⟩)) (.int ik (x:Int))=some (.pointer (some ⟨b,o+x * j.size,none⟩)):=by
 unfold idxA;simp only[hti,hd,hj];have h1:natV (.int ik (x:Int)) (l-1)=some x:=by show(bif Nat.ble x (l-1) then some x else none)=some x;rw[biE,if_pos (by rw[bleT];omega)]
 rw[h1];show(bif Nat.blt x l then _ else none)=_;rw[biE,if_pos (by rw[bltT];exact hx)]
theorem idxS_ok(g:Ga C R F h0 n0 s ν β t h n){ty:TypeId}{x y:SV}{e:IE}(hy:idxS C s ty x e=some y){v:Value}(hv:V ν β x v){k:IntKind}{z:Int}(he:evI ν e=some z):∃ w,idxA C.E ty v (.int k z)=some w∧V ν β y w:=by
 unfold idxS at hy;split at hy
 ·rename_i ti hti;split at hy
  ·rename_i et hd;split at hy
   ·rename_i j hj;split at hy
    ·rename_i a;split at hy
     ·rename_i q rk hq;rw[biE] at hy;split at hy
      ·rename_i hc;cases hy;rw[baT] at hc;cases hv with
       | ds ha =>
         rename_i b l c;have h1:=g.ie hc.1 (evI_ieC 0) he;have hln:evI ν ⟨.ln a,0⟩=some (l:Int):=by simp only[evI,evB,ha,Int.add_zero]
         have h2:=g.ie hc.2 (evI_up 1 he) hln;obtain⟨x,rfl⟩:=Int.eq_ofNat_of_zero_le h1;obtain⟨w,h3,r,h4,h5⟩:=g.nt a _ hq;rw[ha] at h3;cases h3;cases h5 with
         | nil=>exact absurd h2 (by simp)
         | sl f hb hq' hp ho hs hl hc' =>
           rename_i b o cs cts;have hlt:x<l:=by omega
           exact⟨_,idxA_slice hti hd hj hlt,V.dp (off:=0) ha he hlt⟩
      ·cases hy
     ·cases hy
    ·rename_i a len low sz;rw[biE] at hy;split at hy
     ·rename_i hc;simp only[baT,beqT] at hc;obtain⟨⟨rfl,hc1⟩,hc2⟩:=hc;have h1:=g.ie hc1 (evI_ieC 0) he;obtain⟨x,rfl⟩:=Int.eq_ofNat_of_zero_le h1;cases hv with
      | osn hb h2 h3 =>
        have:=g.ie hc2 (evI_up 1 he) h2;omega
      | os hb h2 h3 h4 h5 h6 h7 =>
        rename_i b L W c;have h8:=g.ie hc2 (evI_up 1 he) h2;have hlt:x<L:=by omega
        refine⟨_,idxA_slice hti hd hj hlt,?_⟩;rw[Nat.zero_add];split at hy
        ·rename_i l k hk1 hk2;cases hy;have:=evI_inj he (ieN_ok hk2);have:x=k:=by omega
         subst this;exact V.p hb
        ·cases hy;exact V.pv (off:=0) hb he
        ·cases hy
     ·cases hy
    ·cases hy
   ·cases hy
  ·rename_i len et hd;split at hy
   ·rename_i j a off k' hj hk';rw[biE] at hy;split at hy
    ·rename_i hlt;cases hy;rw[bltT] at hlt;have:=evI_inj he (ieN_ok hk');subst this;cases hv with
     | p hb=>exact⟨_,idxA_array hti hd hj hlt,V.p hb⟩
    ·cases hy
   ·cases hy
  ·cases hy
 ·cases hy
theorem casesI_ok(g:Ga C R F h0 n0 s ν β t h n){e:IE}{z:Nat}(he:evI ν e=some (z:Int)):∀ (m lo:Nat),lo≤z→z<lo+m→∃ s',(z,s')∈casesI s e m lo∧Ga C R F h0 n0 s' ν β t h n
 | 0,lo,h1,h2=>by omega
 | m+1,lo,h1,h2=>by
   by_cases hz:z=lo
   ·subst hz;exact⟨_,mcS ..,(g.fact ⟨_,_,he,evI_ieC _,Int.le_refl _⟩).fact ⟨_,_,evI_ieC _,he,Int.le_refl _⟩⟩
   ·obtain⟨s',h3,h4⟩:=casesI_ok g he m (lo+1) (by omega) (by omega);exact⟨s',mcM _ h3,h4⟩
theorem idxAllS_ok(g:Ga C R F h0 n0 s ν β t h n){ty:TypeId}{x:SV}{e:IE}{l:List (SV×S)}(hy:idxAllS C s ty x e=some l){v:Value}(hv:V ν β x v){k:IntKind}{z:Int}(he:evI ν e=some z) :
 ∃ w,idxA C.E ty v (.int k z)=some w∧∃ p∈l,Ga C R F h0 n0 p.2 ν β t h n∧V ν β p.1 w:=by
 unfold idxAllS at hy;split at hy
 ·rename_i ti a off hti;split at hy
  ·rename_i len et hd;split at hy
   ·rename_i j lo hi hj hlo hhi;rw[biE] at hy;split at hy
    ·rename_i hc;cases hy;simp only[baT,bltT,bleT] at hc;obtain⟨⟨⟨hc1,hc2⟩,hc3⟩,hc4⟩:=hc;have h1:=g.ie hc3 (evI_ieC _) he;have h2:=g.ie hc4 he (evI_ieC _);obtain⟨x,rfl⟩:=Int.eq_ofNat_of_zero_le (by omega:0≤z);cases hv with
     | p hb =>
       have hlt:x<len:=by omega
       obtain⟨s',h3,h4⟩:=casesI_ok g he (hi+1-lo) lo (by omega) (by omega);exact⟨_,idxA_array hti hd hj hlt,_,List.mem_map.2 ⟨_,h3,rfl⟩,h4,V.p hb⟩
    ·cases hy
   ·cases hy
  ·cases hy
 ·cases hy
theorem freshI_ok(g:Ga C R F h0 n0 s ν β t h n){k:IntKind}{x:Int}(h1:k.min≤x)(h2:x≤k.max):∃ ν',Ext ν β ν' β∧Ga C R F h0 n0 (freshI C s k).2 ν' β t h n∧V ν' β (freshI C s k).1 (.int k x):=by obtain⟨g',hat⟩:=g.name (N:= .int k) (v:= .int k x) ⟨x,rfl,h1,h2⟩;refine⟨_,Ext.name _ _ _,g',.i ?_ h1 h2⟩;simp only[evI,evB,hat,Int.add_zero]
theorem freshB_ok(g:Ga C R F h0 n0 s ν β t h n)(x:Bool):∃ ν',Ext ν β ν' β∧Ga C R F h0 n0 (freshB C s).2 ν' β t h n∧V ν' β (freshB C s).1 (.bool x):=by obtain⟨g',hat⟩:=g.name (N:= .bool) (v:= .bool x) ⟨x,rfl⟩;refine⟨_,Ext.name _ _ _,g',?_⟩;have:=V.bn (ν:=ν ++ [.bool x]) (β:=β) (neg:=false) hat;simpa [freshB,freshC] using this
theorem loF_ok{j:Nat}{x:Int}(hx:evI ν ⟨.v j,0⟩=some x):∀ {l:List IE}{s:S},Ga C R F h0 n0 s ν β t h n→(∀ e∈l,∃ y,evI ν e=some y∧y≤x)→Ga C R F h0 n0 (loF j l s) ν β t h n
 | [],s,g,_=>g
 | e :: l,s,g,he=>by obtain⟨y,h1,h2⟩:=he e (mcS ..);exact loF_ok (l:=l) hx (g.fact ⟨y,x,h1,hx,h2⟩) fun e' h'=>he e' (mcM _ h')
theorem hiF_ok{j:Nat}{x:Int}(hx:evI ν ⟨.v j,0⟩=some x):∀ {l:List IE}{s:S},Ga C R F h0 n0 s ν β t h n→(∀ e∈l,∃ y,evI ν e=some y∧x≤y)→Ga C R F h0 n0 (hiF j l s) ν β t h n
 | [],s,g,_=>g
 | e :: l,s,g,he=>by obtain⟨y,h1,h2⟩:=he e (mcS ..);exact hiF_ok (l:=l) hx (g.fact ⟨x,y,hx,h1,h2⟩) fun e' h'=>he e' (mcM _ h')
theorem boundI_ok(g:Ga C R F h0 n0 s ν β t h n){k:IntKind}{x:Int}(h1:k.min≤x)(h2:x≤k.max){lo hi:List IE}(hl:∀ e∈lo,∃ y,evI ν e=some y∧y≤x)(hh:∀ e∈hi,∃ y,evI ν e=some y∧x≤y) :
 ∃ ν',Ext ν β ν' β∧Ga C R F h0 n0 (boundI C s k lo hi).2 ν' β t h n∧V ν' β (boundI C s k lo hi).1 (.int k x):=by
 obtain⟨g',hat⟩:=g.name (N:= .int k) (v:= .int k x) ⟨x,rfl,h1,h2⟩;have he:=Ext.name ν β (.int k x);have hx:evI (ν ++ [.int k x]) ⟨.v s.ty.length,0⟩=some x:=by simp only[evI,evB,hat,Int.add_zero]
 refine⟨_,he,hiF_ok hx (loF_ok hx g' fun e h'=>?_) fun e h'=>?_,.i hx h1 h2⟩
 ·obtain⟨y,h3,h4⟩:=hl e h';exact⟨y,he.nu h3,h4⟩
 ·obtain⟨y,h3,h4⟩:=hh e h';exact⟨y,he.nu h3,h4⟩
theorem inR_ok(g:Ga C R F h0 n0 s ν β t h n){k:IntKind}{e:IE}(hq:inR s k e=true){x:Int}(hx:evI ν e=some x):k.min≤x∧x≤k.max:=by unfold inR at hq;rw[baT] at hq;exact⟨g.ie hq.1 (evI_ieC _) hx,g.ie hq.2 hx (evI_ieC _)⟩
theorem evI_const{e:IE}(hb:e.b= .c){x:Int}(hx:evI ν e=some x):x=e.k:=by unfold evI at hx;rw[hb] at hx;simp only[evB,Option.some.injEq] at hx;omega
theorem addS_ok(g:Ga C R F h0 n0 s ν β t h n){k:IntKind}{a b:IE}{x y:Int}(hx:evI ν a=some x)(hy:evI ν b=some y):∃ ν',Ext ν β ν' β∧Ga C R F h0 n0 (addS C s k a b).2 ν' β t h n∧V ν' β (addS C s k a b).1 (.int k (k.wrap (x+y))):=by
 have hf:∃ ν',Ext ν β ν' β∧Ga C R F h0 n0 (freshI C s k).2 ν' β t h n∧V ν' β (freshI C s k).1 (.int k (k.wrap (x+y))):=freshI_ok g (wrap_rng k _).1 (wrap_rng k _).2;unfold addS;split
 ·rename_i hb;rw[biE];split
  ·rename_i hq;have h1:=evI_const hb hy;have h2:evI ν (a.up b.k)=some (x+y):=by rw[h1];exact evI_up _ hx
   obtain⟨h3,h4⟩:=inR_ok g hq h2;refine⟨ν,.rfl',g,?_⟩;rw[wrap_in h3 h4];exact .i h2 h3 h4
  ·exact hf
 ·rename_i hb _;rw[biE];split
  ·rename_i hq;have h1:=evI_const hb hx;have h2:evI ν (b.up a.k)=some (x+y):=by rw[h1,Int.add_comm];exact evI_up _ hy
   obtain⟨h3,h4⟩:=inR_ok g hq h2;refine⟨ν,.rfl',g,?_⟩;rw[wrap_in h3 h4];exact .i h2 h3 h4
  ·exact hf
 ·split
  ·rename_i la ua lb ub _ _ _ _;rw[biE];split
   ·rename_i hc;simp only[baT] at hc;obtain⟨⟨⟨⟨⟨c1,c2⟩,c3⟩,c4⟩,c5⟩,c6⟩:=hc;rw[inK_iff,addI_eq] at c1 c2;have k1:=g.ie c3 (evI_ieC _) hx;have k2:=g.ie c4 hx (evI_ieC _);have k3:=g.ie c5 (evI_ieC _) hy;have k4:=g.ie c6 hy (evI_ieC _);have h3:k.min≤x+y:=by omega
    have h4:x+y≤k.max:=by omega
    rw[wrap_in h3 h4];refine boundI_ok g h3 h4 (fun e he=>?_) fun e he=>?_
    ·simp only[List.mem_cons,List.not_mem_nil,or_false] at he;rcases he with rfl|rfl|rfl
     ·exact⟨_,evI_ieC _,by rw[addI_eq];omega⟩
     ·exact⟨_,evI_up _ hx,by omega⟩
     ·exact⟨_,evI_up _ hy,by omega⟩
    ·simp only[List.mem_cons,List.not_mem_nil,or_false] at he;rcases he with rfl|rfl|rfl
     ·exact⟨_,evI_ieC _,by rw[addI_eq];omega⟩
     ·exact⟨_,evI_up _ hx,by omega⟩
     ·exact⟨_,evI_up _ hy,by omega⟩
   ·exact hf
  ·exact hf
theorem subS_ok(g:Ga C R F h0 n0 s ν β t h n){k:IntKind}{a b:IE}{x y:Int}(hx:evI ν a=some x)(hy:evI ν b=some y):∃ ν',Ext ν β ν' β∧Ga C R F h0 n0 (subS C s k a b).2 ν' β t h n∧V ν' β (subS C s k a b).1 (.int k (k.wrap (x-y))):=by
 have hf:∃ ν',Ext ν β ν' β∧Ga C R F h0 n0 (freshI C s k).2 ν' β t h n∧V ν' β (freshI C s k).1 (.int k (k.wrap (x-y))):=freshI_ok g (wrap_rng k _).1 (wrap_rng k _).2;unfold subS;split
 ·rename_i hb;rw[biE];split
  ·rename_i hq;have h1:=evI_const hb hy;have h2:evI ν (a.up (subI 0 b.k))=some (x-y):=by
    have:=evI_up (subI 0 b.k) hx;rw[subI_eq] at this;rw[subI_eq,this,h1]
    congr 1
    omega
   obtain⟨h3,h4⟩:=inR_ok g hq h2;refine⟨ν,.rfl',g,?_⟩;rw[wrap_in h3 h4];exact .i h2 h3 h4
  ·exact hf
 ·rw[biE];split
  ·rename_i hq;rw[baT,inK_iff,subI_eq] at hq;obtain⟨hb,h3,h4⟩:=hq;have hb:=IB.beq_eq hb;have hxy:x-y=a.k-b.k:=by
    unfold evI at hx hy;rw[hb] at hx;cases hv:evB ν b.b with
    | none=>rw[hv] at hx;cases hx
    | some z =>
      rw[hv] at hx hy;simp only[Option.some.injEq] at hx hy;omega
   refine⟨ν,.rfl',g,?_⟩;rw[hxy,wrap_in h3 h4,subI_eq];exact .i (evI_ieC _) h3 h4
  ·rw[biE];split
   ·rename_i hq;simp only[baT] at hq;obtain⟨⟨⟨c1,c2⟩,c3⟩,c4⟩:=hq;have k1:=g.ie c1 (evI_ieC _) hy;have k2:=g.ie c2 hy hx;obtain⟨k3,k4⟩:=inR_ok g c3 hx;rw[inK_iff] at c4;have h3:k.min≤x-y:=by omega
    have h4:x-y≤k.max:=by omega
    rw[wrap_in h3 h4];refine boundI_ok g h3 h4 (fun e he=>?_) fun e he=>?_
    ·simp only[List.mem_cons,List.not_mem_nil,or_false] at he;subst he;exact⟨_,evI_ieC _,by omega⟩
    ·simp only[List.mem_cons,List.not_mem_nil,or_false] at he;subst he;exact⟨_,hx,by omega⟩
   ·exact hf
end
section
variable {C:Cfg}{R:Nat}{F:Nat→Prop}{h0:T Blk}{n0:Nat}{s:S}{ν:List Value}{β:List (Option Nat)}{t:T Value}{h:T Blk}{n:Nat}
def Pv(C:Cfg)(R:Nat)(F:Nat→Prop)(h0:T Blk)(n0:Nat)(ν:List Value)(β:List (Option Nat))(t:T Value)(h:T Blk)(n:Nat)(r:SV×S)(v:Value):Prop:=∃ ν',Ext ν β ν' β∧Ga C R F h0 n0 r.2 ν' β t h n∧V ν' β r.1 v
theorem Pv.same(g:Ga C R F h0 n0 s ν β t h n){x:SV}{v:Value}(hv:V ν β x v):Pv C R F h0 n0 ν β t h n (x,s) v:=⟨ν,.rfl',g,hv⟩
theorem flipS_ok{x y:SV}(hx:flipS x=some y){b:Bool}(hv:V ν β x (.bool b)):V ν β y (.bool (!b)):=by
 cases x with
 | b z=>cases hv;simp only[flipS,Option.some.injEq] at hx;subst hx;exact .b _
 | bn j neg =>
   simp only[flipS,Option.some.injEq] at hx;subst hx;generalize hw:Value.bool b=w at hv;cases hv with
   | bn h1 =>
     rename_i z;cases hw;have:=V.bn (β:=β) (neg:= !neg) h1;cases neg<;>cases z<;>simpa using this
 | le e e' neg =>
   simp only[flipS,Option.some.injEq] at hx;subst hx;generalize hw:Value.bool b=w at hv;cases hv with
   | le h1 h2 =>
     rename_i z z';cases hw;have:=V.le (β:=β) (neg:= !neg) h1 h2;cases neg<;>simpa using this
 | eq e e' neg =>
   simp only[flipS,Option.some.injEq] at hx;subst hx;generalize hw:Value.bool b=w at hv;cases hv with
   | eq h1 h2 =>
     rename_i z z';cases hw;have:=V.eq (β:=β) (neg:= !neg) h1 h2;cases neg<;>simpa using this
 | _=>simp[flipS] at hx
theorem negB_ok{n:Bool}{x y:SV}(hx:negB n x=some y){b:Bool}(hv:V ν β x (.bool b)):V ν β y (.bool (n != b)):=by
 unfold negB at hx;rw[biE] at hx;split at hx
 ·rename_i hn;subst hn;have:=flipS_ok hx hv;simpa using this
 ·rename_i hn;cases hx;rw[Bool.not_eq_true] at hn;subst hn;simpa using hv
theorem ctB_ok:∀ {ks:List CK}{l:List SV}{vs:List Value},ctB C s ks l=true→VL ν β l vs→fitsK ks vs=true
 | [],[],_,_,.nil=>rfl
 | [],_ :: _,_,hx,_=>by simp[ctB] at hx
 | _ :: _,[],_,hx,_=>by simp[ctB] at hx
 | k :: ks,x :: l,v :: vs,hx,.cons hv hl=>by
   simp only[ctB,baT] at hx;simp only[fitsK,baT];refine⟨?_,ctB_ok hx.2 hl⟩;have h1:=hx.1;split at h1
   ·rename_i j j' e;cases hv with
    | i h2 h3 h4 =>
      have:=kindB_eq h1;subst this;simp[fitC,kindEq,h3,h4]
   ·obtain⟨b,rfl⟩:=isBool_ok h1 hv;rfl
   ·obtain⟨z,rfl,hz⟩:=isStr_ok h1 hv;show Nat.ble z.size 16000000=true;rw[bleT];omega
   ·cases h1
theorem eqS_ok(g:Ga C R F h0 n0 s ν β t h n){ty:TypeId}{x y:SV}{r:SV×S}(hr:eqS C s ty x y=some r){v w:Value}(hv:V ν β x v)(hw:V ν β y w)(c:Bool):∃ b,eqA C.E ty c v w=some b∧Pv C R F h0 n0 ν β t h n r (.bool b):=by
 unfold eqS at hr;split at hr
 ·rename_i i hi;unfold eqA;simp only[hi];split at hr
  ·rename_i e1;cases hr;cases hv;cases hw;simp only[e1];exact⟨_,rfl,.same g (.b _)⟩
  ·rename_i e1;cases hr;cases hv;cases hw;simp only[e1];exact⟨_,rfl,.same g (.b _)⟩
  ·rename_i e1;cases hr;cases hv;cases hw;simp only[e1];exact⟨_,rfl,.same g (.b _)⟩
  ·rename_i e1;cases hr;cases hv;cases hw;simp only[e1];exact⟨_,rfl,.same g (.b _)⟩
  ·rename_i e1;cases hr;cases hw;cases hv with
   | ds ha =>
     rename_i a _ _;cases a with
     | none=>simp only[e1];exact⟨_,rfl,freshB_ok g _⟩
     | some a=>simp only[e1];exact⟨_,rfl,freshB_ok g _⟩
  ·rename_i e1;cases hr;cases hv;cases hw with
   | ds ha =>
     rename_i a _ _;cases a with
     | none=>simp only[e1];exact⟨_,rfl,freshB_ok g _⟩
     | some a=>simp only[e1];exact⟨_,rfl,freshB_ok g _⟩
  ·rename_i e1;cases hr;cases hw;cases hv with
   | os=>simp only[e1];exact⟨_,rfl,freshB_ok g _⟩
   | osn=>simp only[e1];exact⟨_,rfl,freshB_ok g _⟩
  ·rename_i e1;cases hr;cases hv;cases hw;simp only[e1];exact⟨_,rfl,.same g (.b _)⟩
  ·rename_i e1;cases hr;cases hv;cases hw;simp only[e1];exact⟨_,rfl,.same g (.b _)⟩
  ·rename_i e1;cases hr;cases hv;cases hw;simp only[e1];exact⟨_,rfl,.same g (.b _)⟩
  ·rename_i e1;cases hr;cases hv;cases hw;simp only[e1];exact⟨_,rfl,.same g (.b _)⟩
  ·rename_i e1;cases hv with
   | agg ha=>cases hw with
     | agg hb =>
       split at hr
       ·rename_i ks hks;rw[biE] at hr;split at hr
        ·rename_i hc;cases hr;rw[baT] at hc;simp only[e1,hks,eqFlat,ctB_ok hc.1 ha,ctB_ok hc.2 hb,Bool.and_self,_root_.cond_true];exact⟨_,rfl,freshB_ok g _⟩
        ·cases hr
       ·cases hr
  ·rename_i e1;cases hv with
   | agg ha=>cases hw with
     | agg hb =>
       split at hr
       ·rename_i ks hks;rw[biE] at hr;split at hr
        ·rename_i hc;cases hr;rw[baT] at hc;simp only[e1,hks,eqFlat,ctB_ok hc.1 ha,ctB_ok hc.2 hb,Bool.and_self,_root_.cond_true];exact⟨_,rfl,freshB_ok g _⟩
        ·cases hr
       ·cases hr
  ·rename_i b e1;rw[biE] at hr;split at hr
   ·rename_i hb;split at hr
    ·rename_i z hz;cases hr;obtain⟨u,rfl⟩:=isBool_ok hb hv;cases hw;simp only[e1];refine⟨_,rfl,.same g ?_⟩;have:=negB_ok hz hv;cases b<;>cases u<;>simpa using this
    ·cases hr
   ·cases hr
  ·rename_i e1 _;rw[biE] at hr;split at hr
   ·rename_i hb;cases hr;rw[baT] at hb;obtain⟨u,rfl⟩:=isBool_ok hb.1 hv;obtain⟨u',rfl⟩:=isBool_ok hb.2 hw;simp only[e1];exact⟨_,rfl,freshB_ok g _⟩
   ·cases hr
  ·cases hr
 ·cases hr
theorem kindEq_rfl(k:IntKind):kindEq k k=true:=by simp[kindEq]
theorem eqStr_ok{x y:SV}{r:Bool}(hr:eqStr x y=some r){a b:ByteArray}(hv:V ν β x (.string a))(hw:V ν β y (.string b)):bytesEq a.data.toList b.data.toList=r:=by
 unfold eqStr at hr;split at hr
 ·cases hr;cases hv;cases hw;rfl
 ·cases hr
theorem binT_ok(g:Ga C R F h0 n0 s ν β t h n){op:BinOp}{ty:TypeId}{x y:SV}{r:SV×S}(hr:binT C s op x y=some r){a b:ByteArray}(hv:V ν β x (.string a))(hw:V ν β y (.string b))(c:Bool):∃ z,binA C.E op ty c (.string a) (.string b)=some z∧Pv C R F h0 n0 ν β t h n r z:=by
 cases op<;>simp only[binT] at hr<;>try cases hr
 ·refine⟨_,rfl,?_⟩;split at hr
  ·rename_i q hq;cases hr;rw[eqStr_ok hq hv hw];exact .same g (.b _)
  ·cases hr;exact freshB_ok g _
 ·refine⟨_,rfl,?_⟩;split at hr
  ·rename_i q hq;cases hr;rw[eqStr_ok hq hv hw];exact .same g (.b _)
  ·cases hr;exact freshB_ok g _
 ·exact⟨_,rfl,freshB_ok g _⟩
 ·exact⟨_,rfl,freshB_ok g _⟩
theorem eqA_ni{E:Env}{ty:TypeId}{c:Bool}{v w:Value}{b:Bool}(h:eqA E ty c v w=some b):(∀ j a,v≠ .int j a)∧∀ a,v≠ .string a:=by
 constructor
 ·rintro j a rfl;unfold eqA at h;split at h
  ·split at h<;>simp_all
  ·cases h
 ·rintro a rfl;unfold eqA at h;split at h
  ·split at h<;>simp_all
  ·cases h
theorem binE_ok(g:Ga C R F h0 n0 s ν β t h n){op:BinOp}{ty:TypeId}{x y:SV}{r:SV×S}(hr:binE C s op ty x y=some r){v w:Value}(hv:V ν β x v)(hw:V ν β y w)(c:Bool):∃ z,binA C.E op ty c v w=some z∧Pv C R F h0 n0 ν β t h n r z:=by
 unfold binE at hr;split at hr
 ·rename_i k q s' hk hq;split at hr
  ·rename_i r' hr';cases hr;obtain⟨b,h1,ν',h2,h3,h4⟩:=eqS_ok g hq hv hw c;obtain⟨n1,n2⟩:=eqA_ni h1;refine⟨.bool (k != b),?_,ν',h2,h3,negB_ok hr' h4⟩;unfold binA;split
   ·exact absurd rfl (n1 _ _)
   ·exact absurd rfl (n2 _)
   ·cases op<;>simp only[isEql] at hk<;>cases hk
    ·simp only[h1];simp
    ·simp only[h1];simp
  ·cases hr
 ·cases hr
theorem binS_ok(g:Ga C R F h0 n0 s ν β t h n){op:BinOp}{ty:TypeId}{x y:SV}{r:SV×S}(hr:binS C s op ty x y=some r){v w:Value}(hv:V ν β x v)(hw:V ν β y w)(c:Bool):∃ z,binA C.E op ty c v w=some z∧Pv C R F h0 n0 ν β t h n r z:=by
 unfold binS at hr;split at hr
 ·rename_i j a k b;rw[biE] at hr;split at hr
  ·rename_i hk;have:=kindB_eq hk;subst this;cases hv with
   | i h1 h2 h3 =>
     cases hw with
     | i k1 k2 k3 =>
       rename_i x y;cases op<;>simp only at hr<;>try cases hr
       ·refine⟨_,by simp only[binA,kindEq_rfl,_root_.cond_true];rfl,?_⟩;exact addS_ok g h1 k1
       ·refine⟨_,by simp only[binA,kindEq_rfl,_root_.cond_true];rfl,?_⟩;exact subS_ok g h1 k1
       ·refine⟨_,by simp only[binA,kindEq_rfl,_root_.cond_true];rfl,?_⟩;exact freshI_ok g (wrap_rng _ _).1 (wrap_rng _ _).2
       ·rw[biE] at hr;split at hr
        ·rename_i hq;cases hr;have hne:y≠0:=by
          intro e;subst e;rw[Bool.or_eq_true] at hq;rcases hq with hq|hq
          ·have:=g.ie hq (evI_up 1 k1) (evI_ieC 0);omega
          ·have:=g.ie hq (evI_ieC 1) k1;omega
         refine⟨_,by simp only[binA,kindEq_rfl,Bool.true_and,decide_eq_false hne,Bool.not_false,_root_.cond_true];rfl,?_⟩;exact freshI_ok g (wrap_rng _ _).1 (wrap_rng _ _).2
        ·cases hr
       all_goals (refine⟨_,by simp only[binA,kindEq_rfl,_root_.cond_true,cmpA];rfl,?_⟩)
       ·exact .same g (by simpa using V.eq (β:=β) (neg:=false) h1 k1)
       ·exact .same g (by simpa using V.eq (β:=β) (neg:=true) h1 k1)
       ·refine .same g ?_;have:=V.le (β:=β) (neg:=true) k1 h1;have e:(true != decide (y≤x))=decide (x<y):=by by_cases hyx:y≤x<;>simp[hyx]<;>omega
        rw[e] at this;exact this
       ·exact .same g (by simpa using V.le (β:=β) (neg:=false) h1 k1)
       ·refine .same g ?_;have:=V.le (β:=β) (neg:=true) h1 k1;have e:(true != decide (x≤y))=decide (y<x):=by by_cases hyx:x≤y<;>simp[hyx]<;>omega
        rw[e] at this;exact this
       ·exact .same g (by simpa using V.le (β:=β) (neg:=false) k1 h1)
  ·cases hr
 ·rw[biE] at hr;split at hr
  ·rename_i hs;rw[baT] at hs;obtain⟨a,rfl,ha⟩:=isStr_ok hs.1 hv;obtain⟨b,rfl,hb⟩:=isStr_ok hs.2 hw;exact binT_ok g hr hv hw c
  ·exact binE_ok g hr hv hw c
end
section
variable {C:Cfg}{R:Nat}{F:Nat→Prop}{h0:T Blk}{n0:Nat}{s:S}{ν:List Value}{β:List (Option Nat)}{t:T Value}{h:T Blk}{n:Nat}
theorem Ga.addB(g:Ga C R F h0 n0 s ν β t h n){b:Nat}{a:AB}(hb:b<n)(hF:¬ F b)(hno:∀ i a',get1 s.h i=some a'→β[i]? ≠some (some b))(ha:ABok C R ν (β ++ [some b]) h a (some b)):Ga C R F h0 n0 (s.blk a) ν (β ++ [some b]) t h n:=by
 have he:Ext ν β ν (β ++ [some b]):=⟨⟨[],by simp⟩,[some b],rfl⟩
 have hnew:(β ++ [some b])[s.nb]? =some (some b):=by rw[←g.bl];simp
 have hold:∀ {i:Nat} {o},i≠s.nb→(β ++ [some b])[i]? =some o→β[i]? =some o:=by intro i o hi ho;have hlt:=(gsI ho).1;rw[List.length_append,g.bl] at hlt;simp only[List.length_cons,List.length_nil] at hlt;rw[List.getElem?_append_left (by rw[g.bl];omega)] at ho;exact ho
 refine {tm:=fun j x hj=>?_,nt:=g.nt,nl:=g.nl,bl:=by simp[S.blk,g.bl],bb:=fun i c hi=>?_,hp:=fun i a' hi=>?_,nd:=fun i j a1 a2 c hi hj hbi hbj=>?_,ft:=g.ft,fr:=g.fr,gr:=g.gr,pr:=fun c hc=>?_,rk:=g.rk.ext he,rvk:=g.rvk.ext he,nn:=g.nn,ro:=g.ro}
 ·obtain⟨w,h1,h2⟩:=g.tm j x hj;exact⟨w,h1,h2.ext he⟩
 ·by_cases hi':i=s.nb
  ·subst hi';rw[hnew] at hi;cases hi;exact hb
  ·exact g.bb i c (hold hi' hi)
 ·simp only[S.blk] at hi;rw[get1_put] at hi;split at hi
  ·rename_i e;cases hi;subst e;exact⟨some b,hnew,ha⟩
  ·obtain⟨o,h1,h2⟩:=g.hp i a' hi;exact⟨o,he.be h1,h2.keep he (fun _ _ h=>h) fun _ _=>rfl⟩
 ·simp only[S.blk] at hi hj;rw[get1_put] at hi hj;split at hi<;>split at hj
  ·rename_i e1 e2;rw[e1,e2]
  ·rename_i e1 e2;subst e1;rw[hnew] at hbi;cases hbi;exact absurd (hold e2 hbj) (hno j a2 hj)
  ·rename_i e1 e2;subst e2;rw[hnew] at hbj;cases hbj;exact absurd (hold e1 hbi) (hno i a1 hi)
  ·rename_i e1 e2;exact g.nd i j a1 a2 c hi hj (hold e1 hbi) (hold e2 hbj)
 ·obtain⟨h1,h2,h3⟩:=g.pr c hc;refine⟨h1,h2,fun i a' hi hbi=>?_⟩;simp only[S.blk] at hi;rw[get1_put] at hi;split at hi
  ·rename_i e;subst e;rw[hnew] at hbi;cases hbi;exact hF hc
  ·rename_i e;exact h3 i a' hi (hold e hbi)
theorem DR.cell{rk:RK}{ct:CT}{v:Value}(hd:DR C R h rk ct v):isCell v=true:=by
 cases ct with
 | sl q=>obtain⟨r,_,hd⟩:=hd;cases hd<;>rfl
 | int k=>cases hd with|int h1 h2=>rfl
 | bool=>cases hd with|bool x=>rfl
 | str=>cases hd with|str h1=>rfl
theorem DR.le{r r':RK}(hr:rkLe r r'=true){ct:CT}{v:Value}(hd:DR C R h r ct v):DR C R h r' ct v:=by
 cases ct with
 | sl q=>obtain⟨k,h1,h2⟩:=hd;exact⟨k,rkOK_le hr h1,h2⟩
 | int k=>exact hd
 | bool=>exact hd
 | str=>exact hd
def Rows(C:Cfg)(R:Nat)(h:T Blk)(rk:RK)(cts:List CT)(cs:List Value):Prop:=∀ (i:Nat)(x:Value)(ct:CT),nth cs i=some x→nth cts (i % cts.length)=some ct→DR C R h rk ct x
theorem nth_append{α:Type}(a b:List α)(i:Nat):nth (a ++ b) i=if i<a.length then nth a i else nth b (i-a.length):=by
 rw[nth_eq,nth_eq,nth_eq];split
 ·rename_i hi;rw[List.getElem?_append_left hi]
 ·rename_i hi;rw[List.getElem?_append_right (by omega)]
theorem Rows.append{rk:RK}{cts:List CT}{a b:List Value}{L:Nat}(ha:Rows C R h rk cts a)(hl:a.length=L * cts.length)(hb:Rows C R h rk cts b):Rows C R h rk cts (a ++ b):=by
 intro i x ct hx hc;rw[nth_append] at hx;split at hx
 ·exact ha i x ct hx hc
 ·rename_i hi;refine hb (i-a.length) x ct hx ?_;have:i=(i-a.length)+L * cts.length:=by omega
  rw[this,Nat.add_mul_mod_self_right] at hc;exact hc
theorem Rows.cells{rk:RK}{cts:List CT}{a:List Value}(ha:Rows C R h rk cts a)(hp:0<cts.length):allCells a=true:=by rw[allCells_iff];intro x hx;obtain⟨i,hi⟩:=List.getElem?_of_mem hx;have hm:i % cts.length<cts.length:=Nat.mod_lt _ hp;exact(ha i x _ (by rw[nth_eq];exact hi) (by rw[nth_eq,ggE hm])).cell
theorem Rows.rep{rk:RK}{cts:List CT}{z:List Value}(hz:z.length=cts.length)(h1:∀ k ct v,nth cts k=some ct→nth z k=some v→DR C R h rk ct v):∀ m,Rows C R h rk cts (repL z m)∧(repL z m).length=m * cts.length
 | 0=>⟨fun i x ct hx _=>by simp[repL,nth] at hx,by simp[repL]⟩
 | m+1=>by
   obtain⟨h2,h3⟩:=Rows.rep hz h1 m;have h4:Rows C R h rk cts z:=by
    intro i x ct hx hc;have hi:i<cts.length:=by rw[nth_eq] at hx;have:=(gsI hx).1;omega
    rw[Nat.mod_eq_of_lt hi] at hc;exact h1 i ct x hc hx
   refine⟨h4.append (L:=1) (by omega) h2,?_⟩;simp only[repL,List.length_append,hz,h3,Nat.succ_mul];omega
theorem rowsS_ok(g:Ga C R F h0 n0 s ν β t h n){rk:RK}{cts:List CT}:∀ {m:Nat}{l:List SV}{vs:List Value},rowsS s rk cts m l=true→VL ν β l vs→Rows C R h rk cts vs∧vs.length=m * cts.length
 | 0,l,vs,hx,hl=>by simp only[rowsS,List.isEmpty_iff] at hx;subst hx;cases hl;exact⟨fun i x ct hx _=>by simp[nth] at hx,by simp⟩
 | m+1,l,vs,hx,hl=>by
   simp only[rowsS] at hx;split at hx
   ·rename_i a ha;rw[baT] at hx;obtain⟨w,h1,h2⟩:=VL.takeL _ hl ha;obtain⟨h3,h4⟩:=svCTs_ok g hx.1 h2;obtain⟨h5,h6⟩:=rowsS_ok g hx.2 (hl.dropL cts.length);obtain⟨h7,h8⟩:=takeL_some _ _ _ h1;have hw:w.length=cts.length:=by rw[←h2.len,h3]
    have hvs:vs=w ++ dropL vs cts.length:=by rw[h7,dropL_eq,List.take_append_drop]
    have h9:Rows C R h rk cts w:=by
     intro i x ct hx hc;have hi:i<cts.length:=by rw[nth_eq] at hx;have:=(gsI hx).1;omega
     rw[Nat.mod_eq_of_lt hi] at hc;exact h4 i ct x hc hx
    rw[hvs];refine⟨h9.append (L:=1) (by omega) h5,?_⟩;rw[List.length_append,hw,h6,Nat.succ_mul];omega
   ·cases hx
theorem ieEq_ok{a b:IE}(hq:ieEq a b=true):a=b:=by unfold ieEq at hq;rw[baT,eqI_eq,decide_eq_true_eq] at hq;cases a;cases b;have:=IB.beq_eq hq.1;simp only at this hq;rw[this,hq.2]
theorem natV_of{k:IntKind}{x hi:Nat}(hx:x≤hi):natV (.int k (x:Int)) hi=some x:=by show(bif Nat.ble x hi then some x else none)=some x;rw[biE,if_pos (by rw[bleT];exact hx)]
theorem newS_ok(g:Ga C R F h0 n0 s ν β t h n)(hlim:C.lim≤16000000){j:TyI}{q:Nat}{cts:List CT}{rk:RK}{xt:Option TypeId}{x:SV}{xl:IE}(hx:newS C s j q cts rk xt x=some xl)(hq:nth C.Γ q=some cts)(hs:cts.length=j.size){xv:Value}(hv:V ν β x xv) :
 ∃ (L:Nat) (new:List Value),evI ν xl=some (L:Int)∧newCells C.E h j xt xv=some (L,new)∧new.length=L * cts.length∧L≤16000000∧Rows C R h rk cts new:=by
 unfold newS at hx;split at hx
 ·cases hx
 ·rename_i xt;split at hx
  ·rename_i xi hxi;unfold newCells;simp only[hxi];split at hx
   ·rename_i e1;simp only[e1];split at hx
    ·rename_i z hz;rw[biE] at hx;split at hx
     ·rename_i hc;cases hx;simp only[baT] at hc;obtain⟨⟨c1,c2⟩,c3⟩:=hc;cases hv with
      | i h1 h2 h3 =>
        rename_i y;have k1:=g.ie c1 (evI_ieC 0) h1;have k2:=g.ie c2 h1 (evI_ieC _);obtain⟨L,rfl⟩:=Int.eq_ofNat_of_zero_le k1;obtain⟨z1,z2,z3⟩:=zeroS_ok hz;obtain⟨h4,h5⟩:=svCTs_ok g c3 (z3 ν β);have hz0:j.zero.length=cts.length:=by rw[←(z3 ν β).len,h4]
        obtain⟨h6,h7⟩:=Rows.rep hz0 h5 L;refine⟨L,repL j.zero L,h1,?_,h7,by omega,h6⟩;rw[natV_of (by omega)]
     ·cases hx
    ·cases hx
   ·rename_i a e1;simp only[e1];split at hx
    ·rename_i p r hpr;rw[biE] at hx;split at hx
     ·rename_i hc;cases hx;rw[baT,beqT] at hc;obtain⟨rfl,c2⟩:=hc;cases hv with
      | ds ha =>
        rename_i ad l c;obtain⟨w,h1,k,h2,h3⟩:=g.nt a _ hpr;rw[ha] at h1;cases h1;have hln:evI ν ⟨.ln a,0⟩=some (l:Int):=by simp only[evI,evB,ha,Int.add_zero]
        cases h3 with
        | nil =>
          refine⟨0,[],hln,?_,by simp,by omega,fun i x ct hx _=>by simp[nth] at hx⟩;simp[rowA];rfl
        | sl f hb hq' hp' ho hs' hl hc' =>
          rename_i b o cs cts';rw[hq] at hq';cases hq';obtain⟨w,hw⟩:=seg_ex cs o (l * j.size) (by rw[←hs];exact ho);obtain⟨w1,w2⟩:=seg_some hw;refine⟨l,w,hln,?_,by rw[w1,hs],by omega,fun i x ct hx hct=>?_⟩
          ·simp only[rowA,cellsOf,hb,hw];rw[biE,if_pos (by rw[bleT];omega)]
          ·obtain⟨k1,k2⟩:=nth_seg hw hx;exact(DR.of (rkOK_kid (part_lt hs' (by rw[hs];exact k1)) h2) (hc' i x ct (by rw[hs];exact k1) k2 hct)).le c2
     ·cases hx
    ·cases hx
   ·rename_i a len low sz e1;simp only[e1];split at hx
    ·rename_i l m hl hm;split at hx
     ·rename_i r hr;rw[biE] at hx;split at hx
      ·rename_i hc;cases hx;simp only[baT,beqT,bleT] at hc;obtain⟨⟨c1,c2⟩,c3⟩:=hc;obtain⟨o,k1,k2⟩:=g.hp a _ hl;have hlen:=ieN_ok (ν:=ν) hm;cases hv with
       | osn hb h1 h2 h3 =>
         rw[hb] at k1;cases k1;exact k2.elim
       | os hb h1 h2 h3 h4 h5 h6 =>
         rename_i b L W c;rw[hb] at k1;cases k1;have:L=m:=by have:=evI_inj h1 hlen;omega
         subst this;obtain⟨cs,k3,k4,k5⟩:=k2;obtain⟨w,k6,k7⟩:=k4.seg hr;obtain⟨k8,k9⟩:=rowsS_ok g c1 k7;refine⟨L,w,h1,?_,k9,c3,k8⟩;simp only[rowA,cellsOf,k3];rw[←hs,k6];simp only;rw[biE,if_pos (by rw[bleT];omega)]
      ·cases hx
     ·cases hx
    ·rename_i p r low' hl _;rw[biE] at hx;split at hx
     ·rename_i hc;cases hx;simp only[baT,beqT] at hc;obtain⟨⟨⟨⟨rfl,c2⟩,c3⟩,c4⟩,c5⟩:=hc;have:=ieEq_ok c5;subst this;obtain⟨o,k1,k2⟩:=vecG_ok g hl;cases hv with
      | osn hb h1 h2 h3 =>
        refine⟨0,[],h1,?_,by simp,by omega,fun i x ct hx _=>by simp[nth] at hx⟩;simp[rowA];rfl
      | os hb h1 h2 h3 h4 h5 h6 =>
        rename_i b L W c;rw[hb] at k1;cases k1;obtain⟨cs,cts',W',k3,k4,k5,k6,k7,k8⟩:=k2;rw[hq] at k4;cases k4;have:W'=W:=by have:=evI_inj h2 k6;omega
        subst this;have hle:=g.ie c4 h1 (evI_ieC _);obtain⟨w,hw⟩:=seg_ex cs 0 (L * j.size) (by rw[k7,← hs,Nat.zero_add];exact Nat.mul_le_mul_right _ h3);obtain⟨w1,w2⟩:=seg_some hw;refine⟨L,w,h1,?_,by rw[w1,hs],by omega,fun i x ct hx hct=>?_⟩
        ·simp only[rowA,cellsOf,k3,hw];rw[biE,if_pos (by rw[bleT];omega)]
        ·obtain⟨m1,m2⟩:=nth_seg hw hx;rw[Nat.zero_add] at m2;exact(k8 i x ct m2 hct).le c2
     ·cases hx
    ·cases hx
   ·rename_i e1;simp only[e1];cases hx;cases hv;refine⟨0,[],evI_ieC 0,?_,by simp,by omega,fun i x ct hx _=>by simp[nth] at hx⟩;simp[rowA];rfl
   ·cases hx
  ·cases hx
theorem ubD_ok(g:Ga C R F h0 n0 s ν β t h n){e:IE}{x:Int}(hx:evI ν e=some x)(h1:x≤16000000):x≤ubD s e:=by
 unfold ubD;split
 ·rw[biE];split
  ·rename_i hq;exact g.ie hq hx (evI_ieC _)
  ·exact h1
 ·exact h1
theorem sumS_ok(g:Ga C R F h0 n0 s ν β t h n){a b:IE}{x y:Nat}(hx:evI ν a=some (x:Int))(hy:evI ν b=some (y:Int))(h1:x≤16000000)(h2:y≤16000000) :
 ∃ ν',Ext ν β ν' β∧Ga C R F h0 n0 (sumS s a b).2 ν' β t h n∧evI ν' (sumS s a b).1=some ((x+y:Nat):Int)∧(sumS s a b).2.h=s.h:=by
 unfold sumS;split
 ·rename_i hb;have:=evI_const hb hy;refine⟨ν,.rfl',g,?_,rfl⟩;rw[←this];have:=evI_up (y:Int) hx;rw[this];simp
 ·rename_i hb _;have:=evI_const hb hx;refine⟨ν,.rfl',g,?_,rfl⟩;rw[←this];have:=evI_up (x:Int) hy;rw[this];simp[Int.add_comm]
 ·obtain⟨g',hat⟩:=g.name (N:= .int .i64) (v:= .int .i64 ((x+y:Nat):Int)) ⟨_,rfl,by show(-9223372036854775808:Int)≤_;omega,by show _≤(9223372036854775807:Int);omega⟩;have he:=Ext.name ν β (.int .i64 ((x+y:Nat):Int));have hz:evI (ν ++ [.int .i64 ((x+y:Nat):Int)]) ⟨.v s.ty.length,0⟩=some ((x+y:Nat):Int):=by simp only[evI,evB,hat,Int.add_zero]
  have u1:=ubD_ok g hx (by omega);have u2:=ubD_ok g hy (by omega);exact⟨_,he,((g'.fact ⟨_,_,he.nu hx,hz,by omega⟩).fact ⟨_,_,he.nu hy,hz,by omega⟩).fact ⟨_,_,hz,evI_ieC _,by rw[addI_eq];omega⟩,hz,rfl⟩
theorem room_ok(g:Ga C R F h0 n0 s ν β t h n){len:IE}{L W:Nat}(hl:evI ν len=some (L:Int))(hLW:L≤W)(hW:W<1000000000) :
 Ext ν β (ν ++ [.int .i64 (W:Int)]) β∧Ga C R F h0 n0 (((s.name (.int .i64)).fact len ⟨.v s.ty.length,0⟩).fact ⟨.v s.ty.length,0⟩ (ieC 1000000000)) (ν ++ [.int .i64 (W:Int)]) β t h n∧evI (ν ++ [.int .i64 (W:Int)]) ⟨.v s.ty.length,0⟩=some (W:Int)∧evI (ν ++ [.int .i64 (W:Int)]) len=some (L:Int):=by
 obtain⟨g',hat⟩:=g.name (N:= .int .i64) (v:= .int .i64 (W:Int)) ⟨_,rfl,by show(-9223372036854775808:Int)≤_;omega,by show _≤(9223372036854775807:Int);omega⟩;have he:=Ext.name ν β (.int .i64 (W:Int));have hz:evI (ν ++ [.int .i64 (W:Int)]) ⟨.v s.ty.length,0⟩=some (W:Int):=by simp only[evI,evB,hat,Int.add_zero]
 exact⟨he,(g'.fact ⟨_,_,he.nu hl,hz,by omega⟩).fact ⟨_,_,hz,evI_ieC _,by omega⟩,hz,he.nu hl⟩
theorem Ext.blk(ν:List Value)(β:List (Option Nat))(o:Option Nat):Ext ν β ν (β ++ [o]):=⟨⟨[],by simp⟩,[o],rfl⟩
theorem grown_new(g:Ga C R F h0 n0 s ν β t h n){q:Nat}{rk:RK}{cts:List CT}{len:IE}{sz L:Nat}{cs:List Value}(hq:nth C.Γ q=some cts)(hs:cts.length=sz)(hp:0<sz)(hl:evI ν len=some (L:Int))(hL:L≤32000000)(hcs:cs.length=L * cts.length)(hr:Rows C R h rk cts cs) :
 ∃ ν' β',Ext ν β ν' β'∧Ga C R F h0 n0 (grownS s q rk len sz).2 ν' β' t (h.upd (some (.cells cs)) n) (n+1)∧V ν' β' (grownS s q rk len sz).1 (.slice (some ⟨n,0,none⟩) L (UNK * sz+L)):=by
 obtain⟨e,g',hz,hl'⟩:=room_ok g hl (nlR L) (by omega);have hro:∀ b c,h.get b=some (.ro c)→(h.upd (some (.cells cs)) n).get b=some (.ro c):=fun b c hb=>by
  rw[T.gnE]
  ·exact hb
  ·intro e;subst e;rw[g.fr _ (nlR _)] at hb;cases hb
 refine⟨_,_,e.trans (Ext.blk _ _ _),g'.blk (a:= .vec q rk ⟨.v s.ty.length,0⟩) (k:= .cells cs) ⟨cs,cts,L,T.gsE _ _ _,hq,by omega,hz,hcs,fun i x ct hx hc=>(hr i x ct hx hc).mono hro⟩,?_⟩;refine .os ?_ hl' hz (nlR _) (by omega) (.inl rfl) hp;rw[←g.bl];simp
theorem grown_old(g:Ga C R F h0 n0 s ν β t h n){q:Nat}{rk:RK}{cts:List CT}{len:IE}{sz L W b c:Nat}{cs:List Value}(hq:nth C.Γ q=some cts)(hs:cts.length=sz)(hp:0<sz)(hl:evI ν len=some (L:Int))(hLW:L≤W)(hW:W<1000000000)(hc:c=UNK * sz+W∨c=W)
 (hb:b<n) (hF:¬ F b) (hno:∀ i a',get1 s.h i=some a'→β[i]? ≠some (some b)) (hget:h.get b=some (.cells cs)) (hcs:cs.length=W * cts.length) (hr:Rows C R h rk cts cs) :
 ∃ ν' β',Ext ν β ν' β'∧Ga C R F h0 n0 (grownS s q rk len sz).2 ν' β' t h n∧V ν' β' (grownS s q rk len sz).1 (.slice (some ⟨b,0,none⟩) L c):=by
 obtain⟨e,g',hz,hl'⟩:=room_ok g hl hLW hW;refine⟨_,_,e.trans (Ext.blk _ _ _),g'.addB (a:= .vec q rk ⟨.v s.ty.length,0⟩) hb hF hno ⟨cs,cts,W,hget,hq,by omega,hz,hcs,hr⟩,?_⟩;refine .os ?_ hl' hz hLW hW hc hp;rw[←g.bl];simp
theorem grown_nil(g:Ga C R F h0 n0 s ν β t h n){q:Nat}{rk:RK}{cts:List CT}{len:IE}{sz:Nat}(hq:nth C.Γ q=some cts)(hs:cts.length=sz)(hp:0<sz)(hl:evI ν len=some 0) :
 ∃ ν' β',Ext ν β ν' β'∧Ga C R F h0 n0 (grownS s q rk len sz).2 ν' β' t h n∧V ν' β' (grownS s q rk len sz).1 (.slice none 0 0):=by
 obtain⟨e,g',hz,hl'⟩:=room_ok g (L:=0) (W:=0) hl (nlR _) (by omega);refine⟨_,_,e.trans (Ext.blk _ _ _),g'.nob (a:= .vec q rk ⟨.v s.ty.length,0⟩) ⟨hz,cts,hq,by omega⟩,?_⟩;refine .osn ?_ hl' hz hp;rw[←g.bl];simp
theorem unk_low{sz W:Nat}(hW:W<1000000000){c:Nat}(hc:c=UNK * sz+W∨c=W):lowCap c=W:=by
 unfold lowCap;have:W<UNK:=by unfold UNK;omega
 rcases hc with rfl|rfl
 ·rw[Nat.mul_add_mod,Nat.mod_eq_of_lt this]
 ·exact Nat.mod_eq_of_lt this
theorem append_nil(g:Ga C R F h0 n0 s ν β t h n){st:TypeId}{e:TypeId}{i j:TyI}{q:Nat}{cts:List CT}{rk:RK}{xt:Option TypeId}{xv:Value}{len:IE}{L:Nat}{new:List Value}(hi:C.E.ty.get st=some i)(hd:i.d= .slice e)(hj:C.E.ty.get e=some j)
 (hc:(Nat.ble j.bytes 4096&&Nat.blt 0 j.size&&Nat.blt 0 j.bytes&&j.zok&&Nat.beq j.zero.length j.size)=true) (hq:nth C.Γ q=some cts) (hs:cts.length=j.size) (hl:evI ν len=some (L:Int)) (hL:L≤16000000) (hn:newCells C.E h j xt xv=some (L,new)) (hnl:new.length=L * cts.length) (hr:Rows C R h rk cts new) :
 ∃ v' h' n',appendA C.E st xt (.slice none 0 0) xv h n=some (v',h',n')∧∃ ν' β',Ext ν β ν' β'∧Ga C R F h0 n0 (grownS s q rk len j.size).2 ν' β' t h' n'∧V ν' β' (grownS s q rk len j.size).1 v':=by
 have hp:0<j.size:=by simp only[baT,bltT] at hc;exact hc.1.1.1.2
 unfold appendA;simp only[hi,hd,hj,hc,Bool.true_and,hn];by_cases hL0:L=0
 ·subst hL0;have:=grown_nil g (rk:=rk) hq hs hp hl;exact⟨_,_,_,rfl,this⟩
 ·have h1:Nat.beq L 0=false:=by cases hb:Nat.beq L 0 with
   | false=>rfl
   | true=>rw[beqT] at hb;exact absurd hb hL0
  have h2:Nat.ble L (lowCap 0)=false:=by cases hb:Nat.ble L (lowCap 0) with
   | false=>rfl
   | true=>rw[bleT] at hb;simp[lowCap] at hb;omega
  have h5:(Nat.ble 0 1000000000&&Nat.ble 0 (lowCap 0))=true:=rfl;have h3:rowA h j.size 0 (.slice none 0 0)=some []:=by simp[rowA]
  have h4:unkCap 0=false:=by unfold unkCap UNK;rfl
  simp only[h1,h2,h3,h4,h5,_root_.cond_true,_root_.cond_false,Nat.zero_add,List.nil_append];have:=grown_new g (rk:=rk) hq hs hp hl (by omega) hnl hr;exact⟨_,_,_,rfl,this⟩
theorem append_old(g:Ga C R F h0 n0 s ν β t h n){st:TypeId}{e:TypeId}{i j:TyI}{q:Nat}{cts:List CT}{rk:RK}{xt:Option TypeId}{xv:Value}{len:IE}{L0 L W c a b:Nat}{new cs:List Value}{ab:AB}(hi:C.E.ty.get st=some i)(hd:i.d= .slice e)(hj:C.E.ty.get e=some j)
 (hc:(Nat.ble j.bytes 4096&&Nat.blt 0 j.size&&Nat.blt 0 j.bytes&&j.zok&&Nat.beq j.zero.length j.size)=true) (hq:nth C.Γ q=some cts) (hs:cts.length=j.size) (hl:evI ν len=some ((L0+L:Nat):Int)) (hL0:L0≤16000000) (hL:L≤16000000) (hn:newCells C.E h j xt xv=some (L,new)) (hnl:new.length=L * cts.length) (hr:Rows C R h rk cts new)
 (hLW:L0≤W) (hW:W<1000000000) (hcap:c=UNK * j.size+W∨c=W) (ha:get1 s.h a=some ab) (hab:∀ ct q,ab≠ .map ct q) (hb:β[a]? =some (some b)) (hget:h.get b=some (.cells cs)) (hcs:cs.length=W * cts.length) (hrc:Rows C R h rk cts cs) :
 ∃ v' h' n',appendA C.E st xt (.slice (some ⟨b,0,none⟩) L0 c) xv h n=some (v',h',n')∧∃ ν' β',Ext ν β ν' β'∧Ga C R F h0 n0 (grownS (s.dropB a) q rk len j.size).2 ν' β' t h' n'∧V ν' β' (grownS (s.dropB a) q rk len j.size).1 v':=by
 have hp:0<j.size:=by simp only[baT,bltT] at hc;exact hc.1.1.1.2
 have hlow:=unk_low hW hcap;have hF:¬ F b:=fun hf=>(g.pr b hf).2.2 a ab ha hb
 have hno:∀ k a',get1 (s.dropB a).h k=some a'→β[k]? ≠some (some b):=by
  intro k a' hk hbk;simp only[S.dropB] at hk;rw[get1_del] at hk;split at hk
  ·cases hk
  ·rename_i e;exact e (g.nd k a a' ab b hk ha hbk hb)
 have hlt:=g.bb a b hb;unfold appendA;simp only[hi,hd,hj,hc,Bool.true_and,hn,hlow];have hz0:Nat.ble L0 1000000000=true:=by rw[bleT];omega
 have hz1:Nat.ble L0 W=true:=by rw[bleT];exact hLW
 simp only[hz0,hz1,Bool.and_self,_root_.cond_true];by_cases hL0:L=0
 ·subst hL0;simp only[Nat.beq_refl,_root_.cond_true];have:=grown_old (g.dropB a) (rk:=rk) hq hs hp hl hLW hW hcap hlt hF hno hget hcs hrc;exact⟨_,_,_,rfl,this⟩
 ·have h1:Nat.beq L 0=false:=by cases hb:Nat.beq L 0 with
   | false=>rfl
   | true=>rw[beqT] at hb;exact absurd hb hL0
  simp only[h1,_root_.cond_false];by_cases hroom:L0+L≤W
  ·have h2:Nat.ble (L0+L) W=true:=by rw[bleT];exact hroom
   simp only[h2,_root_.cond_true];have hfit:L0 * cts.length+new.length≤cs.length:=by rw[hcs,hnl,← Nat.add_mul];exact Nat.mul_le_mul_right _ hroom
   obtain⟨z,hz⟩:=overAt_ex new cs (0+L0 * j.size) (by rw[Nat.zero_add,← hs];exact hfit);obtain⟨z1,z2⟩:=overAt_nth hz;have hput:putA h b (0+L0 * j.size) new=some (h.upd (some (.cells z)) b):=by unfold putA;simp only[hget,hr.cells (by omega),_root_.cond_true,hz]
   simp only[hput];have hro:∀ d c,h.get d=some (.ro c)→(h.upd (some (.cells z)) b).get d=some (.ro c):=fun d c hd=>by
    rw[T.gnE]
    ·exact hd
    ·intro e;subst e;rw[hget] at hd;cases hd
   have hrz:Rows C R (h.upd (some (.cells z)) b) rk cts z:=by
    intro k x ct hx hct;rw[z2 k] at hx;split at hx
    ·rename_i hk;refine(hr (k-(0+L0 * j.size)) x ct hx ?_).mono hro;have:k=(k-(0+L0 * j.size))+L0 * cts.length:=by rw[hs];omega
     rw[this,Nat.add_mul_mod_self_right] at hct;exact hct
    ·exact(hrc k x ct hx hct).mono hro
   obtain⟨o,ho,hao⟩:=g.hp a ab ha;rw[hb] at ho;cases ho;have g1:=(g.upd (a':= .vec q rk (ieC W)) (k:= .cells z) ha hb ⟨z,cts,W,T.gsE _ _ _,hq,by omega,evI_ieC _,by rw[z1,hcs],hrz⟩).dropB a;have g2:Ga C R F h0 n0 (s.dropB a) ν β t (h.upd (some (.cells z)) b) n :=
    {tm:=g1.tm,nt:=g1.nt,nl:=g1.nl,bl:=g1.bl,bb:=g1.bb,ft:=g1.ft,fr:=g1.fr,gr:=g1.gr,nn:=g1.nn,rk:=g1.rk,rvk:=g1.rvk,ro:=g1.ro
     hp:=fun k a' hk=>g1.hp k a' (by rw[←hk];simp only[S.dropB,S.setB];rw[get1_del,get1_del,get1_put];split<;>simp_all)
     nd:=fun k k' a1 a2 d hk hk'=>g1.nd k k' a1 a2 d (by rw[←hk];simp only[S.dropB,S.setB];rw[get1_del,get1_del,get1_put];split<;>simp_all) (by rw[←hk'];simp only[S.dropB,S.setB];rw[get1_del,get1_del,get1_put];split<;>simp_all)
     pr:=fun d hd=>⟨(g1.pr d hd).1,(g1.pr d hd).2.1,fun k a' hk=>(g1.pr d hd).2.2 k a' (by rw[←hk];simp only[S.dropB,S.setB];rw[get1_del,get1_del,get1_put];split<;>simp_all)⟩}
   have:=grown_old g2 (rk:=rk) (b:=b) (c:=c) hq hs hp hl hroom hW hcap hlt hF hno (T.gsE _ _ _) (by rw[z1,hcs]) hrz;exact⟨_,_,_,rfl,this⟩
  ·have h2:Nat.ble (L0+L) W=false:=by cases hb:Nat.ble (L0+L) W with
    | false=>rfl
    | true=>rw[bleT] at hb;exact absurd hb hroom
   simp only[h2,_root_.cond_false];obtain⟨old,hold⟩:=seg_ex cs 0 (L0 * j.size) (by rw[hcs,← hs,Nat.zero_add];exact Nat.mul_le_mul_right _ hLW);have hrow:rowA h j.size L0 (.slice (some ⟨b,0,none⟩) L0 c)=some old:=by simp only[rowA,cellsOf,hget,hold]
   simp only[hrow];obtain⟨o1,o2⟩:=seg_some hold;have hro':Rows C R h rk cts old:=by intro k x ct hx hct;obtain⟨m1,m2⟩:=nth_seg hold hx;rw[Nat.zero_add] at m2;exact hrc k x ct m2 hct
   have hall:Rows C R h rk cts (old ++ new):=hro'.append (L:=L0) (by rw[o1,hs]) hr;have hlen:(old ++ new).length=(L0+L) * cts.length:=by rw[List.length_append,o1,hnl,Nat.add_mul,hs]
   rcases hcap with hcap|hcap
   ·have h3:unkCap c=true:=by
     unfold unkCap;rw[bleT,hcap];exact Nat.le_trans (Nat.le_mul_of_pos_right UNK hp) (Nat.le_add_right _ _)
    have h4:Nat.beq (c / UNK) j.size=true:=by rw[beqT,hcap,Nat.mul_add_div (by unfold UNK;omega),Nat.div_eq_of_lt (by unfold UNK;omega),Nat.add_zero]
    simp only[h3,h4,hr.cells (by omega),Bool.and_self,Bool.not_true,_root_.cond_true,_root_.cond_false,hget];have g1:=g.kill ha hb;have hro2:∀ d c,h.get d=some (.ro c)→(h.upd none b).get d=some (.ro c):=fun d c hd=>by
     rw[T.gnE]
     ·exact hd
     ·intro e;subst e;rw[hget] at hd;cases hd
    have:=grown_new g1 (rk:=rk) hq hs hp hl (by omega) hlen fun k x ct hx hct=>(hall k x ct hx hct).mono hro2
    exact⟨_,_,_,rfl,this⟩
   ·have h3:unkCap c=false:=by
     unfold unkCap;cases hb:Nat.ble UNK c with
     | false=>rfl
     | true=>rw[bleT,hcap] at hb;unfold UNK at hb;omega
    simp only[h3,_root_.cond_false];have:=grown_new (g.dropB a) (rk:=rk) hq hs hp hl (by omega) hlen hall;exact⟨_,_,_,rfl,this⟩
theorem appendS_ok(g:Ga C R F h0 n0 s ν β t h n)(hlim:C.lim≤16000000){st:TypeId}{xt:Option TypeId}{a x:SV}{r:SV×S}(hr:appendS C s st xt a x=some r){av xv:Value}(hav:V ν β a av)(hxv:V ν β x xv) :
 ∃ v' h' n',appendA C.E st xt av xv h n=some (v',h',n')∧∃ ν' β',Ext ν β ν' β'∧Ga C R F h0 n0 r.2 ν' β' t h' n'∧V ν' β' r.1 v':=by
 unfold appendS at hr;split at hr
 ·rename_i i hi;split at hr
  ·rename_i e hd;split at hr
   ·rename_i j q hj hq';split at hr
    ·rename_i cts hq;rw[biE] at hr;split at hr
     ·rename_i hc;rw[baT,beqT] at hc;obtain⟨hc,hs⟩:=hc;have hp:0<j.size:=by simp only[baT,bltT] at hc;exact hc.1.1.1.2
      split at hr
      ·cases hav;split at hr
       ·rename_i xl hxl;cases hr;obtain⟨L,new,k1,k2,k3,k4,k5⟩:=newS_ok g hlim hxl hq hs hxv;exact append_nil g hi hd hj hc hq hs k1 k4 k2 k3 k5
       ·split at hr
        ·rename_i xl hxl;cases hr;obtain⟨L,new,k1,k2,k3,k4,k5⟩:=newS_ok g hlim hxl hq hs hxv;exact append_nil g hi hd hj hc hq hs k1 k4 k2 k3 k5
        ·cases hr
      ·rename_i b len low sz;split at hr
       ·rename_i p rk low' hb;rw[biE] at hr;split at hr
        ·rename_i hc2;simp only[baT,beqT] at hc2;obtain⟨⟨⟨rfl,c2⟩,rfl⟩,c4⟩:=hc2;have:=ieEq_ok c2;subst this;split at hr
         ·rename_i xl hxl;cases hr;obtain⟨L,new,k1,k2,k3,k4,k5⟩:=newS_ok g hlim hxl hq hs hxv;obtain⟨o,ho,hao⟩:=g.hp b _ hb;cases hav with
          | osn hbb m1 m2 m3 =>
            rw[hbb] at ho;cases ho;obtain⟨ν1,e1,g1,n1,n2⟩:=sumS_ok g (x:=0) m1 k1 (by omega) k4;rw[Nat.zero_add] at n1;obtain⟨v',h',n',q1,ν2,β2,q2,q3,q4⟩:=append_nil (g1.dropB b) hi hd hj hc hq hs n1 k4 k2 k3 k5;exact⟨v',h',n',q1,ν2,β2,e1.trans q2,q3,q4⟩
          | os hbb m1 m2 m3 m4 m5 m6 =>
            rename_i bb L0 W c;rw[hbb] at ho;cases ho;obtain⟨cs,cts',W',p1,p2,p3,p4,p5,p6⟩:=hao;rw[hq] at p2;cases p2;have:W'=W:=by have:=evI_inj m2 p4;omega
            subst this;have hle:=g.ie c4 m1 (evI_ieC _);obtain⟨ν1,e1,g1,n1,n2⟩:=sumS_ok g m1 k1 (by omega) k4;obtain⟨v',h',n',q1,ν2,β2,q2,q3,q4⟩:=append_old g1 (a:=b) hi hd hj hc hq hs n1 (by omega) k4 k2 k3 k5 m3 m4 m5 (by rw[n2];exact hb) (fun _ _=>by simp) hbb p1 p5 p6;exact⟨v',h',n',q1,ν2,β2,e1.trans q2,q3,q4⟩
         ·cases hr
        ·cases hr
       ·cases hr
      ·cases hr
     ·cases hr
    ·cases hr
   ·cases hr
  ·cases hr
 ·cases hr
end
section
variable {C:Cfg}{R:Nat}{F:Nat→Prop}{h0:T Blk}{n0:Nat}{s:S}{ν:List Value}{β:List (Option Nat)}{t:T Value}{h:T Blk}{n:Nat}
def OV(ν:List Value)(β:List (Option Nat))(x:Option SV)(v:Option Value):Prop:=(x=none∧v=none)∨∃ y w,x=some y∧v=some w∧V ν β y w
theorem zeroO_ok{x:Option SV}(hx:sliceS.zeroO x=true){v:Option Value}(hv:OV ν β x v):v=none∨∃ k,v=some (.int k 0):=by
 rcases hv with⟨_,rfl⟩|⟨y,w,rfl,rfl,hv⟩
 ·exact .inl rfl
 ·right;unfold sliceS.zeroO at hx;split at hx
  ·rename_i e;cases e
  ·rename_i k e he;cases he;split at hx
   ·rename_i h0;cases hv with
    | i h1 h2 h3 =>
      have:=evI_inj h1 (ieN_ok h0);simp only[Int.natCast_zero] at this;subst this;exact⟨_,rfl⟩
   ·cases hx
  ·cases hx
theorem natV_zero(k:IntKind)(c:Nat):natV (.int k 0) c=some 0:=natV_of (x:=0) (Nat.zero_le c)
theorem agetS_ok:∀ {l:List (Nat×List Value)}{k:Nat}{cs:List Value},sliceS.aget l k=some cs→(k,cs)∈l
 | [],k,cs,hx=>by simp[sliceS.aget] at hx
 | x :: l,k,cs,hx=>by
   simp only[sliceS.aget,biE,beqT] at hx;split at hx
   ·rename_i e;cases hx;subst e;exact mcS ..
   ·exact mcM _ (agetS_ok hx)
theorem strsS_ok:∀ {l:List Value},sliceS.strs l=true→∀ i x,nth l i=some x→∃ z,x= .string z∧z.size≤16000000
 | [],_,i,x,hx=>by simp[nth] at hx
 | v :: l,hs,i,x,hx=>by
   unfold sliceS.strs at hs;split at hs
   ·rename_i e;cases e
   ·rename_i z l' e;cases e;rw[baT,bleT] at hs;cases i with
    | zero=>simp[nth] at hx;subst hx;exact⟨z,rfl,hs.1⟩
    | succ i=>exact strsS_ok hs.2 i x hx
   ·cases hs
theorem strQ_ok:∀ {l:List (List CT)}{k q:Nat},sliceS.strQ l k=some q→k≤q∧nth l (q-k)=some [.str]
 | [],k,q,hx=>by simp[sliceS.strQ] at hx
 | c :: l,k,q,hx=>by
   by_cases hc:c=[.str]
   ·subst hc;have:sliceS.strQ ([.str] :: l) k=some k:=rfl;rw[this] at hx;cases hx;refine⟨nlR _,?_⟩;rw[Nat.sub_self];rfl
   ·have:sliceS.strQ (c :: l) k=sliceS.strQ l (k+1):=by
     cases c with
     | nil=>rfl
     | cons a m=>cases a<;>cases m<;>first|rfl|exact absurd rfl hc
    rw[this] at hx;obtain⟨h1,h2⟩:=strQ_ok hx;refine⟨by omega,?_⟩;have:q-k=(q-(k+1))+1:=by omega
    rw[this];exact h2
theorem sum0:∀ n,sumF (fun _=>0) n=0
 | 0=>rfl
 | n+1=>by simp[sumF,sum0 n]
theorem sliceS_ok(g:Ga C R F h0 n0 s ν β t h n){ty:TypeId}{x:SV}{lo hi mx:Option SV}{r:SV×S}(hr:sliceS C s ty x lo hi mx=some r){v:Value}(hv:V ν β x v){lov hiv mxv:Option Value}(hlo:OV ν β lo lov)(hhi:OV ν β hi hiv)(hmx:OV ν β mx mxv) :
 ∃ w,(match v with| .pointer _=>sliceArrA C.E ty v lov hiv mxv|_=>sliceA C.E ty v lov hiv mxv)=some w∧Pv C R F h0 n0 ν β t h n r w:=by
 unfold sliceS at hr;split at hr
 ·rename_i ti hti;split at hr
  ·rename_i et a len low sz k e hd;split at hr
   ·rename_i j hj;rw[biE] at hr;split at hr
    ·rename_i hc;cases hr;simp only[baT,beqT] at hc;obtain⟨⟨rfl,c1⟩,c2⟩:=hc;rcases hlo with⟨_,rfl⟩|⟨_,_,h1,_⟩
     ·rcases hmx with⟨_,rfl⟩|⟨_,_,h1,_⟩
      ·rcases hhi with⟨h1,_⟩|⟨y,w,h1,rfl,hw⟩
       ·cases h1
       ·cases h1;cases hw with
        | i k1 k2 k3 =>
          rename_i z;have hz:=g.ie c1 (evI_ieC 0) k1;obtain⟨z,rfl⟩:=Int.eq_ofNat_of_zero_le hz;cases hv with
          | osn m1 m2 m3 m4 =>
            have:=g.ie c2 k1 m3;have hz0:z=0:=by omega
            subst hz0;refine⟨.slice none 0 0,?_,.same g (.osn m1 k1 m3 m4)⟩;simp only[sliceA,hti,hd,hj,boundsA,boundsA.low];have:natV (.int k ((0:Nat):Int)) (lowCap 0)=some 0:=natV_of (Nat.zero_le _);simp only[this];rfl
          | os m1 m2 m3 m4 m5 m6 m7 =>
            rename_i b L W c;have hle:=g.ie c2 k1 m3;have hlow:=unk_low m5 m6;have h1:natV (.int k (z:Int)) (lowCap c)=some z:=natV_of (by rw[hlow];omega);refine⟨.slice (some ⟨b,0,none⟩) z c,?_,.same g (.os m1 k1 m3 (by omega) m5 m6 m7)⟩;simp only[sliceA,hti,hd,hj,boundsA,boundsA.low,h1];rcases m6 with m6|m6
            ·have h3:unkCap c=true:=by
              unfold unkCap;rw[bleT,m6];exact Nat.le_trans (Nat.le_mul_of_pos_right UNK m7) (Nat.le_add_right _ _)
             have h4:Nat.beq (c / UNK) j.size=true:=by rw[beqT,m6,Nat.mul_add_div (by unfold UNK;omega),Nat.div_eq_of_lt (by unfold UNK;omega),Nat.add_zero]
             simp only[h3,h4,_root_.cond_true];simp
            ·have h3:unkCap c=false:=by
              unfold unkCap;cases hb:Nat.ble UNK c with
              | false=>rfl
              | true=>rw[bleT,m6] at hb;unfold UNK at hb;omega
             simp only[h3,_root_.cond_false,hlow];by_cases hW:W=0
             ·subst hW;simp only[Nat.beq_refl,_root_.cond_true];rw[m6];simp
             ·have h5:Nat.beq W 0=false:=by cases hb:Nat.beq W 0 with
               | false=>rfl
               | true=>rw[beqT] at hb;exact absurd hb hW
              simp only[h5,_root_.cond_false];rw[m6];simp
      ·cases h1
     ·cases h1
    ·cases hr
   ·cases hr
  ·rename_i et hd;split at hr
   ·rename_i j hj;rw[biE] at hr;split at hr
    ·rename_i hc;cases hr;simp only[baT,Bool.not_eq_true',Bool.and_eq_false_iff] at hc;obtain⟨⟨⟨c1,c2⟩,c3⟩,c4⟩:=hc;cases hv;refine⟨.slice none 0 0,?_,.same g (.lit rfl)⟩;have hb:boundsA 0 (lowCap 0) lov hiv mxv=some (0,0,0):=by
      have hl0:lowCap 0=0:=rfl;rw[hl0];rcases zeroO_ok c1 hlo with rfl|⟨k1,rfl⟩<;>rcases zeroO_ok c2 hhi with rfl|⟨k2,rfl⟩<;>rcases zeroO_ok c3 hmx with rfl|⟨k3,rfl⟩<;>simp only[boundsA,boundsA.low,natV_zero]
      ·exfalso;rcases hhi with⟨rfl,_⟩|⟨_,_,_,h1,_⟩
       ·rcases hmx with⟨_,h1⟩|⟨_,_,rfl,_⟩
        ·cases h1
        ·rcases c4 with c4|c4<;>simp at c4
       ·cases h1
      ·exfalso;rcases hhi with⟨rfl,_⟩|⟨_,_,_,h1,_⟩
       ·rcases hmx with⟨_,h1⟩|⟨_,_,rfl,_⟩
        ·cases h1
        ·rcases c4 with c4|c4<;>simp at c4
       ·cases h1
     simp only[sliceA,hti,hd,hj,hb];rfl
    ·cases hr
   ·cases hr
  ·rename_i m et k ik e hd;split at hr
   ·rename_i j z cs hj hz hcs;rw[biE] at hr;split at hr
    ·rename_i hc;split at hr
     ·rename_i q hq;cases hr;simp only[baT,beqT,bltT,bleT] at hc;obtain⟨⟨⟨⟨⟨⟨c1,c2⟩,c3⟩,c4⟩,c5⟩,c6⟩,c7⟩:=hc;obtain⟨_,hq⟩:=strQ_ok hq;rw[Nat.sub_zero] at hq;have hmem:=agetS_ok hcs;have hget:=g.gr _ hmem;rcases hlo with⟨_,rfl⟩|⟨_,_,h1,_⟩
      ·rcases hmx with⟨_,rfl⟩|⟨_,_,h1,_⟩
       ·rcases hhi with⟨h1,_⟩|⟨y,w,h1,rfl,hw⟩
        ·cases h1
        ·cases h1;cases hw with
         | i k1 k2 k3 =>
           have:=evI_inj k1 (ieN_ok hz);subst this;cases hv;have h1:natV (.int ik (z:Int)) m=some z:=natV_of (by omega);have hval:sliceArrA C.E ty (.pointer (some ⟨k,0,none⟩)) none (some (.int ik (z:Int))) none=some (.slice (some ⟨k,0,none⟩) z m):=by
            have h2:Nat.ble UNK m=false:=by cases hb:Nat.ble UNK m with
             | false=>rfl
             | true=>rw[bleT] at hb;omega
            have h3:Nat.beq m 0=false:=by cases hb:Nat.beq m 0 with
             | false=>rfl
             | true=>rw[beqT] at hb;omega
            simp only[sliceArrA,hti,hd,hj,boundsA,boundsA.low,h1,h2,h3,_root_.cond_false];simp
           have hD:D C.Γ C.lim h z (.sl q) (.slice (some ⟨k,0,none⟩) z m):=by
            refine .sl (cts:=[.str]) (fun _=>0) hget hq (by simp) (by simpa using c6) (by rw[sum0];omega) c5 fun i x ct hi hx hct=>?_
            rw[Nat.zero_add] at hx;obtain⟨y,rfl,hy⟩:=strsS_ok c4 i x hx;simp only[List.length_cons,List.length_nil,Nat.zero_add,Nat.mod_one] at hct;simp[nth] at hct;subst hct;exact .str hy
           obtain⟨g',hat⟩:=g.name (N:= .sl q .top) (v:= .slice (some ⟨k,0,none⟩) z m) ⟨z,trivial,hD⟩;have hln:evI (ν ++ [.slice (some ⟨k,0,none⟩) z m]) ⟨.ln s.ty.length,0⟩=some (z:Int):=by simp only[evI,evB,hat,Int.add_zero]
           exact⟨_,hval,_,Ext.name _ _ _,(g'.fact ⟨_,_,evI_ieC _,hln,Int.le_refl _⟩).fact ⟨_,_,hln,evI_ieC _,Int.le_refl _⟩,.ds hat⟩
       ·cases h1
      ·cases h1
     ·cases hr
    ·cases hr
   ·cases hr
  ·cases hr
 ·cases hr
theorem fitS_ok{kk:KK}{x:SV}(hx:fitS C s kk x=true){v:Value}(hv:V ν β x v):fitKK kk v=true:=by
 unfold fitS at hx;split at hx
 ·cases hv;rfl
 ·obtain⟨z,rfl,_⟩:=isStr_ok hx hv;rfl
 ·cases hv with
  | agg hl=>exact ctB_ok hx hl
 ·cases hx
theorem intK_ok{kt:TypeId}{x:SV}(hx:lookupS.intK C kt x=true){kk:KK}(hf:fitS C s kk x=true){v:Value}(hv:V ν β x v):fitK1 C.E kt v=true:=by
 cases v with
 | int j y =>
   have:∃ e,x= .i j e:=by
    unfold fitS at hf;split at hf
    ·cases hv;exact⟨_,rfl⟩
    ·obtain⟨z,hz,_⟩:=isStr_ok hf hv;cases hz
    ·cases hv
    ·cases hf
   obtain⟨e,rfl⟩:=this;unfold lookupS.intK at hx;unfold fitK1;cases hi:C.E.ty.get kt with
   | none=>rfl
   | some i=>rw[hi] at hx;exact hx
 | _ =>
   unfold fitK1;cases hi:C.E.ty.get kt<;>rfl
theorem eqKK_some{E:Env}{kt:TypeId}{kk:KK}(hk:kkOf E kt=some kk){a b:Value}(ha:fitKK kk a=true)(hb:fitKK kk b=true)(ha1:fitK1 E kt a=true)(hb1:fitK1 E kt b=true):∃ r,eqKK kk a b=some r:=by
 unfold kkOf at hk;split at hk
 ·rename_i i hi;cases kk with
  | str =>
    cases a<;>simp[fitKK] at ha;cases b<;>simp[fitKK] at hb;exact⟨_,rfl⟩
  | flat ks =>
    cases a<;>simp[fitKK] at ha;cases b<;>simp[fitKK] at hb;exact⟨_,by simp only[eqKK,eqFlat,ha,hb,Bool.and_self,_root_.cond_true];rfl⟩
  | int =>
    cases a<;>simp[fitKK] at ha;cases b<;>simp[fitKK] at hb;simp only[fitK1,hi] at ha1 hb1;split at ha1
    ·rename_i j' hj;simp only[hj] at hb1;have e1:=kindB_eq ha1;have e2:=kindB_eq hb1;subst e1;subst e2;exact⟨_,by simp only[eqKK,kindEq_rfl,_root_.cond_true];rfl⟩
    ·cases ha1
 ·cases hk
theorem findA_some{E:Env}{kt:TypeId}{kk:KK}(hk:kkOf E kt=some kk){k:Value}(hf:fitKK kk k=true)(h1:fitK1 E kt k=true):∀ {es:List (Value×Value)},(∀ e∈es,fitKK kk e.1=true∧fitK1 E kt e.1=true)→∃ r,findA kk k es=some r∧(r=none∨∃ e∈es,r=some e.2)
 | [],_=>⟨none,rfl,.inl rfl⟩
 | e :: es,he=>by
   obtain⟨r,h2,h3⟩:=findA_some hk hf h1 (es:=es) fun e h'=>he e (mcM _ h')
   obtain⟨h4,h5⟩:=he e (mcS ..);obtain⟨b,hb⟩:=eqKK_some hk hf h4 h1 h5;simp only[findA,h2,hb];cases b with
   | true=>exact⟨_,rfl,.inr ⟨e,mcS ..,rfl⟩⟩
   | false =>
     refine⟨r,rfl,?_⟩;rcases h3 with h3|⟨e',h6,h7⟩
     ·exact .inl h3
     ·exact .inr ⟨e',mcM _ h6,h7⟩
theorem zct_ok{ct:CT}{j:TyI}(hx:lookupS.zct ct j=true):isAgg j.d=false∧D C.Γ C.lim h 0 ct (j.zero.headD .nilIface)∧∀ q,ct≠ .sl q:=by
 unfold lookupS.zct at hx;cases ha:isAgg j.d with
 | true=>simp[ha] at hx
 | false =>
   rw[ha] at hx;refine⟨rfl,?_⟩;cases hz:j.zero with
   | nil=>simp[hz] at hx
   | cons v l =>
     cases l with
     | cons _ _=>rw[hz] at hx;cases v<;>simp at hx
     | nil =>
       rw[hz] at hx;cases v<;>cases ct<;>simp at hx
       ·exact⟨.bool _,fun q e=>by cases e⟩
       ·have:=kindB_eq hx.1;subst this;have h2:=inK_iff.1 hx.2;exact⟨.int h2.1 h2.2,fun q e=>by cases e⟩
       ·exact⟨.str hx,fun q e=>by cases e⟩
theorem DR.of0{rk:RK}{ct:CT}{v:Value}(hq:∀ q,ct≠ .sl q)(hd:D C.Γ C.lim h 0 ct v):DR C R h rk ct v:=by
 cases ct with
 | sl q=>exact absurd rfl (hq q)
 | int k=>exact hd
 | bool=>exact hd
 | str=>exact hd
theorem lookupS_ok(g:Ga C R F h0 n0 s ν β t h n)(hlim:C.lim≤16000000){mt:TypeId}{m k:SV}{ok:Bool}{r:SV×S}(hr:lookupS C s mt m k ok=some r){mv kv:Value}(hm:V ν β m mv)(hk:V ν β k kv):∃ w,lookupA C.E mt mv kv ok h=some w∧Pv C R F h0 n0 ν β t h n r w:=by
 unfold lookupS at hr;split at hr
 ·rename_i i b hi;split at hr
  ·rename_i kt et kt' ct hd hb;split at hr
   ·rename_i kk j hkk hj;rw[biE] at hr;split at hr
    ·rename_i hc;simp only[baT,beqT] at hc;obtain⟨⟨⟨⟨rfl,c1⟩,c2⟩,c3⟩,c4⟩:=hc;obtain⟨z1,z2,z3⟩:=zct_ok (C:=C) (h:=h) c3;obtain⟨o,h1,h2⟩:=g.hp b _ hb;cases hm with
     | m hbm =>
       rename_i bb;rw[hbm] at h1;cases h1;obtain⟨es,kk',h3,h4,h5⟩:=h2;rw[hkk] at h4;cases h4;have hf:=fitS_ok c1 hk;have hf1:=intK_ok c4 c1 hk;obtain⟨fr,h6,h7⟩:=findA_some hkk hf hf1 fun e he=>⟨(h5 e he).1,(h5 e he).2.1⟩
       have hval:∃ w,D C.Γ C.lim h 0 ct w∧∃ b,lookupA C.E mt (.map (some bb)) kv ok h=some (bif ok then .tuple #[w,.bool b] else w):=by
        unfold lookupA;simp only[hi,hd,hkk,hf,_root_.cond_true,h3,h6];rcases h7 with rfl|⟨e,he,rfl⟩
        ·simp only[hj,c2,_root_.cond_true,z1,_root_.cond_false];exact⟨_,z2,false,rfl⟩
        ·exact⟨_,(h5 e he).2.2,true,rfl⟩
       obtain⟨w,hw,b,hwb⟩:=hval;obtain⟨ν1,e1,g1,v1⟩:=freshC_ok (rk:= .top) g hlim (DR.of0 z3 hw);refine⟨_,hwb,?_⟩;rw[biE] at hr;split at hr
       ·rename_i hok;cases hr;obtain⟨ν2,e2,g2,v2⟩:=freshC_ok (rk:= .top) (ct:= .bool) g1 hlim (v:= .bool b) (D.bool b);refine⟨ν2,e1.trans e2,g2,?_⟩;rw[hok];exact .tup (.cons (v1.ext e2) (.cons v2 .nil))
       ·rename_i hok;cases hr;rw[Bool.not_eq_true] at hok;rw[hok];exact⟨ν1,e1,g1,v1⟩
    ·cases hr
   ·cases hr
  ·cases hr
 ·rename_i i hi;split at hr
  ·rename_i kt et hd;split at hr
   ·rename_i kk j ct hkk hj hct;rw[biE] at hr;split at hr
    ·rename_i hc;simp only[baT] at hc;obtain⟨⟨c1,c2⟩,c3⟩:=hc;obtain⟨z1,z2,z3⟩:=zct_ok (C:=C) (h:=h) c3;cases hm;have hf:=fitS_ok c1 hk;have hwb:lookupA C.E mt (.map none) kv ok h=some (bif ok then .tuple #[j.zero.headD .nilIface,.bool false] else j.zero.headD .nilIface):=by
      unfold lookupA;simp only[hi,hd,hkk,hf,_root_.cond_true,hj,c2,z1,_root_.cond_false]
     obtain⟨ν1,e1,g1,v1⟩:=freshC_ok (rk:= .top) g hlim (DR.of0 z3 z2);refine⟨_,hwb,?_⟩;rw[biE] at hr;split at hr
     ·rename_i hok;cases hr;obtain⟨ν2,e2,g2,v2⟩:=freshC_ok (rk:= .top) (ct:= .bool) g1 hlim (v:= .bool false) (D.bool false);refine⟨ν2,e1.trans e2,g2,?_⟩;rw[hok];exact .tup (.cons (v1.ext e2) (.cons v2 .nil))
     ·rename_i hok;cases hr;rw[Bool.not_eq_true] at hok;rw[hok];exact⟨ν1,e1,g1,v1⟩
    ·cases hr
   ·cases hr
  ·cases hr
 ·cases hr
theorem putKey_mem{kk:KK}{k v:Value}:∀ {es:List (Value×Value)}{e:Value×Value},e∈putKey kk k v es→(e.1=k∧e.2=v)∨(∃ e'∈es,e.1=e'.1)∧(e.2=v∨e∈es)
 | [],e,he=>by simp only[putKey,List.mem_cons,List.not_mem_nil,or_false] at he;subst he;exact .inl ⟨rfl,rfl⟩
 | x :: es,e,he=>by
   unfold putKey at he;split at he
   ·rcases List.mem_cons.1 he with rfl|he
    ·exact .inr ⟨⟨x,mcS ..,rfl⟩,.inl rfl⟩
    ·exact .inr ⟨⟨e,mcM _ he,rfl⟩,.inr (mcM _ he)⟩
   ·rcases List.mem_cons.1 he with rfl|he
    ·exact .inr ⟨⟨e,mcS ..,rfl⟩,.inr (mcS ..)⟩
    ·rcases putKey_mem he with h1|⟨⟨e',h1,h2⟩,h3⟩
     ·exact .inl h1
     ·refine .inr ⟨⟨e',mcM _ h1,h2⟩,?_⟩;rcases h3 with h3|h3
      ·exact .inl h3
      ·exact .inr (mcM _ h3)
theorem mapPutS_ok(g:Ga C R F h0 n0 s ν β t h n){mt:TypeId}{m k x:SV}{s':S}(hr:mapPutS C s mt m k x=some s'){mv kv xv:Value}(hm:V ν β m mv)(hk:V ν β k kv)(hx:V ν β x xv):∃ h',mapPutA C.E mt mv kv xv h=some h'∧Ga C R F h0 n0 s' ν β t h' n:=by
 unfold mapPutS at hr;split at hr
 ·rename_i i b hi;split at hr
  ·rename_i kt et kt' ct hd hb;split at hr
   ·rename_i kk hkk;rw[biE] at hr;split at hr
    ·rename_i hc;cases hr;simp only[baT,beqT] at hc;obtain⟨⟨⟨⟨rfl,c1⟩,c4⟩,c3⟩,c2⟩:=hc;obtain⟨o,h1,h2⟩:=g.hp b _ hb;cases hm with
     | m hbm =>
       rename_i bb;rw[hbm] at h1;cases h1;obtain⟨es,kk',h3,h4,h5⟩:=h2;rw[hkk] at h4;cases h4;have hf:=fitS_ok c1 hk;have hf1:=intK_ok c4 c1 hk;obtain⟨fr,h6,h7⟩:=findA_some hkk hf hf1 fun e he=>⟨(h5 e he).1,(h5 e he).2.1⟩
       have hxd:D C.Γ C.lim h 0 ct xv:=by
        have:=svCT_ok g c2 hx;cases ct with
        | sl q=>cases c3
        | int k=>exact this
        | bool=>exact this
        | str=>exact this
       have hro:∀ d c,h.get d=some (.ro c)→(h.upd (some (.map (putKey kk kv xv es))) bb).get d=some (.ro c):=fun d c hd=>by
        rw[T.gnE]
        ·exact hd
        ·intro e;subst e;rw[h3] at hd;cases hd
       refine⟨h.upd (some (.map (putKey kk kv xv es))) bb,?_,?_⟩
       ·unfold mapPutA;simp only[hi,hd,hkk,hf,_root_.cond_true,h3,h6]
       ·have g1:=g.upd (a':= .map kt ct) (k:= .map (putKey kk kv xv es)) hb hbm ⟨_,kk,T.gsE _ _ _,hkk,fun e he=>?_⟩
        ·exact {tm:=g1.tm,nt:=g1.nt,nl:=g1.nl,bl:=g1.bl,bb:=g1.bb,ft:=g1.ft,fr:=g1.fr,gr:=g1.gr,nn:=g1.nn,rk:=g1.rk,rvk:=g1.rvk,ro:=g1.ro
                hp:=fun k a' hk=>g1.hp k a' (by simp only[S.setB];rw[get1_put];split<;>simp_all)
                nd:=fun k k' a1 a2 d hk hk'=>g1.nd k k' a1 a2 d (by simp only[S.setB];rw[get1_put];split<;>simp_all) (by simp only[S.setB];rw[get1_put];split<;>simp_all)
                pr:=fun d hd=>⟨(g1.pr d hd).1,(g1.pr d hd).2.1,fun k a' hk=>(g1.pr d hd).2.2 k a' (by simp only[S.setB];rw[get1_put];split<;>simp_all)⟩}
        ·rcases putKey_mem he with⟨e1,e2⟩|⟨⟨e',e1,e2⟩,e3⟩
         ·rw[e1,e2];exact⟨hf,hf1,hxd.mono hro⟩
         ·rw[e2];refine⟨(h5 e' e1).1,(h5 e' e1).2.1,?_⟩;rcases e3 with e3|e3
          ·rw[e3];exact hxd.mono hro
          ·exact(h5 e e3).2.2.mono hro
    ·cases hr
   ·cases hr
  ·cases hr
 ·cases hr
theorem iteP{α:Type}{P:α→Prop}{c:Prop} [Decidable c] {a b:α}(h1:c→P a)(h2:¬ c→P b):P (if c then a else b):=by
 split
 ·exact h1 ‹_›
 ·exact h2 ‹_›
def RuneOK(r:Nat×Nat):Prop:=r.1≤1114111∧1≤r.2∧r.2≤4
theorem RuneOK.of{a b:Nat}(h:a≤1114111∧1≤b∧b≤4):RuneOK (a,b):=h
theorem decode_ok(z:ByteArray)(i:Nat):RuneOK (Utf8.decode z i):=by
 have he:Utf8.runeError=65533:=rfl;unfold Utf8.decode;dsimp only;refine iteP (fun h=> .of (by omega)) fun _=>iteP (fun _=>iteP (fun _=> .of (by omega)) fun _=> .of (by omega)) fun _=>iteP (fun _=>iteP (fun _=> .of (by omega)) fun _=> .of (by omega)) fun _ =>
  iteP (fun _=>iteP (fun hv=> .of ?_) fun _=> .of (by omega)) fun _=> .of (by omega)
 rw[baT] at hv;have h1:=hv.2;unfold Utf8.valid at h1;rw[Bool.or_eq_true,baT,baT,decide_eq_true_eq,decide_eq_true_eq,decide_eq_true_eq,decide_eq_true_eq] at h1;omega
theorem nextS_ok(g:Ga C R F h0 n0 s ν β t h n){x:SV}{l:List (SV×S)}(hr:nextS s x=some l){v:Value}(hv:V ν β x v) :
 ∃ b z pos,v= .pointer (some ⟨b,0,none⟩)∧h.get b=some (.iter z pos) ∧
   ((nth z.data.toList pos=none∧∃ p∈l,Ga C R F h0 n0 p.2 ν β t h n∧V ν β p.1 (.tuple #[.bool false])) ∨
    (∀ k:Nat,k≤1114111→∀ d,1≤d→d≤4→(∃ c,nth z.data.toList pos=some c)∧∃ p∈l,∃ ν',Ext ν β ν' β∧Ga C R F h0 n0 p.2 ν' β t (h.upd (some (.iter z (pos+d))) b) n∧V ν' β p.1 (.tuple #[.bool true,.int .i64 (pos:Int),.int .i32 (k:Int)]))):=by
 unfold nextS at hr;split at hr
 ·rename_i b';cases hv with
  | p hb =>
    rename_i b;split at hr
    ·rename_i j e hj;rw[biE] at hr;split at hr
     ·rename_i hc;cases hr;rw[baT] at hc;obtain⟨o,h1,h2⟩:=g.hp b' _ hj;rw[hb] at h1;cases h1;obtain⟨z,pos,h3,h4,h5⟩:=h2;refine⟨b,z,pos,rfl,h5,?_⟩;have hpos:=g.ie hc.2 h4 (evI_ieC _);cases hn:nth z.data.toList pos with
      | none=>exact .inl ⟨rfl,_,mcS ..,g,.tup (.cons (.b _) .nil)⟩
      | some c =>
        right;intro k hk d hd1 hd4;refine⟨⟨c,rfl⟩,_,mcM _ (mcS ..),?_⟩;obtain⟨g1,a1⟩:=g.name (N:= .int .i32) (v:= .int .i32 (k:Int)) ⟨_,rfl,by show(-2147483648:Int)≤_;omega,by show _≤(2147483647:Int);omega⟩;obtain⟨g2,a2⟩:=g1.name (N:= .int .i64) (v:= .int .i64 ((pos+d:Nat):Int)) ⟨_,rfl,by show(-9223372036854775808:Int)≤_;omega,by show _≤(9223372036854775807:Int);omega⟩;have e1:=Ext.name ν β (.int .i32 (k:Int));have e2:=Ext.name (ν ++ [.int .i32 (k:Int)]) β (.int .i64 ((pos+d:Nat):Int));have hty:(s.name (.int .i32)).ty.length=s.ty.length+1:=by simp[S.name]
        rw[hty] at a2;have hk':evI (ν ++ [.int .i32 (k:Int)] ++ [.int .i64 ((pos+d:Nat):Int)]) ⟨.v s.ty.length,0⟩=some (k:Int):=by simp only[evI,evB,e2.at a1,Int.add_zero]
        have hp':evI (ν ++ [.int .i32 (k:Int)] ++ [.int .i64 ((pos+d:Nat):Int)]) ⟨.v (s.ty.length+1),0⟩=some ((pos+d:Nat):Int):=by simp only[evI,evB,a2,Int.add_zero]
        have e12:=e1.trans e2;have h4':=e12.nu h4;have hlt:pos<z.size:=by rw[nth_eq] at hn;have:=(gsI hn).1;rw[Array.length_toList] at this;exact this
        have hz':evI (ν ++ [.int .i32 (k:Int)] ++ [.int .i64 ((pos+d:Nat):Int)]) ⟨.ln j,0⟩=some (z.size:Int):=by simp only[evI,evB,e12.at h3,Int.add_zero]
        have g3:=((g2.fact (a:=e.up 1) (b:=⟨.v (s.ty.length+1),0⟩) ⟨_,_,evI_up 1 h4',hp',by omega⟩).fact (a:=⟨.v (s.ty.length+1),0⟩) (b:=e.up 4) ⟨_,_,hp',evI_up 4 h4',by omega⟩).fact (a:=e.up 1) (b:=⟨.ln j,0⟩) ⟨_,_,evI_up 1 h4',hz',by omega⟩;have g4:=g3.upd (i:=b') (a':= .iter j ⟨.v (s.ty.length+1),0⟩) (k:= .iter z (pos+d)) hj hb ⟨z,pos+d,e12.at h3,hp',T.gsE _ _ _⟩;refine⟨_,e12,g4,?_⟩;exact .tup (.cons (.b _) (.cons (.i h4' (by show(-9223372036854775808:Int)≤_;omega) (by show _≤(9223372036854775807:Int);omega)) (.cons (.i hk' (by show(-2147483648:Int)≤_;omega) (by show _≤(2147483647:Int);omega)) .nil)))
     ·cases hr
    ·cases hr
 ·cases hr
end
def Step1(E:Env)(t:T Value)(h:T Blk)(n:Nat)(o:Oper)(v:Value)(h':T Blk)(n':Nat):Prop :=
 opA E t h n o= .val v h' n'∨(opA E t h n o= .skip h' n'∧v=undefV)∨∃ f args,opA E t h n o= .enter f args∧Cl E f args h n (.ret v h' n')
def CallOK(C:Cfg)(R:Nat)(F:Nat→Prop)(h0:T Blk)(n0:Nat)(callr:CallS):Prop :=
 ∀ s ν β t h n f args outs vs,callr s f args=some outs→Ga C R F h0 n0 s ν β t h n→VL ν β args vs →
   ∃ v h' n',Cl C.E f vs h n (.ret v h' n')∧∃ p∈outs,∃ ν' β',Ext ν β ν' β'∧Ga C R F h0 n0 p.2 ν' β' t h' n'∧V ν' β' p.1 v
section
variable {C:Cfg}{R:Nat}{F:Nat→Prop}{h0:T Blk}{n0:Nat}{s:S}{ν:List Value}{β:List (Option Nat)}{t:T Value}{h:T Blk}{n:Nat}
def Out1(C:Cfg)(R:Nat)(F:Nat→Prop)(h0:T Blk)(n0:Nat)(ν:List Value)(β:List (Option Nat))(t:T Value)(outs:List (SV×S))(v:Value)(h':T Blk)(n':Nat):Prop :=
 ∃ p∈outs,∃ ν' β',Ext ν β ν' β'∧Ga C R F h0 n0 p.2 ν' β' t h' n'∧V ν' β' p.1 v
theorem Pv.out{r:SV×S}{v:Value}(hp:Pv C R F h0 n0 ν β t h n r v):Out1 C R F h0 n0 ν β t [r] v h n:=by obtain⟨ν',h1,h2,h3⟩:=hp;exact⟨r,mcS ..,ν',β,h1,h2,h3⟩
theorem Out1.same(g:Ga C R F h0 n0 s ν β t h n){x:SV}{v:Value}(hv:V ν β x v):Out1 C R F h0 n0 ν β t [(x,s)] v h n:=(Pv.same g hv).out
theorem VL.app2{a b c:List SV}{x y z:List Value}(h1:VL ν β a x)(h2:VL ν β b y)(h3:VL ν β c z):VL ν β (a ++ b ++ c) (x ++ y ++ z):=(h1.append h2).append h3
theorem lenS_ok(g:Ga C R F h0 n0 s ν β t h n)(hlim:C.lim≤16000000){ty:TypeId}{x:SV}{e:IE}(hx:lenS C ty x=some e){v:Value}(hv:V ν β x v)(htn:∀ j,x= .ds j→∃ q rk,nth s.ty j=some (.sl q rk)):∃ k:Nat,lenA C.E ty v=some k∧evI ν e=some (k:Int)∧k≤1000000000:=by
 unfold lenS at hx;split at hx
 ·rename_i i hi;unfold lenA;simp only[hi];split at hx
  ·rename_i j hd;cases hx;cases hv with
   | sn h1 h2 =>
     rename_i z;simp only[hd];exact⟨_,rfl,by simp only[evI,evB,h1,Int.add_zero],by omega⟩
  ·rename_i z hd;rw[biE] at hx;split at hx
   ·rename_i hz;cases hx;cases hv;rw[bleT] at hz;simp only[hd];exact⟨_,rfl,evI_ieC _,by omega⟩
   ·cases hx
  ·rename_i j hd;cases hx;cases hv with
   | ds h1 =>
     rename_i a l c;simp only[hd];refine⟨l,rfl,by simp only[evI,evB,h1,Int.add_zero],?_⟩;obtain⟨q,rk,hq⟩:=htn j rfl;obtain⟨w,h2,r,h3,h4⟩:=g.nt j _ hq;rw[h1] at h2;cases h2;cases h4 with
     | nil=>omega
     | sl _ _ _ _ _ hs hl _=>omega
  ·rename_i hd;cases hx;cases hv with
   | os h1 h2 h3 h4 h5 h6=>simp only[hd];exact⟨_,rfl,h2,by omega⟩
   | osn h1 h2 h3 h4=>simp only[hd];exact⟨0,rfl,h2,by omega⟩
  ·rename_i hd;cases hx;cases hv;simp only[hd];exact⟨0,rfl,evI_ieC 0,by omega⟩
  ·cases hx
 ·cases hx
theorem int64_rng{k:Nat}(hk:k≤1000000000):IntKind.i64.min≤(k:Int)∧(k:Int)≤IntKind.i64.max:=by
 constructor
 ·show(-9223372036854775808:Int)≤_;omega
 ·show _≤(9223372036854775807:Int);omega
theorem maxS_ok(g:Ga C R F h0 n0 s ν β t h n){big:Bool}{l:List SV}{r:SV×S}(hr:maxS C s big l=some r){vs:List Value}(hv:VL ν β l vs):∃ w,maxA big vs=some w∧Pv C R F h0 n0 ν β t h n r w:=by
 unfold maxS at hr;split at hr
 ·rename_i j a k b;rw[biE] at hr;split at hr
  ·rename_i hk;have:=kindB_eq hk;subst this;cases hv with
   | cons h1 hl=>cases hl with
     | cons h2 hl=>cases hl with
       | nil =>
         cases h1 with
         | i a1 a2 a3=>cases h2 with
           | i b1 b2 b3 =>
             rename_i x y;simp only[maxA,kindEq_rfl,_root_.cond_true];refine⟨_,rfl,?_⟩;rw[biE] at hr;cases big with
             | true =>
               simp only[if_true,Option.some.injEq] at hr;subst hr;simp only[_root_.cond_true];rw[biE];refine boundI_ok g ?_ ?_ (fun e he=>?_) (fun e he=>by cases he)
               ·split<;>assumption
               ·split<;>assumption
               ·simp only[List.mem_cons,List.not_mem_nil,or_false] at he;rcases he with rfl|rfl
                ·exact⟨_,a1,by split<;>simp_all<;>omega⟩
                ·exact⟨_,b1,by split<;>simp_all<;>omega⟩
             | false =>
               simp only[Bool.false_eq_true,if_false,Option.some.injEq] at hr;subst hr;simp only[_root_.cond_false];rw[biE];refine boundI_ok g ?_ ?_ (fun e he=>by cases he) (fun e he=>?_)
               ·split<;>assumption
               ·split<;>assumption
               ·simp only[List.mem_cons,List.not_mem_nil,or_false] at he;rcases he with rfl|rfl
                ·exact⟨_,a1,by split<;>simp_all<;>omega⟩
                ·exact⟨_,b1,by split<;>simp_all<;>omega⟩
  ·cases hr
 ·cases hr
theorem biS_ok(g:Ga C R F h0 n0 s ν β t h n)(hlim:C.lim≤16000000){b:Builtin}{ats:List TypeId}{l:List SV}{r:SV×S}(hr:biS C s b ats l=some r){vs:List Value}(hv:VL ν β l vs):∃ w h' n',builtinA C.E b ats vs h n= .val w h' n'∧Out1 C R F h0 n0 ν β t [r] w h' n':=by
 unfold biS at hr;split at hr
 ·rename_i st _ x;split at hr
  ·rename_i e he;cases hr;cases hv with
   | cons h1 hl=>cases hl with
     | nil =>
       have htn:∀ j,x= .ds j→∃ q rk,nth s.ty j=some (.sl q rk):=by
        intro j e;subst e;cases h1 with
        | ds hj =>
          have hlt:j<s.ty.length:=by rw[←g.nl];exact(gsI hj).1
          obtain⟨T,hT⟩:∃ T,nth s.ty j=some T:=⟨s.ty[j],by rw[nth_eq,ggE hlt]⟩
          obtain⟨w,h2,h3⟩:=g.nt j T hT;rw[hj] at h2;cases h2;cases T with
          | sl q rk=>exact⟨q,rk,hT⟩
          | int k=>obtain⟨_,h4,_⟩:=h3;cases h4
          | bool=>obtain⟨_,h4⟩:=h3;cases h4
          | str=>obtain⟨_,h4,_⟩:=h3;cases h4
       obtain⟨k,k1,k2,k3⟩:=lenS_ok g hlim he h1 htn;refine⟨_,h,n,by simp only[builtinA,k1,val?],.same g (.i k2 (int64_rng k3).1 (int64_rng k3).2)⟩
  ·cases hr
 ·rename_i st _ x;split at hr
  ·rename_i e he;cases hr;cases hv with
   | cons h1 hl=>cases hl with
     | nil =>
       unfold capS at he;split at he
       ·rename_i i hi;split at he
        ·rename_i hd;cases he;cases h1;refine⟨.int .i64 0,h,n,?_,.same g (.i (evI_ieC 0) (by show(-9223372036854775808:Int)≤_;omega) (by show _≤(9223372036854775807:Int);omega))⟩;have:capA C.E st (.slice none 0 0)=some 0:=by
          simp only[capA,hi,hd];rfl
         simp only[builtinA,this,val?];rfl
        ·cases he
       ·cases he
  ·cases hr
 ·rename_i st ts a x;cases hv with
  | cons h1 hl=>cases hl with
    | cons h2 hl=>cases hl with
      | nil =>
        obtain⟨v',h',n',k1,ν',β',k2,k3,k4⟩:=appendS_ok g hlim hr h1 h2;exact⟨v',h',n',by simp only[builtinA,k1],r,mcS ..,ν',β',k2,k3,k4⟩
 ·obtain⟨w,h1,h2⟩:=maxS_ok g hr hv;exact⟨w,h,n,by simp only[builtinA,h1,val?],h2.out⟩
 ·obtain⟨w,h1,h2⟩:=maxS_ok g hr hv;exact⟨w,h,n,by simp only[builtinA,h1,val?],h2.out⟩
 ·cases hr
theorem makeSliceS_ok(g:Ga C R F h0 n0 s ν β t h n){ty:TypeId}{l c:SV}{r:SV×S}(hr:makeSliceS C s ty l c=some r){lv cv:Value}(hl:V ν β l lv)(hc:V ν β c cv):∃ v cs,makeSliceA C.E ty lv cv n=some (v,cs)∧Out1 C R F h0 n0 ν β t [r] v (newA h n (.cells cs)) (n+1):=by
 unfold makeSliceS at hr;split at hr
 ·rename_i i k1 l' k2 c' hi;split at hr
  ·rename_i e hd;split at hr
   ·rename_i j q hj hq';split at hr
    ·rename_i cts z hq hz;rw[biE] at hr;split at hr
     ·rename_i hcc;cases hr;simp only[baT,beqT,bleT,bltT] at hcc;obtain⟨⟨⟨⟨⟨⟨⟨c1,c2⟩,c3⟩,c4⟩,c5⟩,c6⟩,c7⟩,c8⟩:=hcc;cases hl with
      | i a1 a2 a3=>cases hc with
        | i b1 b2 b3 =>
          rename_i x y;have m1:=g.ie c6 (evI_ieC 0) a1;have m2:=g.ie c7 a1 b1;have m3:=g.ie c8 b1 (evI_ieC _);obtain⟨x,rfl⟩:=Int.eq_ofNat_of_zero_le m1;obtain⟨y,rfl⟩:=Int.eq_ofNat_of_zero_le (by omega:0≤y);obtain⟨z1,z2,z3⟩:=zeroS_ok hz;obtain⟨h4,h5⟩:=svCTs_ok g c5 (z3 ν β);have hz0:j.zero.length=cts.length:=by rw[←(z3 ν β).len,h4]
          obtain⟨h6,h7⟩:=Rows.rep hz0 h5 y;have hro:∀ b cc,h.get b=some (.ro cc)→(h.upd (some (.cells (repL j.zero y))) n).get b=some (.ro cc):=fun b cc hb=>by
           rw[T.gnE]
           ·exact hb
           ·intro e;subst e;rw[g.fr _ (nlR _)] at hb;cases hb
          refine⟨.slice (some ⟨n,0,none⟩) x y,repL j.zero y,?_,_,mcS ..,ν,β ++ [some n],Ext.blk _ _ _,g.blk (a:= .vec q .low c') (k:= .cells (repL j.zero y)) ⟨_,cts,y,T.gsE _ _ _,hq,by omega,b1,h7,fun i x ct hx hct=>(h6 i x ct hx hct).mono hro⟩,.os ?_ a1 b1 (by omega) (by omega) (.inr rfl) c2⟩
          ·unfold makeSliceA;simp only[hi,hd,hj,natV_of (show y≤1000000000 by omega),natV_of (show x≤y by omega)];rw[biE,if_pos];simp only[baT,beqT,bleT,bltT];exact⟨⟨⟨z1,c1⟩,by omega⟩,c2⟩
          ·rw[←g.bl];simp
     ·cases hr
    ·cases hr
   ·cases hr
  ·cases hr
 ·cases hr
theorem convS_ok(g:Ga C R F h0 n0 s ν β t h n){src dst:TypeId}{x:SV}{r:SV×S}(hr:convS C s src dst x=some r){v:Value}(hv:V ν β x v):(∃ i,C.E.ty.get src=some i)∧∃ w,convA C.E dst v=some w∧Pv C R F h0 n0 ν β t h n r w:=by
 unfold convS at hr;split at hr
 ·rename_i j i hj hi;refine⟨⟨j,hj⟩,?_⟩;unfold convA;simp only[hi];split at hr
  ·rename_i k j e hd;cases hv with
   | i h1 h2 h3 =>
     rename_i y;simp only[hd];refine⟨_,rfl,?_⟩;rw[biE] at hr;split at hr
     ·rename_i hk;cases hr;have:=kindB_eq hk;subst this;rw[wrap_in h2 h3];exact .same g (.i h1 h2 h3)
     ·cases hr;exact freshI_ok g (wrap_rng _ _).1 (wrap_rng _ _).2
  ·rename_i j hd;cases hr;cases hv with
   | sn h1 h2=>simp only[hd];exact⟨_,rfl,.same g (.sn h1 h2)⟩
  ·rename_i z hd;cases hr;cases hv with
   | lit h1=>simp only[hd];exact⟨_,rfl,.same g (.lit h1)⟩
  ·cases hr
 ·cases hr
theorem unS_ok(g:Ga C R F h0 n0 s ν β t h n){op:UnOp}{x:SV}{r:SV×S}(hr:unS C s op x=some r){v:Value}(hv:V ν β x v):∃ w,unA op v=some w∧Pv C R F h0 n0 ν β t h n r w:=by
 unfold unS at hr;split at hr
 ·rename_i k e;cases hv with
  | i h1 h2 h3 =>
    rename_i y;simp only[unA];refine⟨_,rfl,?_⟩;split at hr
    ·rename_i hb;rw[biE] at hr;split at hr
     ·rename_i hk;cases hr;rw[inK_iff,subI_eq] at hk;have:=evI_const hb h1;subst this;rw[wrap_in hk.1 hk.2,subI_eq];exact .same g (.i (evI_ieC _) hk.1 hk.2)
     ·cases hr
    ·cases hr;exact freshI_ok g (wrap_rng _ _).1 (wrap_rng _ _).2
 ·split at hr
  ·rename_i y hy;cases hr;have hb:∃ b,v= .bool b:=by
    cases hv<;>first|exact⟨_,rfl⟩|(simp[flipS] at hy)
   obtain⟨b,rfl⟩:=hb;exact⟨_,rfl,.same g (flipS_ok hy hv)⟩
  ·cases hr
 ·cases hr
end
section
variable {C:Cfg}{R:Nat}{F:Nat→Prop}{h0:T Blk}{n0:Nat}{s:S}{ν:List Value}{β:List (Option Nat)}{t:T Value}{h:T Blk}{n:Nat}
theorem new_cells(g:Ga C R F h0 n0 s ν β t h n){m:List SV}{cs:List Value}(hm:VL ν β m cs)(hc:allCells cs=true):Ga C R F h0 n0 (s.blk (.cells m)) ν (β ++ [some n]) t (newA h n (.cells cs)) (n+1)∧(β ++ [some n])[s.nb]? =some (some n):=by refine⟨g.blk (a:= .cells m) (k:= .cells cs) ⟨cs,T.gsE _ _ _,hm.ext (Ext.blk _ _ _),hc⟩,?_⟩;rw[←g.bl];simp
theorem one_ok{r:Option (SV×S)}{outs:List (SV×S)}(h:one r=some outs):∃ x,r=some x∧outs=[x]:=by
 unfold one at h;split at h
 ·cases h;exact⟨_,rfl,rfl⟩
 ·cases h
theorem idx_aop(g:Ga C R F h0 n0 s ν β t h n){ty:TypeId}{x:SV}{e:IE}{outs:List (SV×S)}(hr:(match idxS C s ty x e with|some w=>some [(w,s)]|none=>idxAllS C s ty x e)=some outs){v:Value}(hv:V ν β x v){k:IntKind}{z:Int}(he:evI ν e=some z) :
 ∃ w,idxA C.E ty v (.int k z)=some w∧Out1 C R F h0 n0 ν β t outs w h n:=by
 split at hr
 ·rename_i w hw;cases hr;obtain⟨w',h1,h2⟩:=idxS_ok g hw hv he (k:=k);exact⟨w',h1,.same g h2⟩
 ·obtain⟨w,h1,p,h2,h3,h4⟩:=idxAllS_ok g hr hv he (k:=k);exact⟨w,h1,p,h2,ν,β,.rfl',h3,h4⟩
theorem aop_ok{callr:CallS}(hcall:CallOK C R F h0 n0 callr)(hlim:C.lim≤16000000)(g:Ga C R F h0 n0 s ν β t h n){o:Oper}{outs:List (SV×S)}(hr:aop C callr s o=some outs) :
 ∃ v h' n',Step1 C.E t h n o v h' n'∧Out1 C R F h0 n0 ν β t outs v h' n':=by
 unfold aop at hr;split at hr
 ·rename_i x ho;split at hr
  ·rename_i y hy;cases hr;obtain⟨v,h1,h2⟩:=evS_ok g hy;exact⟨v,h,n,.inl (by simp only[opA,ho,h1,val?]),.same g h2⟩
  ·cases hr
 ·rename_i x ho;split at hr
  ·rename_i y hy;cases hr;obtain⟨v,h1,h2⟩:=evS_ok g hy;exact⟨v,h,n,.inl (by simp only[opA,ho,h1,val?]),.same g h2⟩
  ·cases hr
 ·rename_i c a b ho;split at hr
  ·rename_i y hy;obtain⟨v,h1,h2⟩:=evS_ok g hy;split at hr
   ·rename_i l hl;obtain⟨bb,s',rfl,hm,g'⟩:=splitB_ok g hl h2;obtain⟨p,hp,hq⟩:=mapO_at hr _ hm;simp only at hq;split at hq
    ·rename_i w hw;cases hq;obtain⟨v,h3,h4⟩:=evS_ok g' hw;refine⟨v,h,n,.inl ?_,_,hp,ν,β,.rfl',g',h4⟩;cases bb with
     | true=>simp only[_root_.cond_true] at h3;simp only[opA,ho,h1,h3,val?]
     | false=>simp only[_root_.cond_false] at h3;simp only[opA,ho,h1,h3,val?]
    ·cases hq
   ·cases hr
  ·cases hr
 ·rename_i ty a ho;split at hr
  ·rename_i y hy;obtain⟨v,h1,h2⟩:=evS_ok g hy;obtain⟨⟨y',s'⟩,h3,rfl⟩:=one_ok hr;obtain⟨w,ν',h4,h5,h6,h7⟩:=ldS_ok g hlim h3 h2;exact⟨w,h,n,.inl (by simp only[opA,ho,h1,h4,val?]),_,mcS ..,ν',β,h5,h6,h7⟩
  ·cases hr
 ·rename_i ty a x ho;split at hr
  ·rename_i p y hp hy;obtain⟨pv,h1,h2⟩:=evS_ok g hp;obtain⟨v,h3,h4⟩:=evS_ok g hy;split at hr
   ·rename_i s' hs;cases hr;obtain⟨h',h5,h6⟩:=stS_ok g hs h2 h4;exact⟨undefV,h',n,.inr (.inl ⟨by simp only[opA,ho,h1,h3,h5],rfl⟩),.same h6 (.tup .nil)⟩
   ·cases hr
  ·cases hr
 ·rename_i e ho;split at hr
  ·rename_i i hi;split at hr
   ·rename_i z hz;cases hr;obtain⟨z1,z2,z3⟩:=zeroS_ok hz;obtain⟨g',hat⟩:=new_cells g (z3 ν β) z2;exact⟨ptrTo n,_,n+1,.inl (by simp only[opA,ho,hi,z1,_root_.cond_true]),_,mcS ..,ν,_,Ext.blk _ _ _,g',.p hat⟩
   ·cases hr
  ·cases hr
 ·rename_i ty x ho;split at hr
  ·rename_i y hy;obtain⟨v,h1,h2⟩:=evS_ok g hy;split at hr
   ·rename_i m hm;cases hr;obtain⟨c1,c2,c3⟩:=cellsS_ok hm h2;obtain⟨g',hat⟩:=new_cells g c1 c2;exact⟨ptrTo n,_,n+1,.inl (by simp only[opA,ho,h1]),_,mcS ..,ν,_,Ext.blk _ _ _,g',.p hat⟩
   ·cases hr
  ·cases hr
 ·rename_i ty ps ho;split at hr
  ·rename_i l hl;split at hr
   ·rename_i v hv;cases hr;obtain⟨pv,h1,h2⟩:=evSP_ok g hl;obtain⟨w,h3,h4⟩:=buildS_ok hv h2;exact⟨w,h,n,.inl (by simp only[opA,ho,h1,h3,val?]),.same g h4⟩
   ·cases hr
  ·cases hr
 ·rename_i ty len ps ho;split at hr
  ·rename_i l hl;split at hr
   ·rename_i cs sz hcs;rw[biE] at hr;split at hr
    ·rename_i hall;cases hr;obtain⟨pv,h1,h2⟩:=evSP_ok g hl;obtain⟨w,h3,h4,h5,h6⟩:=buildSliceS_ok hcs h2;obtain⟨g',hat⟩:=new_cells g h4 (VL_cells hall h4);refine⟨.slice (some ⟨n,0,none⟩) len len,_,n+1,.inl (by simp only[opA,ho,h1,h3]),_,mcS ..,ν,_,Ext.blk _ _ _,g',.os hat (evI_ieC _) (evI_ieC _) (nlR _) (by omega) (.inr rfl) h5⟩
    ·cases hr
   ·cases hr
  ·cases hr
 ·rename_i st x k ho;split at hr
  ·rename_i y hy;split at hr
   ·rename_i w hw;cases hr;obtain⟨v,h1,h2⟩:=evS_ok g hy;unfold fieldS at hw;split at hw
    ·rename_i f hf;split at hw
     ·rename_i i off;cases hw;cases h2 with
      | p hb=>exact⟨_,h,n,.inl (by simp only[opA,ho,h1,hf]),.same g (.p hb)⟩
     ·rename_i j e sz off;cases hw;obtain⟨b,o,l,c,x,rfl,q1,q2,q3⟩:=h2.dp_inv;refine⟨.pointer (some ⟨b,o+x * sz+off+f,none⟩),h,n,.inl (by simp only[opA,ho,h1,hf]),.same g ?_⟩;have:=V.dp (β:=β) (sz:=sz) (off:=off+f) q1 q2 q3;rw[←Nat.add_assoc] at this;exact this
     ·rename_i i e sz off;cases hw;obtain⟨b,x,rfl,hb,he⟩:=h2.pv_inv;refine⟨.pointer (some ⟨b,x * sz+off+f,none⟩),h,n,.inl (by simp only[opA,ho,h1,hf]),.same g ?_⟩;have:=V.pv (sz:=sz) (off:=off+f) hb he;rw[←Nat.add_assoc] at this;exact this
     ·cases hw
    ·cases hw
   ·cases hr
  ·cases hr
 ·rename_i ty x i ho;split at hr
  ·rename_i y k e hy hi;obtain⟨v,h1,h2⟩:=evS_ok g hy;obtain⟨w,h3,h4⟩:=evS_ok g hi;cases h4 with
   | i h5 h6 h7 =>
     obtain⟨r,h8,h9⟩:=idx_aop g hr h2 h5 (k:=k);exact⟨r,h,n,.inl (by simp only[opA,ho,h1,h3,h8,val?]),h9⟩
  ·cases hr
 ·rename_i op ty x y yt ho;split at hr
  ·rename_i a b ha hb;obtain⟨v,h1,h2⟩:=evS_ok g ha;obtain⟨w,h3,h4⟩:=evS_ok g hb;obtain⟨r,h5,rfl⟩:=one_ok hr;obtain⟨z,h6,h7⟩:=binS_ok g h5 h2 h4 (isConstO x||isConstO y);exact⟨z,h,n,.inl (by simp only[opA,ho,h1,h3,h6,val?]),h7.out⟩
  ·cases hr
 ·rename_i op ty x ho;split at hr
  ·rename_i a ha;obtain⟨v,h1,h2⟩:=evS_ok g ha;obtain⟨r,h5,rfl⟩:=one_ok hr;obtain⟨z,h6,h7⟩:=unS_ok g h5 h2;exact⟨z,h,n,.inl (by simp only[opA,ho,h1,h6,val?]),h7.out⟩
  ·cases hr
 ·rename_i src dst x ho;split at hr
  ·rename_i a ha;obtain⟨v,h1,h2⟩:=evS_ok g ha;obtain⟨r,h5,rfl⟩:=one_ok hr;obtain⟨⟨i,hi⟩,z,h6,h7⟩:=convS_ok g h5 h2;exact⟨z,h,n,.inl (by simp only[opA,ho,hi,h1,h6,val?]),h7.out⟩
  ·cases hr
 ·rename_i x ho;split at hr
  ·rename_i i off hx;cases hr;obtain⟨v,h1,h2⟩:=evS_ok g hx;have h3:=h2;cases h2;exact⟨_,h,n,.inl (by simp only[opA,ho,h1]),.same g h3⟩
  ·rename_i hx;cases hr;obtain⟨v,h1,h2⟩:=evS_ok g hx;have h3:=h2;cases h2;exact⟨_,h,n,.inl (by simp only[opA,ho,h1]),.same g h3⟩
  ·rename_i hx;cases hr;obtain⟨v,h1,h2⟩:=evS_ok g hx;have h3:=h2;cases h2;exact⟨_,h,n,.inl (by simp only[opA,ho,h1]),.same g h3⟩
  ·rename_i hx;cases hr;obtain⟨v,h1,h2⟩:=evS_ok g hx;have h3:=h2;cases h2;exact⟨_,h,n,.inl (by simp only[opA,ho,h1]),.same g h3⟩
  ·cases hr
 ·rename_i x k ho;split at hr
  ·rename_i l hx;split at hr
   ·rename_i v hv;cases hr;obtain⟨w,h1,h2⟩:=evS_ok g hx;cases h2 with
    | tup hl =>
      obtain⟨z,h3,h4⟩:=hl.at hv;exact⟨z,h,n,.inl (by simp only[opA,ho,h1,h3,val?]),.same g h4⟩
   ·cases hr
  ·cases hr
 ·rename_i f first capt ho
  split at hr
  ·rename_i k a b ha hb;cases hr;obtain⟨v,h1,h2⟩:=evSL_ok g ha;obtain⟨w,h3,h4⟩:=evSL_ok g hb;exact⟨.func (.func k) ⟨v⟩ ⟨w⟩,h,n,.inl (by simp only[opA,ho,h1,h3]),.same g (.f h2 h4)⟩
  ·cases hr
 ·rename_i mt ho;obtain⟨r,h5,rfl⟩:=one_ok hr;unfold makeMapS at h5;split at h5
  ·rename_i i hi;split at h5
   ·rename_i kt et hd;split at h5
    ·rename_i kk ct hkk hct;cases h5;have g':=g.blk (a:= .map kt ct) (k:= .map []) ⟨[],kk,T.gsE _ _ _,hkk,fun e he=>by cases he⟩;refine⟨.map (some n),_,n+1,.inl (by simp only[opA,ho];rfl),_,mcS ..,ν,_,Ext.blk _ _ _,g',.m ?_⟩;rw[←g.bl];simp
    ·cases h5
   ·cases h5
  ·cases h5
 ·rename_i ty l c ho;split at hr
  ·rename_i a b ha hb;obtain⟨v,h1,h2⟩:=evS_ok g ha;obtain⟨w,h3,h4⟩:=evS_ok g hb;obtain⟨r,h5,rfl⟩:=one_ok hr;obtain⟨z,cs,h6,h7⟩:=makeSliceS_ok g h5 h2 h4;exact⟨z,_,n+1,.inl (by simp only[opA,ho,h1,h3,h6]),h7⟩
  ·cases hr
 ·rename_i ty x lo hi mx ho;split at hr
  ·rename_i a lo' hi' mx' ha hlo hhi hmx;obtain⟨v,h1,h2⟩:=evS_ok g ha;obtain⟨lov,k1,k2⟩:=evSO_ok g hlo;obtain⟨hiv,k3,k4⟩:=evSO_ok g hhi;obtain⟨mxv,k5,k6⟩:=evSO_ok g hmx;obtain⟨r,h5,rfl⟩:=one_ok hr;obtain⟨w,h6,h7⟩:=sliceS_ok g h5 h2 k2 k4 k6;refine⟨w,h,n,.inl ?_,h7.out⟩;simp only[opA,ho,h1,k1,k3,k5];split at h6
   ·rw[h6];rfl
   ·rename_i hnp;split
    ·exact absurd rfl (hnp _)
    ·rw[h6];rfl
  ·cases hr
 ·rename_i ty x i ok ho;split at hr
  ·rename_i a b ha hb;obtain⟨v,h1,h2⟩:=evS_ok g ha;obtain⟨w,h3,h4⟩:=evS_ok g hb;obtain⟨r,h5,rfl⟩:=one_ok hr;obtain⟨z,h6,h7⟩:=lookupS_ok g hlim h5 h2 h4;exact⟨z,h,n,.inl (by simp only[opA,ho,h1,h3,h6,val?]),h7.out⟩
  ·cases hr
 ·rename_i ty m k x ho;split at hr
  ·rename_i a b c ha hb hc;obtain⟨v,h1,h2⟩:=evS_ok g ha;obtain⟨w,h3,h4⟩:=evS_ok g hb;obtain⟨z,h5,h6⟩:=evS_ok g hc;split at hr
   ·rename_i s' hs;cases hr;obtain⟨h',h7,h8⟩:=mapPutS_ok g hs h2 h4 h6;exact⟨undefV,h',n,.inr (.inl ⟨by simp only[opA,ho,h1,h3,h5,h7],rfl⟩),.same h8 (.tup .nil)⟩
   ·cases hr
  ·cases hr
 ·rename_i ty m k x ho;split at hr
  ·rename_i a b c ha hb hc;obtain⟨v,h1,h2⟩:=evS_ok g ha;obtain⟨w,h3,h4⟩:=evS_ok g hb;obtain⟨z,h5,h6⟩:=evS_ok g hc;split at hr
   ·rename_i s' hs;cases hr;obtain⟨h',h7,h8⟩:=mapPutS_ok g hs h2 h4 h6;exact⟨undefV,h',n,.inr (.inl ⟨by simp only[opA,ho,h1,h3,h5,h7],rfl⟩),.same h8 (.tup .nil)⟩
   ·cases hr
  ·cases hr
 ·rename_i ty x ho;split at hr
  ·rename_i y hy;obtain⟨v,h1,h2⟩:=evS_ok g hy;obtain⟨r,h5,rfl⟩:=one_ok hr;unfold rangeS at h5;split at h5
   ·rename_i i hi;split at h5
    ·rename_i j hd;cases h5;cases h2 with
     | sn q1 q2 =>
       rename_i z;have g':=g.blk (a:= .iter j (ieC 0)) (k:= .iter z 0) ⟨z,0,q1,evI_ieC 0,T.gsE _ _ _⟩;refine⟨ptrTo n,_,n+1,.inl (by simp only[opA,ho,hi,h1,hd];rfl),_,mcS ..,ν,_,Ext.blk _ _ _,g',.p ?_⟩;rw[←g.bl];simp
    ·cases h5
   ·cases h5
  ·cases hr
 ·rename_i x ho;split at hr
  ·rename_i y hy;obtain⟨v,h1,h2⟩:=evS_ok g hy;obtain⟨b,z,pos,rfl,h3,h4⟩:=nextS_ok g hr h2;rcases h4 with⟨h4,p,h5,h6,h7⟩|h4
   ·exact⟨_,h,n,.inl (by simp only[opA,ho,h1,h3,h4]),p,h5,ν,β,.rfl',h6,h7⟩
   ·by_cases hasc:∃ c,nth z.data.toList pos=some c∧c.toNat<128
    ·obtain⟨c,h8,h9⟩:=hasc;obtain⟨_,p,h5,ν',e1,h6,h7⟩:=h4 c.toNat (by omega) 1 (by omega) (by omega);exact⟨_,_,n,.inl (by simp only[opA,ho,h1,h3,h8];rw[biE,if_pos (by rw[bltT];exact h9)]),p,h5,ν',β,e1,h6,h7⟩
    ·obtain⟨d1,d2,d3⟩:=decode_ok z pos;obtain⟨⟨c,h8⟩,p,h5,ν',e1,h6,h7⟩:=h4 _ d1 _ d2 d3;exact⟨_,_,n,.inl (by simp only[opA,ho,h1,h3,h8];rw[biE,if_neg (by rw[bltT];exact fun hc=>hasc ⟨c,h8,hc⟩)]),p,h5,ν',β,e1,h6,h7⟩
  ·cases hr
 ·rename_i c ho;split at hr
  ·rename_i args hargs;obtain⟨vs,h1,h2⟩:=evSL_ok g hargs;split at hr
   ·rename_i f hcal;split at hr
    ·rename_i fv hf;obtain⟨w,h3,h4⟩:=evS_ok g hf;unfold callS at hr;split at hr
     ·rename_i k first capt
      cases h4 with
      | f h5 h6 =>
        rename_i a cc;split at hr
        ·rename_i fn hfn;obtain⟨v,h',n',h7,h8⟩:=hcall _ _ _ _ _ _ _ _ _ _ hr g (VL.app2 h5 h2 h6);refine⟨v,h',n',.inr (.inr ⟨k,_,?_,h7⟩),h8⟩;simp only[opA,ho,h1,hcal,h3,callA,hfn]
        ·cases hr
     ·cases hr
    ·cases hr
   ·rename_i b hcal;obtain⟨r,h5,rfl⟩:=one_ok hr;obtain⟨w,h',n',h6,h7⟩:=biS_ok g hlim h5 h2;exact⟨w,h',n',.inl (by simp only[opA,ho,h1,hcal,h6]),h7⟩
   ·cases hr
  ·cases hr
 ·cases hr
end
noncomputable section
def concO{α β:Type}(g:α→Option (List β)):List α→Option (List β)
 | []=>some []
 | a :: l=>match g a,concO g l with
   | some b,some r=>some (b ++ r)
   | _,_=>none
def guardS(all:List Oper)(s:S)(o:Oper):Option (List (Bool×S)) :=
 match o.guard with
 | none=>some [(true,s)]
 | some (j,want) =>
   match nth all j with
   | some oj=>(match oj.dst with
     | some d=>(match get1 s.t d with
       | some (.tup _)=>some [(false,s)]
       | some x=>(match splitB s x with
         | some l=>some (l.map fun p=>(p.1 == want,{p.2 with t:=put1 p.2.t d (.b p.1)}))
         | none=>none)
       | none=>none)
     | none=>some [(false,s)])
   | none=>some [(false,s)]
def putS(many:Nat)(dst:Option Tmp)(x:SV)(s:S):Option S :=
 match dst with
 | none=>some s
 | some d=>bif Nat.blt d many then some (s.set d x) else none
def aopsS(C:Cfg)(callr:CallS)(many:Nat)(all:List Oper):List Oper→S→Option (List S)
 | [],s=>some [s]
 | o :: l,s =>
   match guardS all s o with
   | some gs=>concO (fun p:Bool×S =>
    bif p.1 then (match aop C callr p.2 o with
     | some outs=>concO (fun q:SV×S=>match putS many o.dst q.1 q.2 with|some s3=>aopsS C callr many all l s3|none=>none) outs
     | none=>none)
    else (match putS many o.dst undefS p.2 with|some s3=>aopsS C callr many all l s3|none=>none)) gs
   | none=>none
def depS(os:Bool):Nat→SV→Bool
 | 0,x=>(match x with| .agg _=>false| .tup _=>false| .f _ _ _=>false| .lit v=>litS v| .os _ _ _ _=>os| .g _=>false|_=>true)
 | f+1,x =>
   match x with
   | .agg l=>l.all (depS os f)
   | .tup l=>l.all (depS os f)
   | .f _ a c=>a.all (depS os f)&&c.all (depS os f)
   | .lit v=>litS v
   | .os _ _ _ _=>os
   | .g _=>false
   | _=>true
where
 litS (v:Value):Bool:=match v with| .string _=>true| .pointer none=>true| .slice none _ _=>true| .map none=>true| .nilFunc=>true| .nilIface=>true|_=>false
def depT(s:S):List Tmp→Bool
 | []=>true
 | k :: l=>(match get1 s.t k with|some x=>depS true 4 x|none=>false)&&depT s l
def ieq(a b:IE):Bool:=IB.beq a.b b.b&&eqI a.k b.k
def svEq:Nat→SV→SV→Bool
 | _,.i j a,.i k b=>kindEq j k&&ieq a b
 | _,.b x,.b y=>x == y
 | _,.bn i m,.bn j n=>Nat.beq i j&&m == n
 | _,.le a b m,.le c d n=>ieq a c&&ieq b d&&m == n
 | _,.eq a b m,.eq c d n=>ieq a c&&ieq b d&&m == n
 | _,.sn i,.sn j=>Nat.beq i j
 | _,.lit (.string a),.lit (.string b)=>bytesEq a.data.toList b.data.toList
 | _,.lit (.pointer none),.lit (.pointer none)=>true
 | _,.lit (.slice none 0 0),.lit (.slice none 0 0)=>true
 | _,.lit (.map none),.lit (.map none)=>true
 | _,.lit .nilFunc,.lit .nilFunc=>true
 | _,.lit .nilIface,.lit .nilIface=>true
 | _,.ds i,.ds j=>Nat.beq i j
 | _,.dp i a p q,.dp j b r u=>Nat.beq i j&&ieq a b&&Nat.beq p r&&Nat.beq q u
 | _,.os i a b p,.os j c d q=>Nat.beq i j&&ieq a c&&ieq b d&&Nat.beq p q
 | _,.p i a,.p j b=>Nat.beq i j&&Nat.beq a b
 | _,.pv i a p q,.pv j b r u=>Nat.beq i j&&ieq a b&&Nat.beq p r&&Nat.beq q u
 | _,.g i,.g j=>Nat.beq i j
 | _,.m i,.m j=>Nat.beq i j
 | f+1,.f i a b,.f j c d=>Nat.beq i j&&l1 f a c&&l1 f b d
 | f+1,.agg a,.agg b=>l1 f a b
 | f+1,.tup a,.tup b=>l1 f a b
 | _,_,_=>false
where
 l1 (f:Nat):List SV→List SV→Bool
  | [],[]=>true
  | x :: l,y :: m=>svEq f x y&&l1 f l m
  | _,_=>false
end
theorem concO_mem{α β:Type}{g:α→Option (List β)}:∀ {l:List α}{r:List β},concO g l=some r→∀ a∈l,∃ b,g a=some b∧∀ x∈b,x∈r
 | [],r,h,a,ha=>by cases ha
 | x :: l,r,h,a,ha=>by
   simp only[concO] at h;split at h
   ·rename_i b r' hb hr;cases h;rcases List.mem_cons.1 ha with rfl|ha
    ·exact⟨b,hb,fun x hx=>List.mem_append_left _ hx⟩
    ·obtain⟨c,h1,h2⟩:=concO_mem hr a ha;exact⟨c,h1,fun x hx=>List.mem_append_right _ (h2 x hx)⟩
   ·cases h
section
variable {C:Cfg}{R:Nat}{F:Nat→Prop}{h0:T Blk}{n0:Nat}{s:S}{ν:List Value}{β:List (Option Nat)}{t:T Value}{h:T Blk}{n:Nat}
theorem Ga.know(g:Ga C R F h0 n0 s ν β t h n){k:Nat}{x:SV}{v:Value}(ht:t.get k=some v)(hv:V ν β x v):Ga C R F h0 n0 {s with t:=put1 s.t k x} ν β t h n :=
 g.tmps fun j y hj=>by
  rw[get1_put] at hj;split at hj
  ·rename_i e;cases hj;subst e;exact⟨v,ht,hv⟩
  ·exact g.tm j y hj
theorem guardS_ok(g:Ga C R F h0 n0 s ν β t h n){all:List Oper}{o:Oper}{l:List (Bool×S)}(hr:guardS all s o=some l):∃ b s',wantedA all t o=some b∧(b,s')∈l∧Ga C R F h0 n0 s' ν β t h n:=by
 unfold guardS at hr;split at hr
 ·rename_i hg;cases hr;exact⟨true,s,by simp only[wantedA,hg],mcS ..,g⟩
 ·rename_i j want hg;split at hr
  ·rename_i oj hj;split at hr
   ·rename_i d hd;split at hr
    ·rename_i l' hx;cases hr;obtain⟨v,h1,h2⟩:=g.tm d _ hx;cases h2;exact⟨false,s,by simp only[wantedA,hg,hj,hd,h1],mcS ..,g⟩
    ·rename_i x hnt hx;split at hr
     ·rename_i l' hl';cases hr;obtain⟨v,h1,h2⟩:=g.tm d _ hx;obtain⟨b,s',rfl,h3,h4⟩:=splitB_ok g hl' h2;exact⟨b == want,_,by simp only[wantedA,hg,hj,hd,h1],List.mem_map.2 ⟨_,h3,rfl⟩,h4.know h1 (.b b)⟩
     ·cases hr
    ·cases hr
   ·rename_i hd;cases hr;exact⟨false,s,by simp only[wantedA,hg,hj,hd],mcS ..,g⟩
  ·rename_i hj;cases hr;exact⟨false,s,by simp only[wantedA,hg,hj],mcS ..,g⟩
theorem putS_ok(g:Ga C R F h0 n0 s ν β t h n){many:Nat}{dst:Option Tmp}{x:SV}{s':S}(hp:putS many dst x s=some s'){v:Value}(hv:V ν β x v):∃ t',putT many dst v t=some t'∧Ga C R F h0 n0 s' ν β t' h n:=by
 unfold putS at hp;unfold putT;split at hp
 ·cases hp;exact⟨t,rfl,g⟩
 ·rename_i d;rw[biE] at hp;split at hp
  ·rename_i hd;cases hp;exact⟨t.upd (some v) d,by simp only[hd,_root_.cond_true],g.set hv d⟩
  ·cases hp
theorem aopsS_ok{callr:CallS}(hcall:CallOK C R F h0 n0 callr)(hlim:C.lim≤16000000){rd:Option Nat}{many:Nat}{all:List Oper}:∀ {l:List Oper}{s:S}{ν:List Value}{β:List (Option Nat)}{t:T Value}{h:T Blk}{n:Nat}{outs:List S},aopsS C callr many all l s=some outs→Ga C R F h0 n0 s ν β t h n →
 ∃ t' h' n',(∃ G,∀ f,G≤f→opsS C.E (exec C.E f) rd many all l t [] h n= .ok .normal t' [] h' n')∧∃ s'∈outs,∃ ν' β',Ext ν β ν' β'∧Ga C R F h0 n0 s' ν' β' t' h' n'
 | [],s,ν,β,t,h,n,outs,hr,g=>by simp only[aopsS,Option.some.injEq] at hr;subst hr;exact⟨t,h,n,⟨0,fun _ _=>rfl⟩,s,mcS ..,ν,β,.rfl',g⟩
 | o :: l,s,ν,β,t,h,n,outs,hr,g=>by
   simp only[aopsS] at hr;split at hr
   ·rename_i gs hgs;obtain⟨b,s1,hw,hm,g1⟩:=guardS_ok g hgs;obtain⟨r,hr1,hsub⟩:=concO_mem hr _ hm;simp only at hr1;cases b with
    | true =>
      simp only[_root_.cond_true] at hr1;split at hr1
      ·rename_i outs1 ho;obtain⟨v,h1,n1,hs,p,hp,ν1,β1,e1,g2,hv⟩:=aop_ok hcall hlim g1 ho;obtain⟨r2,hr2,hsub2⟩:=concO_mem hr1 _ hp;split at hr2
       ·rename_i s3 hs3;obtain⟨t3,ht3,g3⟩:=putS_ok g2 hs3 hv;obtain⟨t',h',n',⟨G,hG⟩,s',hs',ν',β',e2,g4⟩:=aopsS_ok hcall hlim hr2 g3;refine⟨t',h',n',?_,s',hsub _ (hsub2 _ hs'),ν',β',e1.trans e2,g4⟩;rcases hs with hs|⟨hs,rfl⟩|⟨f,args,hs,G1,hG1⟩
        ·exact⟨G,fun f hf=>by simp only[opsS,hw,opC,hs,ht3];exact hG f hf⟩
        ·exact⟨G,fun f hf=>by simp only[opsS,hw,opC,hs,ht3];exact hG f hf⟩
        ·exact⟨max G G1,fun k hf=>by simp only[opsS,hw,opC,hs,hG1 k (by omega),ht3];exact hG k (by omega)⟩
       ·cases hr2
      ·cases hr1
    | false =>
      simp only[_root_.cond_false] at hr1;split at hr1
      ·rename_i s3 hs3;obtain⟨t3,ht3,g3⟩:=putS_ok g1 hs3 (v:=undefV) (.tup .nil);obtain⟨t',h',n',⟨G,hG⟩,s',hs',ν',β',e2,g4⟩:=aopsS_ok hcall hlim hr1 g3;exact⟨t',h',n',⟨G,fun f hf=>by simp only[opsS,hw,ht3];exact hG f hf⟩,s',hsub _ hs',ν',β',e2,g4⟩
      ·cases hr1
   ·cases hr
end
noncomputable section
structure AEnt where
 did:Bool
 s0:S
 x:SV
 s1:S
def aopsD(C:Cfg)(callr:CallS)(many:Nat)(all:List Oper):List Oper→List AEnt→S→Option (List (List AEnt×S))
 | [],acc,s=>some [(acc,s)]
 | o :: l,acc,s =>
   match guardS all s o with
   | some gs=>concO (fun p:Bool×S =>
    bif p.1 then
     (bif depT p.2 (opTmps o) then (match aop C callr p.2 o with
      | some outs=>concO (fun q:SV×S=>match putS many o.dst q.1 q.2 with|some s3=>aopsD C callr many all l (acc ++ [⟨true,p.2,q.1,q.2⟩]) s3|none=>none) outs
      | none=>none) else none)
    else (match putS many o.dst undefS p.2 with|some s3=>aopsD C callr many all l (acc ++ [⟨false,p.2,undefS,p.2⟩]) s3|none=>none)) gs
   | none=>none
def readS(C:Cfg)(o:Oper)(a:AEnt)(st:S):Bool :=
 match o.op with
 | .load ty (.tmp k) =>
   (match get1 a.s0.t k,C.E.ty.get ty with
    | some (.p i off),some ti =>
      (match get1 st.h i with
       | some (.cells l) =>
         bif isAgg ti.d then (match seg l off ti.size with|some r=>svEq 5 (.agg r) a.x&&depS false 4 (.agg r)|none=>false)
         else (match nth l off with|some r=>svEq 5 r a.x&&depS false 4 r|none=>false)
       | _=>false)
    | _,_=>false)
 | _=>false
def floatS(C:Cfg)(all:List Oper)(log:List AEnt):List (Nat×Nat)→Bool
 | []=>true
 | (r,l) :: rest =>
   (match nth all r,nth log r,nth log l with
    | some o,some a,some b=>bif a.did then readS C o a (bif Nat.blt r l then b.s1 else b.s0) else true
    | _,_,_=>false)&&floatS C all log rest
end
section
variable {C:Cfg}{R:Nat}{F:Nat→Prop}{h0:T Blk}{n0:Nat}{s:S}{ν:List Value}{β:List (Option Nat)}{t:T Value}{h:T Blk}{n:Nat}
def DsForm(ν:List Value):Prop:=∀ (j:Nat)(a:Option Addr)(l c:Nat),ν[j]? =some (.slice a l c)→a=none∨∃ b o,a=some ⟨b,o,none⟩
theorem Ga.ds_blk(g:Ga C R F h0 n0 s ν β t h n){j b o l c:Nat}(hj:ν[j]? =some (.slice (some ⟨b,o,none⟩) l c)):b<n:=by
 have hlt:j<s.ty.length:=by rw[←g.nl];exact(gsI hj).1
 obtain⟨w,h2,h3⟩:=g.nt j s.ty[j] (by rw[nth_eq,ggE hlt]);rw[hj] at h2;cases h2;cases hT:s.ty[j] with
 | sl q rk =>
   rw[hT] at h3;obtain⟨r,_,h4⟩:=h3;cases h4 with
   | sl _ hb _ _ _ _ _ _ =>
     apply Classical.byContradiction;intro hx;rw[g.fr b (by omega)] at hb;cases hb
 | int k=>rw[hT] at h3;obtain⟨_,h4,_⟩:=h3;cases h4
 | bool=>rw[hT] at h3;obtain⟨_,h4⟩:=h3;cases h4
 | str=>rw[hT] at h3;obtain⟨_,h4,_⟩:=h3;cases h4
theorem Ga.ds_form(g:Ga C R F h0 n0 s ν β t h n){j l c:Nat}{a:Option Addr}(hj:ν[j]? =some (.slice a l c)):a=none∨∃ b o,a=some ⟨b,o,none⟩:=by
 have hlt:j<s.ty.length:=by rw[←g.nl];exact(gsI hj).1
 obtain⟨w,h2,h3⟩:=g.nt j s.ty[j] (by rw[nth_eq,ggE hlt]);rw[hj] at h2;cases h2;cases hT:s.ty[j] with
 | sl q rk =>
   rw[hT] at h3;obtain⟨r,_,h4⟩:=h3;cases h4 with
   | nil=>exact .inl rfl
   | sl _ _ _ _ _ _ _ _=>exact .inr ⟨_,_,rfl⟩
 | int k=>rw[hT] at h3;obtain⟨_,h4,_⟩:=h3;cases h4
 | bool=>rw[hT] at h3;obtain⟨_,h4⟩:=h3;cases h4
 | str=>rw[hT] at h3;obtain⟨_,h4,_⟩:=h3;cases h4
theorem litS_below{v:Value}(hv:depS.litS v=true)(n f:Nat):belowV n f v=true:=by unfold depS.litS at hv;split at hv<;>first|(cases f<;>rfl)|cases hv
theorem belowL_of{n f:Nat}{p:SV→Bool}(hp:∀ x v,p x=true→V ν β x v→belowV n f v=true):∀ {l:List SV}{vs:List Value},l.all p=true→VL ν β l vs→belowV.belowL n f vs=true
 | _,_,_,.nil=>by cases f<;>rfl
 | x :: l,v :: vs,ha,.cons hv hl=>by simp only[List.all_cons,baT] at ha;have h1:=hp x v ha.1 hv;have h2:=belowL_of hp ha.2 hl;unfold belowV.belowL;rw[h1,h2];rfl
theorem below_ok(g:Ga C R F h0 n0 s ν β t h n){os:Bool}:∀ (d:Nat){f:Nat}{x:SV}{v:Value},d≤f→depS os d x=true→V ν β x v→belowV n f v=true:=by
 intro d;have hsc:∀ {d f:Nat} {x:SV} {v:Value},(∀ l,x≠ .agg l)→(∀ l,x≠ .tup l)→(∀ g a c,x≠ .f g a c)→depS os d x=true→V ν β x v→belowV n f v=true:=by
  intro d f x v n1 n2 n3 hd hv;have hlt:∀ {b},b<n→Nat.blt b n=true:=fun h=>by rw[bltT];exact h
  cases hv with
  | i=>cases f<;>rfl
  | b=>cases f<;>rfl
  | bn=>cases f<;>rfl
  | le=>cases f<;>rfl
  | eq=>cases f<;>rfl
  | sn=>cases f<;>rfl
  | lit hl =>
    refine litS_below ?_ n f;cases d<;>exact hd
  | ds hj =>
    rcases g.ds_form hj with rfl|⟨b,o,rfl⟩
    ·cases f<;>rfl
    ·have:=hlt (g.ds_blk hj);cases f<;>exact this
  | dp hj _ _ =>
    have:=hlt (g.ds_blk hj);cases f<;>exact this
  | os hb _ _ _ _ _ _ =>
    have:=hlt (g.bb _ _ hb);cases f<;>exact this
  | osn=>cases f<;>rfl
  | p hb =>
    have:=hlt (g.bb _ _ hb);cases f<;>exact this
  | pv hb _ =>
    have:=hlt (g.bb _ _ hb);cases f<;>exact this
  | g k=>cases d<;>cases hd
  | m hb =>
    have:=hlt (g.bb _ _ hb);cases f<;>exact this
  | f _ _=>exact absurd rfl (n3 _ _ _)
  | agg _=>exact absurd rfl (n1 _)
  | tup _=>exact absurd rfl (n2 _)
 induction d with
 | zero =>
   intro f x v hf hd hv;exact hsc (fun l e=>by subst e;cases hd) (fun l e=>by subst e;cases hd) (fun g a c e=>by subst e;cases hd) hd hv
 | succ d ih =>
   intro f x v hf hd hv;obtain⟨k,rfl⟩:∃ k,f=k+1:=⟨f-1,by omega⟩
   cases x with
   | agg l =>
     cases hv with
     | agg hl=>exact belowL_of (p:=depS os d) (fun x v hx hv=>ih (by omega) hx hv) hd hl
   | tup l =>
     cases hv with
     | tup hl=>exact belowL_of (p:=depS os d) (fun x v hx hv=>ih (by omega) hx hv) hd hl
   | f gg a c =>
     cases hv with
     | f ha hc =>
       simp only[depS,baT] at hd;have h1:=belowL_of (p:=depS os d) (f:=k) (fun x v hx hv=>ih (by omega) hx hv) hd.1 ha;have h2:=belowL_of (p:=depS os d) (f:=k) (fun x v hx hv=>ih (by omega) hx hv) hd.2 hc;show(true&&belowV.belowL n k _&&belowV.belowL n k _)=true;simp only[h1,h2,Bool.and_self]
   | _=>exact hsc (by simp) (by simp) (by simp) hd hv
theorem depT_ok(g:Ga C R F h0 n0 s ν β t h n):∀ {l:List Tmp},depT s l=true→belowT n t l=true
 | [],_=>rfl
 | k :: l,hd=>by
   simp only[depT,baT] at hd;have h1:=hd.1;split at h1
   ·rename_i x hx;obtain⟨v,h2,h3⟩:=g.tm k x hx;simp only[belowT,h2,below_ok g 4 (f:=8) (by omega) h1 h3,depT_ok g hd.2,Bool.and_self]
   ·cases h1
theorem same_ok{os:Bool}:∀ (d:Nat){f:Nat}{x:SV}{v:Value},d≤f→depS os d x=true→V ν β x v→DsForm ν→sameV f v v=true:=by
 have hbytes:∀ l:List UInt8,bytesEq l l=true:=by
  intro l
  induction l with
  | nil=>rfl
  | cons a l ih=>simp only[bytesEq,ih,Bool.and_true];rw[beqT]
 have hLit:∀ {v:Value} (f:Nat),depS.litS v=true→sameV f v v=true:=by
  intro v f hv;unfold depS.litS at hv;split at hv
  ·cases f<;>exact hbytes _
  ·cases f<;>rfl
  ·cases f<;>simp[sameV,beqT]
  ·cases f<;>rfl
  ·cases f<;>rfl
  ·cases f<;>rfl
  ·cases hv
 have hL:∀ (f:Nat) (p:SV→Bool),(∀ x v,p x=true→V ν β x v→sameV f v v=true)→∀ {l:List SV} {vs:List Value},l.all p=true→VL ν β l vs→sameV.sameL f vs vs=true:=by
  intro f p hp l
  induction l with
  | nil=>intro vs _ hl;cases hl;cases f<;>rfl
  | cons x l ih =>
    intro vs ha hl;cases hl with
    | cons hv hl =>
      simp only[List.all_cons,baT] at ha;unfold sameV.sameL;rw[hp x _ ha.1 hv,ih ha.2 hl];rfl
 intro d;have hsc:∀ {d f:Nat} {x:SV} {v:Value},(∀ l,x≠ .agg l)→(∀ l,x≠ .tup l)→(∀ g a c,x≠ .f g a c)→depS os d x=true→V ν β x v→DsForm ν→sameV f v v=true:=by
  intro d f x v n1 n2 n3 hd hv hds;cases hv with
  | i=>cases f<;>simp[sameV,kindEq]
  | b x=>cases f<;>cases x<;>rfl
  | bn=>cases f<;>simp[sameV]
  | le=>cases f<;>simp[sameV]
  | eq=>cases f<;>simp[sameV]
  | sn=>cases f<;>exact hbytes _
  | lit hl=>exact hLit f (by cases d<;>exact hd)
  | ds hj =>
    rcases hds _ _ _ _ hj with rfl|⟨b,o,rfl⟩
    ·cases f<;>simp[sameV,beqT]
    ·cases f<;>simp[sameV,beqT]
  | dp hj _ _=>cases f<;>simp[sameV,beqT]
  | os hb _ _ _ _ _ _=>cases f<;>simp[sameV,beqT]
  | osn=>cases f<;>simp[sameV,beqT]
  | p hb=>cases f<;>simp[sameV,beqT]
  | pv hb _=>cases f<;>simp[sameV,beqT]
  | g k=>cases d<;>cases hd
  | m hb=>cases f<;>simp[sameV,beqT]
  | f _ _=>exact absurd rfl (n3 _ _ _)
  | agg _=>exact absurd rfl (n1 _)
  | tup _=>exact absurd rfl (n2 _)
 induction d with
 | zero =>
   intro f x v hf hd hv hds;exact hsc (fun l e=>by subst e;cases hd) (fun l e=>by subst e;cases hd) (fun g a c e=>by subst e;cases hd) hd hv hds
 | succ d ih =>
   intro f x v hf hd hv hds;obtain⟨k,rfl⟩:∃ k,f=k+1:=⟨f-1,by omega⟩
   cases x with
   | agg l =>
     cases hv with
     | agg hl=>exact hL k (depS os d) (fun x v hx hv=>ih (by omega) hx hv hds) hd hl
   | tup l =>
     cases hv with
     | tup hl=>exact hL k (depS os d) (fun x v hx hv=>ih (by omega) hx hv hds) hd hl
   | f gg a c =>
     cases hv with
     | f ha hc =>
       simp only[depS,baT] at hd;have h1:=hL k (depS os d) (fun x v hx hv=>ih (by omega) hx hv hds) hd.1 ha;have h2:=hL k (depS os d) (fun x v hx hv=>ih (by omega) hx hv hds) hd.2 hc;show(Nat.beq gg gg&&sameV.sameL k _ _&&sameV.sameL k _ _)=true;simp only[h1,h2,Bool.and_self,Bool.and_true];rw[beqT]
   | _=>exact hsc (by simp) (by simp) (by simp) hd hv hds
theorem bytes_eq{a b:ByteArray}(h:bytesEq a.data.toList b.data.toList=true):a=b:=by have:sameV 0 (.string a) (.string b)=true:=h;have:=sameV_eq 0 _ _ this;cases this;rfl
theorem ieq_eq{a b:IE}(h:ieq a b=true):a=b:=ieEq_ok h
theorem svEq_eq:∀ (f:Nat){a b:SV},svEq f a b=true→a=b:=by
 have hL:∀ (f:Nat),(∀ {a b:SV},svEq f a b=true→a=b)→∀ {l m:List SV},svEq.l1 f l m=true→l=m:=by
  intro f hf l
  induction l with
  | nil=>intro m hm;cases m<;>simp[svEq.l1] at hm ⊢
  | cons x l ih =>
    intro m hm;cases m with
    | nil=>simp[svEq.l1] at hm
    | cons y m =>
      simp only[svEq.l1,baT] at hm;rw[hf hm.1,ih hm.2]
 have hsc:∀ (f:Nat) {a b:SV},(∀ l,a≠ .agg l)→(∀ l,a≠ .tup l)→(∀ g x c,a≠ .f g x c)→svEq f a b=true→a=b:=by
  intro f a b n1 n2 n3 h;unfold svEq at h;split at h<;>(try simp only[baT,beqT,beq_iff_eq] at h)<;>(try (exact absurd rfl (n1 _)))<;>(try (exact absurd rfl (n2 _)))<;>(try (exact absurd rfl (n3 _ _ _)))<;>(try rfl)<;>(try (cases h;done))
  ·have:=kindB_eq h.1;have:=ieq_eq h.2;subst_vars;rfl
  ·subst_vars;rfl
  ·obtain⟨rfl,rfl⟩:=h;rfl
  ·obtain⟨⟨h1,h2⟩,rfl⟩:=h;rw[ieq_eq h1,ieq_eq h2]
  ·obtain⟨⟨h1,h2⟩,rfl⟩:=h;rw[ieq_eq h1,ieq_eq h2]
  ·subst_vars;rfl
  ·rw[bytes_eq h]
  ·subst_vars;rfl
  ·obtain⟨⟨⟨rfl,h2⟩,rfl⟩,rfl⟩:=h;rw[ieq_eq h2]
  ·obtain⟨⟨⟨rfl,h2⟩,h3⟩,rfl⟩:=h;rw[ieq_eq h2,ieq_eq h3]
  ·obtain⟨rfl,rfl⟩:=h;rfl
  ·obtain⟨⟨⟨rfl,h2⟩,rfl⟩,rfl⟩:=h;rw[ieq_eq h2]
  ·subst_vars;rfl
  ·subst_vars;rfl
 intro f
 induction f with
 | zero =>
   intro a b h;exact hsc 0 (fun l e=>by subst e;cases b<;>simp[svEq] at h) (fun l e=>by subst e;cases b<;>simp[svEq] at h) (fun g x c e=>by subst e;cases b<;>simp[svEq] at h) h
 | succ f ih =>
   intro a b h;cases a with
   | agg l=>cases b<;>simp[svEq] at h;rw[hL f (fun h=>ih h) h]
   | tup l=>cases b<;>simp[svEq] at h;rw[hL f (fun h=>ih h) h]
   | f g x c=>cases b<;>simp[svEq,beqT] at h;obtain⟨⟨rfl,h1⟩,h2⟩:=h;rw[hL f (fun h=>ih h) h1,hL f (fun h=>ih h) h2]
   | _=>exact hsc (f+1) (by simp) (by simp) (by simp) h
theorem V.fn:∀ (d:Nat){x:SV}{v w:Value},depS false d x=true→V ν β x v→V ν β x w→v=w:=by
 have hL:∀ (p:SV→Bool),(∀ x v w,p x=true→V ν β x v→V ν β x w→v=w)→∀ {l:List SV} {vs ws:List Value},l.all p=true→VL ν β l vs→VL ν β l ws→vs=ws:=by
  intro p hp l
  induction l with
  | nil=>intro vs ws _ h1 h2;cases h1;cases h2;rfl
  | cons x l ih =>
    intro vs ws ha h1 h2;cases h1 with
    | cons h1 l1=>cases h2 with
      | cons h2 l2 =>
        simp only[List.all_cons,baT] at ha;rw[hp x _ _ ha.1 h1 h2,ih ha.2 l1 l2]
 have hsc:∀ {d:Nat} {x:SV} {v w:Value},(∀ l,x≠ .agg l)→(∀ l,x≠ .tup l)→(∀ g a c,x≠ .f g a c)→depS false d x=true→V ν β x v→V ν β x w→v=w:=by
  intro d x v w n1 n2 n3 hd hv hw;cases hv with
  | i a1 _ _=>cases hw with|i b1 _ _=>rw[evI_inj a1 b1]
  | b x=>cases hw;rfl
  | bn a1=>cases hw with|bn b1=>rw[a1] at b1;cases b1;rfl
  | le a1 a2=>cases hw with|le b1 b2=>rw[evI_inj a1 b1,evI_inj a2 b2]
  | eq a1 a2=>cases hw with|eq b1 b2=>rw[evI_inj a1 b1,evI_inj a2 b2]
  | sn a1 _=>cases hw with|sn b1 _=>rw[a1] at b1;cases b1;rfl
  | lit _=>cases hw;rfl
  | ds a1=>cases hw with|ds b1=>rw[a1] at b1;cases b1;rfl
  | dp a1 a2 _ =>
    cases hw with
    | dp b1 b2 _ =>
      rw[a1] at b1;cases b1;have:=evI_inj a2 b2;have:_=_:=Int.ofNat.inj this;rw[this]
  | os _ _ _ _ _ _ _=>cases d<;>cases hd
  | osn _ _ _ _=>cases d<;>cases hd
  | p a1=>cases hw with|p b1=>rw[a1] at b1;cases b1;rfl
  | pv a1 a2 =>
    cases hw with
    | pv b1 b2 =>
      rw[a1] at b1;cases b1;have:_=_:=Int.ofNat.inj (evI_inj a2 b2);rw[this]
  | g k=>cases hw;rfl
  | m a1=>cases hw with|m b1=>rw[a1] at b1;cases b1;rfl
  | f _ _=>exact absurd rfl (n3 _ _ _)
  | agg _=>exact absurd rfl (n1 _)
  | tup _=>exact absurd rfl (n2 _)
 intro d
 induction d with
 | zero =>
   intro x v w hd hv hw;exact hsc (fun l e=>by subst e;cases hd) (fun l e=>by subst e;cases hd) (fun g a c e=>by subst e;cases hd) hd hv hw
 | succ d ih =>
   intro x v w hd hv hw;cases x with
   | agg l=>cases hv with|agg h1=>cases hw with|agg h2=>rw[hL (depS false d) (fun x v w=>ih) hd h1 h2]
   | tup l=>cases hv with|tup h1=>cases hw with|tup h2=>rw[hL (depS false d) (fun x v w=>ih) hd h1 h2]
   | f gg a c =>
     cases hv with
     | f h1 h2=>cases hw with
       | f h3 h4 =>
         simp only[depS,baT] at hd;rw[hL (depS false d) (fun x v w=>ih) hd.1 h1 h3,hL (depS false d) (fun x v w=>ih) hd.2 h2 h4]
   | _=>exact hsc (by simp) (by simp) (by simp) hd hv hw
structure Er(C:Cfg)(ν:List Value)(β:List (Option Nat))(a:AEnt)(x:Ent):Prop where
 did:a.did=x.did
 tm:∀ k y,get1 a.s0.t k=some y→∃ v,x.t.get k=some v∧V ν β y v
 v:V ν β a.x x.v
 h0:∀ i l,get1 a.s0.h i=some (.cells l)→∃ b cs,β[i]? =some (some b)∧x.h0.get b=some (.cells cs)∧VL ν β l cs
 h1:∀ i l,get1 a.s1.h i=some (.cells l)→∃ b cs,β[i]? =some (some b)∧x.h1.get b=some (.cells cs)∧VL ν β l cs
theorem Er.ext{ν':List Value}{β':List (Option Nat)}(e:Ext ν β ν' β'){a:AEnt}{x:Ent}(h:Er C ν β a x):Er C ν' β' a x :=
 {did:=h.did
  tm:=fun k y hk=>by obtain⟨v,h1,h2⟩:=h.tm k y hk;exact⟨v,h1,h2.ext e⟩
  v:=h.v.ext e
  h0:=fun i l hi=>by obtain⟨b,cs,h1,h2,h3⟩:=h.h0 i l hi;exact⟨b,cs,e.be h1,h2,h3.ext e⟩
  h1:=fun i l hi=>by obtain⟨b,cs,h1,h2,h3⟩:=h.h1 i l hi;exact⟨b,cs,e.be h1,h2,h3.ext e⟩}
inductive ErL (C:Cfg) (ν:List Value) (β:List (Option Nat)):List AEnt→List Ent→Prop
 | nil:ErL C ν β [] []
 | cons {a:AEnt} {x:Ent} {l:List AEnt} {m:List Ent} (h:Er C ν β a x) (hl:ErL C ν β l m):ErL C ν β (a :: l) (x :: m)
theorem ErL.ext{ν':List Value}{β':List (Option Nat)}(e:Ext ν β ν' β'):∀ {l:List AEnt}{m:List Ent},ErL C ν β l m→ErL C ν' β' l m
 | _,_,.nil=> .nil
 | _,_,.cons h hl=> .cons (h.ext e) (hl.ext e)
theorem ErL.snoc{a:AEnt}{x:Ent}:∀ {l:List AEnt}{m:List Ent},ErL C ν β l m→Er C ν β a x→ErL C ν β (l ++ [a]) (m ++ [x])
 | _,_,.nil,h=> .cons h .nil
 | _,_,.cons h hl,h'=> .cons h (hl.snoc h')
theorem ErL.at:∀ {l:List AEnt}{m:List Ent},ErL C ν β l m→∀ {i:Nat}{a:AEnt},nth l i=some a→∃ x,nth m i=some x∧Er C ν β a x
 | _,_,.nil,i,a,h=>by simp[nth] at h
 | _,_,.cons (x:=x) hx hl,i,a,h=>by
   cases i with
   | zero=>cases h;exact⟨x,rfl,hx⟩
   | succ i=>exact hl.at h
theorem Er.of{s1:S}{h':T Blk}{n':Nat}{ν':List Value}{β':List (Option Nat)}{t':T Value}{d:Bool}{x:SV}{v:Value}{m m':Nat}(g:Ga C R F h0 n0 s ν β t h n)(e:Ext ν β ν' β')(g1:Ga C R F h0 n0 s1 ν' β' t' h' n')(hv:V ν' β' x v):Er C ν' β' ⟨d,s,x,s1⟩ ⟨d,t,v,h,h',m,m'⟩ :=
 {did:=rfl
  tm:=fun k y hk=>by obtain⟨w,h1,h2⟩:=g.tm k y hk;exact⟨w,h1,h2.ext e⟩
  v:=hv
  h0:=fun i l hi=>by
   obtain⟨o,h1,h2⟩:=g.hp i _ hi;cases o with
   | none=>exact h2.elim
   | some b=>obtain⟨cs,h3,h4,_⟩:=h2;exact⟨b,cs,e.be h1,h3,h4.ext e⟩
  h1:=fun i l hi=>by
   obtain⟨o,h1,h2⟩:=g1.hp i _ hi;cases o with
   | none=>exact h2.elim
   | some b=>obtain⟨cs,h3,h4,_⟩:=h2;exact⟨b,cs,h1,h3,h4⟩}
theorem readS_ok{o:Oper}{a:AEnt}{x:Ent}(hx:Er C ν β a x)(hds:DsForm ν){st:S}{hh:T Blk}(hst:∀ i l,get1 st.h i=some (.cells l)→∃ b cs,β[i]? =some (some b)∧hh.get b=some (.cells cs)∧VL ν β l cs)(hr:readS C o a st=true):readsSame C.E o x hh=true:=by
 unfold readS at hr;split at hr
 ·rename_i ty k ho;split at hr
  ·rename_i i off ti hp hti;split at hr
   ·rename_i l hl;obtain⟨b,cs,h1,h2,h3⟩:=hst i l hl;have hev:evA C.E x.t (.tmp k)=some (.pointer (some ⟨b,off,none⟩)):=by
     obtain⟨v,h4,h5⟩:=hx.tm k _ hp;cases h5 with
     | p h6=>rw[h1] at h6;cases h6;exact h4
    unfold readsSame;rw[biE];split
    ·have key:∀ r,svEq 5 r a.x=true→depS false 4 r=true→∀ v,V ν β r v→sameV 8 v x.v=true:=by
      intro r e1 e2 v hv;have:=svEq_eq 5 e1;subst this;have:=V.fn 4 e2 hv hx.v;subst this;exact same_ok 4 (by omega) e2 hv hds
     have hld:∃ v,loadA C.E hh ty (.pointer (some ⟨b,off,none⟩))=some v∧sameV 8 v x.v=true:=by
      unfold loadA;simp only[hti,cellsOf,h2];unfold ldA;rw[biE] at hr ⊢;split at hr
      ·rename_i hag;rw[if_pos hag];split at hr
       ·rename_i r hr';rw[baT] at hr;obtain⟨w,h6,h7⟩:=h3.seg hr';rw[h6];exact⟨_,rfl,key _ hr.1 hr.2 _ (.agg h7)⟩
       ·cases hr
      ·rename_i hag;rw[if_neg hag];split at hr
       ·rename_i r hr';rw[baT] at hr;obtain⟨w,h6,h7⟩:=h3.at hr';exact⟨w,h6,key _ hr.1 hr.2 _ h7⟩
       ·cases hr
     obtain⟨v,h4,h5⟩:=hld;simp only[opA,ho,hev,h4,val?];exact h5
    ·rfl
   ·cases hr
  ·cases hr
 ·cases hr
theorem floatS_ok(hds:DsForm ν){all:List Oper}{log:List AEnt}{clog:List Ent}(hlog:ErL C ν β log clog):∀ {fl:List (Nat×Nat)},floatS C all log fl=true→floatOK C.E all clog fl=true
 | [],_=>rfl
 | (r,l) :: fl,hr=>by
   simp only[floatS,baT] at hr;simp only[floatOK,baT];refine⟨?_,floatS_ok hds hlog hr.2⟩;have h1:=hr.1;split at h1
   ·rename_i o a b ho ha hb;obtain⟨x,hx,ex⟩:=hlog.at ha;obtain⟨y,hy,ey⟩:=hlog.at hb;simp only[ho,hx,hy];rw[biE] at h1;split at h1
    ·have hst:∀ i l',get1 (bif Nat.blt r l then b.s1 else b.s0).h i=some (.cells l')→∃ c cs,β[i]? =some (some c)∧(bif Nat.blt r l then y.h1 else y.h0).get c=some (.cells cs)∧VL ν β l' cs:=by
      cases Nat.blt r l with
      | true=>exact ey.h1
      | false=>exact ey.h0
     exact readS_ok ex hds hst h1
    ·rename_i hnd;unfold readsSame;rw[biE,if_neg];rw[←ex.did];exact hnd
   ·cases h1
theorem aopsD_ok{callr:CallS}(hcall:CallOK C R F h0 n0 callr)(hlim:C.lim≤16000000){many:Nat}{all:List Oper}:∀ {l:List Oper}{acc:List AEnt}{cacc:List Ent}{s:S}{ν:List Value}{β:List (Option Nat)}{t:T Value}{h:T Blk}{n:Nat}{outs:List (List AEnt×S)},aopsD C callr many all l acc s=some outs→ErL C ν β acc cacc→Ga C R F h0 n0 s ν β t h n →
 ∃ clog t' h' n',(∃ G,∀ f,G≤f→opsD C.E (exec C.E f) many all l cacc t h n= .ok clog t' h' n')∧∃ p∈outs,∃ ν' β',Ext ν β ν' β'∧Ga C R F h0 n0 p.2 ν' β' t' h' n'∧ErL C ν' β' p.1 clog
 | [],acc,cacc,s,ν,β,t,h,n,outs,hr,hacc,g=>by simp only[aopsD,Option.some.injEq] at hr;subst hr;exact⟨cacc,t,h,n,⟨0,fun _ _=>rfl⟩,_,mcS ..,ν,β,.rfl',g,hacc⟩
 | o :: l,acc,cacc,s,ν,β,t,h,n,outs,hr,hacc,g=>by
   simp only[aopsD] at hr;split at hr
   ·rename_i gs hgs;obtain⟨b,s1,hw,hm,g1⟩:=guardS_ok g hgs;obtain⟨r,hr1,hsub⟩:=concO_mem hr _ hm;simp only at hr1;cases b with
    | true =>
      simp only[_root_.cond_true] at hr1;rw[biE] at hr1;split at hr1
      ·rename_i hdep;have hbel:=depT_ok g1 hdep;split at hr1
       ·rename_i outs1 ho;obtain⟨v,h1,n1,hs,p,hp,ν1,β1,e1,g2,hv⟩:=aop_ok hcall hlim g1 ho;obtain⟨r2,hr2,hsub2⟩:=concO_mem hr1 _ hp;split at hr2
        ·rename_i s3 hs3;obtain⟨t3,ht3,g3⟩:=putS_ok g2 hs3 hv;have hEr:Er C ν1 β1 ⟨true,s1,p.1,p.2⟩ ⟨true,t,v,h,h1,n,n1⟩:=Er.of g1 e1 g2 hv;obtain⟨clog,t',h',n',⟨G,hG⟩,q,hq,ν',β',e2,g4,hl⟩:=aopsD_ok hcall hlim hr2 ((hacc.ext e1).snoc hEr) g3;refine⟨clog,t',h',n',?_,q,hsub _ (hsub2 _ hq),ν',β',e1.trans e2,g4,hl⟩;rcases hs with hs|⟨hs,rfl⟩|⟨f,args,hs,G1,hG1⟩
         ·exact⟨G,fun f hf=>by simp only[opsD,hw,opN,hs,ht3,hbel,_root_.cond_true];exact hG f hf⟩
         ·exact⟨G,fun f hf=>by simp only[opsD,hw,opN,hs,ht3,hbel,_root_.cond_true];exact hG f hf⟩
         ·exact⟨max G G1,fun k hf=>by simp only[opsD,hw,opN,hs,hG1 k (by omega),ht3,hbel,_root_.cond_true];exact hG k (by omega)⟩
        ·cases hr2
       ·cases hr1
      ·cases hr1
    | false =>
      simp only[_root_.cond_false] at hr1;split at hr1
      ·rename_i s3 hs3;obtain⟨t3,ht3,g3⟩:=putS_ok g1 hs3 (v:=undefV) (.tup .nil);have hEr:Er C ν β ⟨false,s1,undefS,s1⟩ ⟨false,t,undefV,h,h,n,n⟩:=Er.of g1 .rfl' g1 (.tup .nil);obtain⟨clog,t',h',n',⟨G,hG⟩,q,hq,ν',β',e2,g4,hl⟩:=aopsD_ok hcall hlim hr1 (hacc.snoc hEr) g3;exact⟨clog,t',h',n',⟨G,fun f hf=>by simp only[opsD,hw,ht3];exact hG f hf⟩,q,hsub _ hq,ν',β',e2,g4,hl⟩
      ·cases hr1
   ·cases hr
end
noncomputable section
abbrev AnS:=Nat→Code→S→Option (List (Ex×S))
def knowS(s:S)(x:Operand)(b:Bool):S :=
 match x with
 | .tmp k=>{s with t:=put1 s.t k (.b b)}
 | _=>s
def exitS(id:Nat)(p:Ex×S):Ex×S :=
 match p.1 with
 | .exit i=>bif Nat.beq i id then (.normal,p.2) else p
 | _=>p
def mapN(l:List S):List (Ex×S):=l.map fun s=>(.normal,s)
def mapLitS(C:Cfg)(callr:CallS)(many:Nat)(ops:List Oper)(s:S):Option (List S) :=
 match ops with
 | o :: rest =>
   (match o.op,o.dst with
    | .makeMap mt none,some m =>
      bif o.guard.isNone&&o.after.toList.isEmpty then
       (match mapPairs C.E mt m 1 rest,C.E.ty.get mt with
        | some (l,tl),some i =>
          (match i.d with
           | .map kt et =>
             (match kkOf C.E kt,scT C et with
              | some kk,some ct =>
                bif l.all (fun x=>Nat.blt x.1 many&&fitKK kk x.2.1&&fitK1 C.E kt x.2.1&&litCT ct x.2.2)&&Nat.blt m many&&keysApart kk l then
                 aopsS C callr many ops tl (delTs l ((s.blk (.map kt ct)).set m (.m s.nb)))
                else none
              | _,_=>none)
           | _=>none)
        | _,_=>none)
      else none
    | _,_=>none)
 | []=>none
where
 litCT (ct:CT) (v:Value):Bool :=
  match ct,v with
  | .int k,.int j x=>kindEq k j&&inK k x
  | .bool,.bool _=>true
  | .str,.string s=>Nat.ble s.size 16000000
  | _,_=>false
 delTs:List (Tmp×Value×Value)→S→S
  | [],s=>s
  | x :: l,s=>delTs l {s with t:=del1 s.t x.1}
def stepAn(sc:Bool)(C:Cfg)(callr:CallS)(rec:AnS)(lp:Nat→Code→S→Option (List (Ex×S))):AnS:=fun many c s =>
 match c with
 | .skip=>some [(.normal,s)]
 | .label _=>some [(.normal,s)]
 | .seq a b =>
   (match rec many a s with
    | some outs=>concO (fun p:Ex×S=>match p.1 with
     | .normal=>rec many b p.2
     | e=>some [(e,p.2)]) outs
    | none=>none)
 | .cond x a b =>
   (match evS C s x with
    | some v=>(match splitB s v with
     | some l=>concO (fun p:Bool×S=>rec many (bif p.1 then a else b) (knowS p.2 x p.1)) l
     | none=>none)
    | none=>none)
 | .block id b=>(match rec many b s with|some outs=>some (outs.map (exitS id))|none=>none)
 | .loop b=>lp many b s
 | .scope b=>bif sc then none else rec many b s
 | .exit id=>some [(.exit id,s)]
 | .ret=>some [(.ret,s)]
 | .region _ ops false=>(match aopsS C callr many ops.toList ops.toList s with|some l=>some (mapN l)|none=>none)
 | .region _ ops true=>drawS C callr many ops.toList s
 | _=>none
where
 drawS (C:Cfg) (callr:CallS) (many:Nat) (ops:List Oper) (s:S):Option (List (Ex×S)) :=
  bif regOK ops then (match aopsD C callr many ops ops [] s with
   | some l=>bif l.all (fun p=>floatS C ops p.1 (regFl ops)) then some (mapN (l.map (·.2))) else none
   | none=>none)
  else (match cutLast ops with
   | some (_,o)=>(match o.op with
     | .store _ _ _=>none
     | _=>(match mapLitS C callr many ops s with|some l=>some (mapN l)|none=>none))
   | none=>none)
end
section
variable {rd:Option Nat}{C:Cfg}{R:Nat}{F:Nat→Prop}{h0:T Blk}{n0:Nat}
def LpOK(rd:Option Nat)(C:Cfg)(R:Nat)(F:Nat→Prop)(h0:T Blk)(n0:Nat)(lp:Nat→Code→S→Option (List (Ex×S))):Prop :=
 ∀ many b s outs ν β t h n,lp many b s=some outs→Ga C R F h0 n0 s ν β t h n →
   ∃ e t' h' n',Ev C.E (.loop b) rd many t [] h n (.ok e t' [] h' n')∧∃ p∈outs,p.1=e∧∃ ν' β',Ext ν β ν' β'∧Ga C R F h0 n0 p.2 ν' β' t' h' n'
def AnOK(rd:Option Nat)(C:Cfg)(R:Nat)(F:Nat→Prop)(h0:T Blk)(n0:Nat)(an:AnS):Prop :=
 ∀ many c s outs ν β t h n,an many c s=some outs→Ga C R F h0 n0 s ν β t h n →
   ∃ e t' h' n',Ev C.E c rd many t [] h n (.ok e t' [] h' n')∧∃ p∈outs,p.1=e∧∃ ν' β',Ext ν β ν' β'∧Ga C R F h0 n0 p.2 ν' β' t' h' n'
theorem knowS_ok{s:S}{ν:List Value}{β:List (Option Nat)}{t:T Value}{h:T Blk}{n:Nat}(g:Ga C R F h0 n0 s ν β t h n){x:Operand}{b:Bool}(hx:evA C.E t x=some (.bool b)):Ga C R F h0 n0 (knowS s x b) ν β t h n:=by
 unfold knowS;split
 ·exact g.know hx (.b b)
 ·exact g
theorem delTs_ok{ν:List Value}{β:List (Option Nat)}{h:T Blk}{n:Nat}:∀ {l:List (Tmp×Value×Value)}{s:S}{t:T Value},Ga C R F h0 n0 s ν β t h n→(∀ x∈l,∀ y,get1 s.t x.1=some y→False∨True)→Ga C R F h0 n0 (mapLitS.delTs l s) ν β (putTs l t) h n
 | [],s,t,g,_=>g
 | x :: l,s,t,g,hx=>by
   refine delTs_ok (l:=l) (t:=t.upd (some x.2.1) x.1) (g.tmps fun k y hk=>?_) fun _ _ _ _=> .inr trivial
   rw[get1_del] at hk;split at hk
   ·cases hk
   ·rename_i e;obtain⟨v,h1,h2⟩:=g.tm k y hk;exact⟨v,by rw[T.gnE _ _ e];exact h1,h2⟩
theorem litCT_ok{ct:CT}{v:Value}(hx:mapLitS.litCT ct v=true){Γ:List (List CT)}{lim:Nat}{h:T Blk}:D Γ lim h 0 ct v:=by
 unfold mapLitS.litCT at hx;split at hx
 ·rename_i k j x;rw[baT,inK_iff] at hx;have:=kindB_eq hx.1;subst this;exact .int hx.2.1 hx.2.2
 ·exact .bool _
 ·rw[bleT] at hx;exact .str hx
 ·cases hx
theorem mapLitS_ok{callr:CallS}(hcall:CallOK C R F h0 n0 callr)(hlim:C.lim≤16000000){s:S}{ν:List Value}{β:List (Option Nat)}{t:T Value}{h:T Blk}{n:Nat}(g:Ga C R F h0 n0 s ν β t h n){many:Nat}{ops:List Oper}{outs:List S}(hr:mapLitS C callr many ops s=some outs) :
 ∃ t' h' n',(∃ G,∀ f,G≤f→regM C.E (exec C.E f) rd many ops t [] h n= .ok .normal t' [] h' n')∧∃ s'∈outs,∃ ν' β',Ext ν β ν' β'∧Ga C R F h0 n0 s' ν' β' t' h' n':=by
 unfold mapLitS at hr;split at hr
 ·rename_i o rest;split at hr
  ·rename_i mt m ho hd;rw[biE] at hr;split at hr
   ·rename_i hg;split at hr
    ·rename_i l tl i hp hi;split at hr
     ·rename_i kt et hdt;split at hr
      ·rename_i kk ct hkk hct;rw[biE] at hr;split at hr
       ·rename_i hc;simp only[baT,List.all_eq_true] at hc;obtain⟨⟨hc1,hc2⟩,hc3⟩:=hc;have g1:=g.blk (a:= .map kt ct) (k:= .map (l.map (·.2))) ⟨_,kk,T.gsE _ _ _,hkk,fun e he=>by
         obtain⟨x,hx,rfl⟩:=List.mem_map.1 he;obtain⟨⟨⟨_,h2⟩,h3⟩,h4⟩:=hc1 x hx;exact⟨h2,h3,litCT_ok h4⟩⟩
        have g2:=g1.set (x:= .m s.nb) (v:= .map (some n)) (.m (by rw[←g.bl];simp)) m;have g3:=delTs_ok (l:=l) g2 fun _ _ _ _=> .inr trivial
        obtain⟨t',h',n',⟨G,hG⟩,s',hs',ν',β',e,g4⟩:=aopsS_ok hcall hlim hr g3;refine⟨t',h',n',⟨G,fun f hf=>?_⟩,s',hs',ν',β',(Ext.blk _ _ _).trans e,g4⟩;unfold regM;simp only[ho,hd,hg,_root_.cond_true,hp,hi,hdt,hkk];rw[biE,if_pos]
        ·exact hG f hf
        ·simp only[baT,List.all_eq_true];exact⟨⟨fun x hx=>⟨(hc1 x hx).1.1.1,(hc1 x hx).1.1.2⟩,hc2⟩,hc3⟩
       ·cases hr
      ·cases hr
     ·cases hr
    ·cases hr
   ·cases hr
  ·cases hr
 ·cases hr
theorem drawS_ok{callr:CallS}(hcall:CallOK C R F h0 n0 callr)(hlim:C.lim≤16000000){s:S}{ν:List Value}{β:List (Option Nat)}{t:T Value}{h:T Blk}{n:Nat}(g:Ga C R F h0 n0 s ν β t h n){many:Nat}{ops:List Oper}{outs:List (Ex×S)}(hr:stepAn.drawS C callr many ops s=some outs) :
 ∃ e t' h' n',(∃ G,∀ f,G≤f→regD C.E (exec C.E f) rd many ops t [] h n= .ok e t' [] h' n')∧∃ p∈outs,p.1=e∧∃ ν' β',Ext ν β ν' β'∧Ga C R F h0 n0 p.2 ν' β' t' h' n':=by
 unfold stepAn.drawS at hr;rw[biE] at hr;split at hr
 ·rename_i hreg;split at hr
  ·rename_i l hl;rw[biE] at hr;split at hr
   ·rename_i hfl;cases hr;obtain⟨clog,t',h',n',⟨G,hG⟩,p,hp,ν',β',e,g4,hlog⟩:=aopsD_ok hcall hlim hl (cacc:=[]) .nil g;rw[List.all_eq_true] at hfl;have hfo:=floatS_ok (fun j a l c hj=>g4.ds_form hj) hlog (hfl p hp);refine⟨.normal,t',h',n',⟨G,fun f hf=>?_⟩,(.normal,p.2),List.mem_map.2 ⟨p.2,List.mem_map.2 ⟨p,hp,rfl⟩,rfl⟩,rfl,ν',β',e,g4⟩;unfold regD;rw[biE,if_pos hreg];simp only[hG f hf,hfo,_root_.cond_true]
   ·cases hr
  ·cases hr
 ·rename_i hreg;split at hr
  ·rename_i os o hcut;split at hr
   ·cases hr
   ·rename_i hns;split at hr
    ·rename_i l hl;cases hr;obtain⟨t',h',n',⟨G,hG⟩,s',hs',ν',β',e,g4⟩:=mapLitS_ok hcall hlim g hl;refine⟨.normal,t',h',n',⟨G,fun f hf=>?_⟩,(.normal,s'),List.mem_map.2 ⟨s',hs',rfl⟩,rfl,ν',β',e,g4⟩;unfold regD;rw[biE,if_neg hreg];simp only[hcut];rw[←hG f hf]
    ·cases hr
  ·cases hr
theorem exitS_ok{id:Nat}{b:Code}{many:Nat}{t t':T Value}{h h':T Blk}{n n':Nat}{e:Ex}{s:S}(hx:Ev C.E b rd many t [] h n (.ok e t' [] h' n')):Ev C.E (.block id b) rd many t [] h n (.ok (exitS id (e,s)).1 t' [] h' n')∧(exitS id (e,s)).2=s:=by
 cases e with
 | normal=>exact⟨.block_normal hx,rfl⟩
 | ret=>exact⟨.block_ret hx,rfl⟩
 | exit i =>
   unfold exitS;simp only;rw[biE];split
   ·rename_i hi;rw[beqT] at hi;subst hi;exact⟨.block_exit hx,rfl⟩
   ·rename_i hi;refine⟨.block_other ?_ hx,rfl⟩;cases hb:Nat.beq i id with
    | false=>rfl
    | true=>exact absurd hb hi
theorem stepAn_ok{callr:CallS}{rec:AnS}{lp:Nat→Code→S→Option (List (Ex×S))}(hcall:CallOK C R F h0 n0 callr)(hlim:C.lim≤16000000)(hrec:AnOK rd C R F h0 n0 rec)(hlp:LpOK rd C R F h0 n0 lp){sc:Bool}(hsc:sc=true∨rd=none):AnOK rd C R F h0 n0 (stepAn sc C callr rec lp):=by
 intro many c s outs ν β t h n hr g;unfold stepAn at hr;split at hr
 ·cases hr;exact⟨.normal,t,h,n,.skip,_,mcS ..,rfl,ν,β,.rfl',g⟩
 ·cases hr;exact⟨.normal,t,h,n,.label,_,mcS ..,rfl,ν,β,.rfl',g⟩
 ·rename_i a b;split at hr
  ·rename_i o1 ho1;obtain⟨e,t1,h1,n1,x1,⟨e',s1⟩,hp,rfl,ν1,β1,e1,g1⟩:=hrec many a s o1 ν β t h n ho1 g;obtain⟨r,hr1,hsub⟩:=concO_mem hr _ hp;cases e' with
   | normal =>
     simp only at hr1 x1;obtain⟨e,t2,h2,n2,x2,p2,hp2,h3,ν2,β2,e2,g2⟩:=hrec many b s1 r ν1 β1 t1 h1 n1 hr1 g1;exact⟨e,t2,h2,n2,.seq x1 x2,p2,hsub _ hp2,h3,ν2,β2,e1.trans e2,g2⟩
   | ret =>
     simp only[Option.some.injEq] at hr1;subst hr1;exact⟨.ret,t1,h1,n1,.seq_out x1 (by simp),_,hsub _ (mcS ..),rfl,ν1,β1,e1,g1⟩
   | exit i =>
     simp only[Option.some.injEq] at hr1;subst hr1;exact⟨.exit i,t1,h1,n1,.seq_out x1 (by simp),_,hsub _ (mcS ..),rfl,ν1,β1,e1,g1⟩
  ·cases hr
 ·rename_i x a b;split at hr
  ·rename_i y hy;obtain⟨v,h1,h2⟩:=evS_ok g hy;split at hr
   ·rename_i l hl;obtain⟨bb,s',rfl,hm,g'⟩:=splitB_ok g hl h2;obtain⟨r,hr1,hsub⟩:=concO_mem hr _ hm;simp only at hr1;obtain⟨e,t2,h2,n2,x2,p2,hp2,h3,ν2,β2,e2,g2⟩:=hrec many _ _ r ν β t h n hr1 (knowS_ok g' h1);refine⟨e,t2,h2,n2,?_,p2,hsub _ hp2,h3,ν2,β2,e2,g2⟩;cases bb with
    | true=>exact .cond_true h1 x2
    | false=>exact .cond_false h1 x2
   ·cases hr
  ·cases hr
 ·rename_i id b;split at hr
  ·rename_i o1 ho1;cases hr;obtain⟨e,t1,h1,n1,x1,⟨e',s1⟩,hp,rfl,ν1,β1,e1,g1⟩:=hrec many b s o1 ν β t h n ho1 g;obtain⟨x2,hs⟩:=exitS_ok (id:=id) (s:=s1) x1;exact⟨_,t1,h1,n1,x2,_,List.mem_map.2 ⟨_,hp,rfl⟩,rfl,ν1,β1,e1,by rw[hs];exact g1⟩
  ·cases hr
 ·rename_i b;exact hlp many b s outs ν β t h n hr g
 ·rename_i b;rw[biE] at hr;split at hr
  ·cases hr
  ·rename_i hns;rcases hsc with hsc|rfl
   ·exact absurd hsc hns
   ·obtain⟨e,t1,h1,n1,x1,p,hp,h3,ν1,β1,e1,g1⟩:=hrec many b s outs ν β t h n hr g;exact⟨e,t1,h1,n1,.scope x1,p,hp,h3,ν1,β1,e1,g1⟩
 ·rename_i id;cases hr;exact⟨.exit id,t,h,n,.exit,_,mcS ..,rfl,ν,β,.rfl',g⟩
 ·cases hr;exact⟨.ret,t,h,n,.ret,_,mcS ..,rfl,ν,β,.rfl',g⟩
 ·rename_i id ops;split at hr
  ·rename_i l hl;cases hr;obtain⟨t',h',n',⟨G,hG⟩,s',hs',ν',β',e,g4⟩:=aopsS_ok hcall hlim hl g;exact⟨.normal,t',h',n',Ev.step ⟨G,fun f hf=>by simp only[stepA];exact hG f hf⟩,(.normal,s'),List.mem_map.2 ⟨s',hs',rfl⟩,rfl,ν',β',e,g4⟩
  ·cases hr
 ·rename_i id ops;obtain⟨e,t',h',n',⟨G,hG⟩,p,hp,h3,ν',β',e1,g4⟩:=drawS_ok hcall hlim g hr;exact⟨e,t',h',n',Ev.step ⟨G,fun f hf=>by simp only[stepA];exact hG f hf⟩,p,hp,h3,ν',β',e1,g4⟩
 ·cases hr
end
noncomputable section
inductive It where
 | keep (x:SV)
 | int (k:IntKind)
 | bool
 | str
 | ds (q:Nat) (r:RK)
 | os (q:Nat) (r:RK) (sz:Nat)
inductive Bt where
 | cells (l:List It)
 | map (kt:TypeId) (ct:CT)
 | vec (q:Nat) (r:RK) (low:IE)
 | iter (j:Nat)
structure Pl where
 ts:List (Nat×It)
 bs:List (Nat×Bt)
 fs:List (IE×IE)
def oldI(n:Nat)(e:IE):Bool :=
 match e.b with
 | .c=>true
 | .v j=>Nat.blt j n
 | .ln j=>Nat.blt j n
def oldS(nv nb:Nat):Nat→SV→Bool
 | _,.i _ e=>oldI nv e
 | _,.b _=>true
 | _,.bn j _=>Nat.blt j nv
 | _,.le x y _=>oldI nv x&&oldI nv y
 | _,.eq x y _=>oldI nv x&&oldI nv y
 | _,.sn j=>Nat.blt j nv
 | _,.lit _=>true
 | _,.ds j=>Nat.blt j nv
 | _,.dp j e _ _=>Nat.blt j nv&&oldI nv e
 | _,.os i a b _=>Nat.blt i nb&&oldI nv a&&oldI nv b
 | _,.p i _=>Nat.blt i nb
 | _,.pv i e _ _=>Nat.blt i nb&&oldI nv e
 | _,.g _=>true
 | _,.m i=>Nat.blt i nb
 | f+1,.f _ a c=>a.all (oldS nv nb f)&&c.all (oldS nv nb f)
 | f+1,.agg l=>l.all (oldS nv nb f)
 | f+1,.tup l=>l.all (oldS nv nb f)
 | _,_=>false
def addV(C:Cfg)(w:S):It→SV×S
 | .keep x=>(x,w)
 | .int k=>(.i k ⟨.v w.ty.length,0⟩,w.name (.int k))
 | .bool=>(.bn w.ty.length false,w.name .bool)
 | .str=>((freshC C w .top .str).2,(freshC C w .top .str).1)
 | .ds q r=>((freshC C w r (.sl q)).2,(freshC C w r (.sl q)).1)
 | .os q r sz=>(.os w.nb ⟨.v w.ty.length,0⟩ ⟨.v (w.ty.length+1),0⟩ sz,
  (((((w.name (.int .i64)).name (.int .i64)).fact (ieC 0) ⟨.v w.ty.length,0⟩).fact ⟨.v w.ty.length,0⟩ ⟨.v (w.ty.length+1),0⟩).fact ⟨.v (w.ty.length+1),0⟩ (ieC 1000000000)).blk (.vec q r ⟨.v (w.ty.length+1),0⟩))
def addVs(C:Cfg):S→List It→List SV×S
 | w,[]=>([],w)
 | w,i :: l=>((addV C w i).1 :: (addVs C (addV C w i).2 l).1,(addVs C (addV C w i).2 l).2)
def addTs(C:Cfg):S→List (Nat×It)→S
 | w,[]=>w
 | w,(k,i) :: l=>addTs C {(addV C w i).2 with t:=put1 (addV C w i).2.t k (addV C w i).1} l
def addB(C:Cfg)(w:S)(i:Nat):Bt→S
 | .cells l=>{(addVs C w l).2 with h:=put1 (addVs C w l).2.h i (.cells (addVs C w l).1)}
 | .map kt ct=>{w with h:=put1 w.h i (.map kt ct)}
 | .vec q r low=>{w with h:=put1 w.h i (.vec q r low)}
 | .iter j=>{(w.name (.int .i64)) with h:=put1 w.h i (.iter j ⟨.v w.ty.length,0⟩)}
def addBs(C:Cfg):S→List (Nat×Bt)→S
 | w,[]=>w
 | w,(i,b) :: l=>addBs C (addB C w i b) l
def base(s:S):S:={t:=[],ty:=s.ty,nb:=s.nb,h:=[],fs:=s.fs,r:=s.r,rv:=s.rv}
def headS(C:Cfg)(s:S)(p:Pl):S :=
 {(addBs C (addTs C (base s) p.ts) p.bs) with fs:=p.fs ++ (addBs C (addTs C (base s) p.ts) p.bs).fs}
structure Ck where
 n:Nat
 σ:List (Nat×IE)
 us:List Nat
def okV(C:Cfg)(nv nb:Nat)(st:S)(y:SV)(c:Ck):It→Option Ck
 | .keep x=>bif svEq 5 x y&&oldS nv nb 5 x then some c else none
 | .int k=>(match y with| .i j e=>bif kindEq j k then some {c with n:=c.n+1,σ:=(c.n,e) :: c.σ} else none|_=>none)
 | .bool=>bif isBool y then some {c with n:=c.n+1} else none
 | .str=>bif isStr y then some {c with n:=c.n+1} else none
 | .ds q r=>bif svCT st r y (.sl q) then some {c with n:=c.n+1} else none
 | .os q r sz =>
   (match nth C.Γ q with
    | some cts =>
      bif Nat.beq cts.length sz&&Nat.blt 0 sz then
       (match y with
        | .os i len low sz' =>
          (match get1 st.h i with
           | some (.vec q' r' low')=>bif Nat.beq q q'&&rkLe r' r&&ieEq low low'&&Nat.beq sz sz'&& !memN i c.us then some {n:=c.n+2,σ:=(c.n,len) :: (c.n+1,low) :: c.σ,us:=i :: c.us} else none
           | _=>none)
        | .lit (.slice none 0 0)=>some {c with n:=c.n+2,σ:=(c.n,ieC 0) :: (c.n+1,ieC 0) :: c.σ}
        | _=>none)
      else none
    | none=>none)
def okVs(C:Cfg)(nv nb:Nat)(st:S):List SV→Ck→List It→Option Ck
 | [],c,[]=>some c
 | y :: ys,c,i :: l=>(match okV C nv nb st y c i with|some c'=>okVs C nv nb st ys c' l|none=>none)
 | _,_,_=>none
def okTs(C:Cfg)(nv nb:Nat)(st:S):Ck→List (Nat×It)→Option Ck
 | c,[]=>some c
 | c,(k,i) :: l=>(match get1 st.t k with
   | some y=>(match okV C nv nb st y c i with|some c'=>okTs C nv nb st c' l|none=>none)
   | none=>none)
def okB(C:Cfg)(nv nb:Nat)(st:S)(c:Ck)(i:Nat):Bt→Option Ck
 | .cells l=>(match get1 st.h i with
   | some (.cells ys)=>bif ys.all cellOK then okVs C nv nb st ys {c with us:=i :: c.us} l else none
   | _=>none)
 | .map kt ct=>(match get1 st.h i with
   | some (.map kt' ct')=>bif Nat.beq kt kt'&&ctEq ct ct' then some {c with us:=i :: c.us} else none
   | _=>none)
 | .vec q r low=>(match get1 st.h i with
   | some (.vec q' r' low')=>bif Nat.beq q q'&&rkEq r r'&&ieEq low low'&&oldI nv low then some {c with us:=i :: c.us} else none
   | _=>none)
 | .iter j=>(match get1 st.h i with
   | some (.iter j' e)=>bif Nat.beq j j'&&Nat.blt j nv&&leQ st (ieC 0) e&&leQ st e (ieC 100000000) then some {n:=c.n+1,σ:=(c.n,e) :: c.σ,us:=i :: c.us} else none
   | _=>none)
where
 rkEq:RK→RK→Bool
  | .top,.top=>true
  | .cur,.cur=>true
  | .low,.low=>true
  | _,_=>false
def okBs(C:Cfg)(nv nb:Nat)(st:S):Ck→List (Nat×Bt)→Option Ck
 | c,[]=>some c
 | c,(i,b) :: l=>bif Nat.blt i nb&& !memN i c.us then (match okB C nv nb st c i b with|some c'=>okBs C nv nb st c' l|none=>none) else none
def trI(nv:Nat)(σ:List (Nat×IE))(e:IE):Option IE :=
 bif oldI nv e then some e
 else (match e.b with
  | .v j=>(match get1 σ j with|some e'=>some ⟨e'.b,addI e'.k e.k⟩|none=>none)
  | _=>none)
def okF(nv:Nat)(st:S)(σ:List (Nat×IE))(f:IE×IE):Bool :=
 match trI nv σ f.1,trI nv σ f.2 with
 | some a,some b=>leQ st a b
 | _,_=>false
def ntEq:NT→NT→Bool
 | .int j,.int k=>kindEq j k
 | .bool,.bool=>true
 | .str,.str=>true
 | .sl p a,.sl q b=>Nat.beq p q&&okB.rkEq a b
 | _,_=>false
def preTy:List NT→List NT→Bool
 | [],_=>true
 | a :: l,b :: m=>ntEq a b&&preTy l m
 | _ :: _,[]=>false
def okP(C:Cfg)(s st:S)(p:Pl):Option Ck :=
 bif preTy s.ty st.ty then
  (match okTs C s.ty.length s.nb st ⟨s.ty.length,[],[]⟩ p.ts with
   | some c=>(match okBs C s.ty.length s.nb st c p.bs with
     | some c'=>bif p.fs.all (okF s.ty.length st c'.σ) then some c' else none
     | none=>none)
   | none=>none)
 else none
end
theorem memN_iff{n:Nat}:∀ {l:List Nat},memN n l=true↔n∈l
 | []=>by simp[memN]
 | k :: l=>by simp only[memN,Bool.or_eq_true,beqT,List.mem_cons,memN_iff];exact or_congr_left ⟨fun h=>h.symm,fun h=>h.symm⟩
theorem gpre{α:Type}{l m:List α}{j:Nat}{x:α}(hj:j<l.length)(h:(l ++ m)[j]? =some x):l[j]? =some x:=by
 rwa [List.getElem?_append_left hj] at h
theorem evI_old{ν l:List Value}{e:IE}{x:Int}(ho:oldI ν.length e=true)(h:evI (ν ++ l) e=some x):evI ν e=some x:=by
 have:evB (ν ++ l) e.b=evB ν e.b:=by
  unfold oldI at ho;split at ho
  ·rename_i hb;rw[hb];rfl
  ·rename_i j hb;rw[hb,evB,evB,List.getElem?_append_left (by rw[bltT] at ho;exact ho)]
  ·rename_i j hb;rw[hb,evB,evB,List.getElem?_append_left (by rw[bltT] at ho;exact ho)]
 unfold evI at h ⊢;rw[this] at h;exact h
theorem V.old{ν l:List Value}{β m:List (Option Nat)}:∀ (d:Nat){x:SV}{v:Value},oldS ν.length β.length d x=true→V (ν ++ l) (β ++ m) x v→V ν β x v:=by
 have hL:∀ (p:SV→Bool),(∀ x v,p x=true→V (ν ++ l) (β ++ m) x v→V ν β x v)→∀ {xs:List SV} {vs:List Value},xs.all p=true→VL (ν ++ l) (β ++ m) xs vs→VL ν β xs vs:=by
  intro p hp xs
  induction xs with
  | nil=>intro vs _ h;cases h;exact .nil
  | cons x xs ih =>
    intro vs ha h;cases h with
    | cons h hl =>
      simp only[List.all_cons,baT] at ha;exact .cons (hp x _ ha.1 h) (ih ha.2 hl)
 have hsc:∀ {d:Nat} {x:SV} {v:Value},(∀ l,x≠ .agg l)→(∀ l,x≠ .tup l)→(∀ g a c,x≠ .f g a c)→oldS ν.length β.length d x=true→V (ν ++ l) (β ++ m) x v→V ν β x v:=by
  intro d x v n1 n2 n3 hd hv;cases hv with
  | @i k e x h h1 h2 =>
    have:oldI ν.length e=true:=by cases d<;>exact hd
    exact .i (evI_old this h) h1 h2
  | b x=>exact .b x
  | @bn j neg x h =>
    have:Nat.blt j ν.length=true:=by cases d<;>exact hd
    exact .bn (gpre (by rw[bltT] at this;exact this) h)
  | @le e e' neg x y h h' =>
    have:(oldI ν.length e&&oldI ν.length e')=true:=by cases d<;>exact hd
    rw[baT] at this;exact .le (evI_old this.1 h) (evI_old this.2 h')
  | @eq e e' neg x y h h' =>
    have:(oldI ν.length e&&oldI ν.length e')=true:=by cases d<;>exact hd
    rw[baT] at this;exact .eq (evI_old this.1 h) (evI_old this.2 h')
  | @sn j z h h1 =>
    have:Nat.blt j ν.length=true:=by cases d<;>exact hd
    exact .sn (gpre (by rw[bltT] at this;exact this) h) h1
  | lit h=>exact .lit h
  | @ds j a lc c h =>
    have:Nat.blt j ν.length=true:=by cases d<;>exact hd
    exact .ds (gpre (by rw[bltT] at this;exact this) h)
  | @dp j b o lc c x e sz off h h1 h2 =>
    have:(Nat.blt j ν.length&&oldI ν.length e)=true:=by cases d<;>exact hd
    rw[baT,bltT] at this;exact .dp (gpre this.1 h) (evI_old this.2 h1) h2
  | @os i b L W c len low sz h h1 h2 h3 h4 h5 h6 =>
    have:(Nat.blt i β.length&&oldI ν.length len&&oldI ν.length low)=true:=by cases d<;>exact hd
    rw[baT,baT,bltT] at this;exact .os (gpre this.1.1 h) (evI_old this.1.2 h1) (evI_old this.2 h2) h3 h4 h5 h6
  | @osn i len low sz h h1 h2 h6 =>
    have:(Nat.blt i β.length&&oldI ν.length len&&oldI ν.length low)=true:=by cases d<;>exact hd
    rw[baT,baT,bltT] at this;exact .osn (gpre this.1.1 h) (evI_old this.1.2 h1) (evI_old this.2 h2) h6
  | @p i b off h =>
    have:Nat.blt i β.length=true:=by cases d<;>exact hd
    exact .p (gpre (by rw[bltT] at this;exact this) h)
  | @pv i b x e sz off h h1 =>
    have:(Nat.blt i β.length&&oldI ν.length e)=true:=by cases d<;>exact hd
    rw[baT,bltT] at this;exact .pv (gpre this.1 h) (evI_old this.2 h1)
  | g k=>exact .g k
  | @m i b h =>
    have:Nat.blt i β.length=true:=by cases d<;>exact hd
    exact .m (gpre (by rw[bltT] at this;exact this) h)
  | f _ _=>exact absurd rfl (n3 _ _ _)
  | agg _=>exact absurd rfl (n1 _)
  | tup _=>exact absurd rfl (n2 _)
 intro d
 induction d with
 | zero =>
   intro x v hd hv;exact hsc (fun l e=>by subst e;cases hd) (fun l e=>by subst e;cases hd) (fun g a c e=>by subst e;cases hd) hd hv
 | succ d ih =>
   intro x v hd hv;cases x with
   | agg xs=>cases hv with|agg h=>exact .agg (hL _ (fun x v h1 h2=>ih h1 h2) hd h)
   | tup xs=>cases hv with|tup h=>exact .tup (hL _ (fun x v h1 h2=>ih h1 h2) hd h)
   | f gg a c =>
     cases hv with
     | f h h1 =>
       simp only[oldS,baT] at hd;exact .f (hL _ (fun x v h1 h2=>ih h1 h2) hd.1 h) (hL _ (fun x v h1 h2=>ih h1 h2) hd.2 h1)
   | _=>exact hsc (by simp) (by simp) (by simp) hd hv
section
variable {C:Cfg}{R:Nat}{F:Nat→Prop}{h0:T Blk}{n0:Nat}{st w:S}{νo ν νw:List Value}{βo β βw:List (Option Nat)}{t:T Value}{h:T Blk}{n:Nat}{c c':Ck}
structure Hd(C:Cfg)(R:Nat)(F:Nat→Prop)(h0:T Blk)(n0:Nat)(νo:List Value)(βo:List (Option Nat))(st:S)(ν:List Value)(β:List (Option Nat))(t:T Value)(h:T Blk)(n:Nat)(w:S)(νw:List Value)(βw:List (Option Nat))(c:Ck):Prop where
 g:Ga C R F h0 n0 w νw βw t h n
 e:Ext νo βo νw βw
 n:c.n=w.ty.length
 sg:∀ j e,get1 c.σ j=some e→j<w.ty.length∧∃ x,evI νw ⟨.v j,0⟩=some x∧evI ν e=some x
 us:∀ a ab b,get1 w.h a=some ab→βw[a]? =some (some b)→∃ i∈c.us,(∃ ab',get1 st.h i=some ab')∧β[i]? =some (some b)
theorem Hd.sg'(H:Hd C R F h0 n0 νo βo st ν β t h n w νw βw c):∀ j e,get1 c.σ j=some e→j<w.ty.length+1∧∃ x,evI νw ⟨.v j,0⟩=some x∧evI ν e=some x:=fun j e hj=>⟨Nat.lt_succ_of_lt (H.sg j e hj).1,(H.sg j e hj).2⟩
theorem sg_add{νw':List Value}{βw':List (Option Nat)}(e:Ext νw βw νw' βw'){σ:List (Nat×IE)}{k l:Nat}{ie:IE}{x:Int}(hs:∀ j e,get1 σ j=some e→j<k∧∃ x,evI νw ⟨.v j,0⟩=some x∧evI ν e=some x)(hl:k<l)(h1:evI νw' ⟨.v k,0⟩=some x)(h2:evI ν ie=some x) :
 ∀ j e,get1 ((k,ie) :: σ) j=some e→j<l∧∃ x,evI νw' ⟨.v j,0⟩=some x∧evI ν e=some x:=by
 intro j e' hj;rw[get1_cons] at hj;split at hj
 ·rename_i ek;cases hj;simp only at ek;subst ek;exact⟨hl,x,h1,h2⟩
 ·obtain⟨q1,y,q2,q3⟩:=hs j e' hj;exact⟨by omega,y,e.nu q2,q3⟩
theorem okV_ok(g:Ga C R F h0 n0 st ν β t h n)(hlim:C.lim≤16000000)(e0:Ext νo βo ν β)(H:Hd C R F h0 n0 νo βo st ν β t h n w νw βw c){y:SV}{v:Value}(hv:V ν β y v){it:It}(hok:okV C νo.length βo.length st y c it=some c') :
 ∃ νw' βw',Ext νw βw νw' βw'∧Hd C R F h0 n0 νo βo st ν β t h n (addV C w it).2 νw' βw' c'∧V νw' βw' (addV C w it).1 v:=by
 have hnoty:∀ (N:NT),(w.name N).ty.length=w.ty.length+1:=fun N=>by simp[S.name]
 cases it with
 | keep x =>
   simp only[okV,biE] at hok;split at hok
   ·rename_i hc;cases hok;rw[baT] at hc;have:=svEq_eq 5 hc.1;subst this;refine⟨νw,βw,.rfl',H,?_⟩;obtain⟨⟨l,rfl⟩,m,rfl⟩:=e0;exact(V.old 5 hc.2 hv).ext H.e
   ·cases hok
 | int k =>
   simp only[okV] at hok;split at hok
   ·rename_i j e;rw[biE] at hok;split at hok
    ·rename_i hk;cases hok;have:=kindB_eq hk;subst this;cases hv with
     | i h1 h2 h3 =>
       rename_i x;obtain⟨g',hat⟩:=H.g.name (N:= .int j) (v:= .int j x) ⟨x,rfl,h2,h3⟩;have e1:=Ext.name νw βw (.int j x);have hx:evI (νw ++ [.int j x]) ⟨.v w.ty.length,0⟩=some x:=by simp only[evI,evB,hat,Int.add_zero]
       refine⟨_,_,e1,⟨g',H.e.trans e1,?_,?_,H.us⟩,.i hx h2 h3⟩
       ·show c.n+1=_;simp only[addV];rw[hnoty,H.n]
       ·show ∀ j' e',get1 ((c.n,e) :: c.σ) j'=some e'→_;rw[H.n];exact sg_add e1 H.sg (by rw[addV,hnoty];omega) hx h1
    ·cases hok
   ·cases hok
 | bool =>
   simp only[okV,biE] at hok;split at hok
   ·rename_i hb;cases hok;obtain⟨x,rfl⟩:=isBool_ok hb hv;obtain⟨g',hat⟩:=H.g.name (N:= .bool) (v:= .bool x) ⟨x,rfl⟩;have e1:=Ext.name νw βw (.bool x);refine⟨_,_,e1,⟨g',H.e.trans e1,?_,?_,H.us⟩,?_⟩
    ·show c.n+1=_;rw[addV,hnoty,H.n]
    ·intro j e' hj;obtain⟨q1,q2,q3,q4⟩:=H.sg j e' hj;exact⟨by rw[addV,hnoty];omega,q2,e1.nu q3,q4⟩
    ·have:=V.bn (ν:=νw ++ [.bool x]) (β:=βw) (neg:=false) hat;simpa [addV] using this
   ·cases hok
 | str =>
   simp only[okV,biE] at hok;split at hok
   ·rename_i hb;cases hok;obtain⟨x,rfl,hx⟩:=isStr_ok hb hv;obtain⟨ν1,e1,g',hv'⟩:=freshC_ok (rk:= .top) (ct:= .str) H.g hlim (v:= .string x) (D.str hx);refine⟨_,_,e1,⟨g',H.e.trans e1,?_,?_,H.us⟩,hv'⟩
    ·show c.n+1=_;simp only[addV,freshC,S.fact];rw[hnoty,H.n]
    ·intro j e' hj;obtain⟨q1,q2,q3,q4⟩:=H.sg j e' hj;refine⟨?_,q2,e1.nu q3,q4⟩;simp only[addV,freshC,S.fact];rw[hnoty];omega
   ·cases hok
 | ds q r =>
   simp only[okV,biE] at hok;split at hok
   ·rename_i hb;cases hok;obtain⟨ν1,e1,g',hv'⟩:=freshC_ok (rk:=r) (ct:= .sl q) H.g hlim (svCT_ok g hb hv);refine⟨_,_,e1,⟨g',H.e.trans e1,?_,?_,H.us⟩,hv'⟩
    ·show c.n+1=_;simp only[addV,freshC,S.fact];rw[hnoty,H.n]
    ·intro j e' hj;obtain⟨q1,q2,q3,q4⟩:=H.sg j e' hj;refine⟨?_,q2,e1.nu q3,q4⟩;simp only[addV,freshC,S.fact];rw[hnoty];omega
   ·cases hok
 | os q r sz =>
   simp only[okV] at hok;split at hok
   ·rename_i cts hq;rw[biE] at hok;split at hok
    ·rename_i hsz;rw[baT,beqT,bltT] at hsz;obtain⟨rfl,hp⟩:=hsz;have names:∀ (L W:Nat),L≤W→W<1000000000→∃ ν2,Ext νw βw ν2 βw∧Ga C R F h0 n0 (((((w.name (.int .i64)).name (.int .i64)).fact (ieC 0) ⟨.v w.ty.length,0⟩).fact ⟨.v w.ty.length,0⟩ ⟨.v (w.ty.length+1),0⟩).fact ⟨.v (w.ty.length+1),0⟩ (ieC 1000000000)) ν2 βw t h n∧evI ν2 ⟨.v w.ty.length,0⟩=some (L:Int)∧evI ν2 ⟨.v (w.ty.length+1),0⟩=some (W:Int):=by
      intro L W hLW hW;obtain⟨g1,a1⟩:=H.g.name (N:= .int .i64) (v:= .int .i64 (L:Int)) ⟨_,rfl,by show(-9223372036854775808:Int)≤_;omega,by show _≤(9223372036854775807:Int);omega⟩;obtain⟨g2,a2⟩:=g1.name (N:= .int .i64) (v:= .int .i64 (W:Int)) ⟨_,rfl,by show(-9223372036854775808:Int)≤_;omega,by show _≤(9223372036854775807:Int);omega⟩;rw[hnoty] at a2;have e1:=Ext.name νw βw (.int .i64 (L:Int));have e2:=Ext.name (νw ++ [.int .i64 (L:Int)]) βw (.int .i64 (W:Int));have hL:evI (νw ++ [.int .i64 (L:Int)] ++ [.int .i64 (W:Int)]) ⟨.v w.ty.length,0⟩=some (L:Int):=by simp only[evI,evB,e2.at a1,Int.add_zero]
      have hW':evI (νw ++ [.int .i64 (L:Int)] ++ [.int .i64 (W:Int)]) ⟨.v (w.ty.length+1),0⟩=some (W:Int):=by simp only[evI,evB,a2,Int.add_zero]
      exact⟨_,e1.trans e2,((g2.fact ⟨_,_,evI_ieC 0,hL,by omega⟩).fact ⟨_,_,hL,hW',by omega⟩).fact ⟨_,_,hW',evI_ieC _,by omega⟩,hL,hW'⟩
     have hty:(addV C w (.os q r cts.length)).2.ty.length=w.ty.length+2:=by simp[addV,S.blk,S.fact,S.name]
     have nilc:∀ (len low:IE),evI ν len=some 0→evI ν low=some 0→∃ νw' βw',Ext νw βw νw' βw'∧Hd C R F h0 n0 νo βo st ν β t h n (addV C w (.os q r cts.length)).2 νw' βw' {n:=c.n+2,σ:=(c.n,len) :: (c.n+1,low) :: c.σ,us:=c.us}∧V νw' βw' (addV C w (.os q r cts.length)).1 (.slice none 0 0):=by
      intro len low h1 h2;obtain⟨ν2,e2,g2,hL,hW⟩:=names 0 0 (nlR _) (by omega);have g3:=g2.nob (a:= .vec q r ⟨.v (w.ty.length+1),0⟩) ⟨hW,cts,hq,hp⟩;have e3:=e2.trans (Ext.blk ν2 βw none);refine⟨ν2,_,e3,⟨g3,H.e.trans e3,?_,?_,?_⟩,.osn ?_ hL hW hp⟩
      ·show c.n+2=_;rw[hty,H.n]
      ·show ∀ j e',get1 ((c.n,len) :: (c.n+1,low) :: c.σ) j=some e'→_;rw[H.n,hty];intro j e' hj;rw[get1_cons] at hj;split at hj
       ·rename_i ek;cases hj;simp only at ek;subst ek;exact⟨by omega,0,hL,h1⟩
       ·exact sg_add e3 H.sg' (by omega) hW h2 j e' hj
      ·intro a ab b ha hb;by_cases hn:a=w.nb
       ·subst hn;have:(βw ++ [none])[w.nb]? =some none:=by rw[←H.g.bl];simp
        rw[this] at hb;cases hb
       ·simp only[addV,S.blk,S.fact,S.name] at ha;rw[get1_put,if_neg hn] at ha;have hlt:=(gsI hb).1;rw[List.length_append] at hlt;simp only[List.length_cons,List.length_nil] at hlt;refine H.us a ab b ha (gpre ?_ hb);have:=H.g.bl;omega
      ·show(βw ++ [none])[w.nb]? =_;rw[←H.g.bl];simp
     split at hok
     ·rename_i i len low sz';split at hok
      ·rename_i q' r' low' hi;rw[biE] at hok;split at hok
       ·rename_i hc;cases hok;simp only[baT,beqT,Bool.not_eq_true'] at hc;obtain⟨⟨⟨⟨rfl,c2⟩,c3⟩,rfl⟩,c5⟩:=hc;have:=ieEq_ok c3;subst this;obtain⟨o,ho,hao⟩:=g.hp i _ hi;cases hv with
        | osn hb h1 h2 h6 =>
          obtain⟨νw',βw',q1,q2,q3⟩:=nilc len low h1 h2;exact⟨νw',βw',q1,⟨q2.g,q2.e,q2.n,q2.sg,fun a ab b ha hb=>by obtain⟨j,j1,j2⟩:=q2.us a ab b ha hb;exact⟨j,mcM _ j1,j2⟩⟩,q3⟩
        | os hb h1 h2 h3 h4 h5 h6 =>
          rename_i b L W cc;rw[hb] at ho;cases ho;obtain⟨cs,cts',W',k1,k2,k3,k4,k5,k6⟩:=hao;rw[hq] at k2;cases k2;have:W'=W:=by have:=evI_inj h2 k4;omega
          subst this;obtain⟨ν2,e2,g2,hL,hW⟩:=names L W' h3 h4;have hF:¬ F b:=fun hf=>(g.pr b hf).2.2 i _ hi hb
          have hno:∀ a ab,get1 w.h a=some ab→βw[a]? ≠some (some b):=by intro a ab ha hba;obtain⟨j,j1,⟨ab',j2⟩,j3⟩:=H.us a ab b ha hba;have:=g.nd j i ab' _ b j2 hi j3 hb;subst this;rw[memN_iff.2 j1] at c5;cases c5
          have g3:=g2.addB (a:= .vec q r ⟨.v (w.ty.length+1),0⟩) (b:=b) (g.bb i b hb) hF hno ⟨cs,cts,W',k1,hq,hp,hW,k5,fun i x ct hx hct=>(k6 i x ct hx hct).le c2⟩;have e3:=e2.trans (Ext.blk ν2 βw (some b));refine⟨ν2,_,e3,⟨g3,H.e.trans e3,?_,?_,?_⟩,.os ?_ hL hW h3 h4 h5 h6⟩
          ·show c.n+2=_;rw[hty,H.n]
          ·show ∀ j e',get1 ((c.n,len) :: (c.n+1,low) :: c.σ) j=some e'→_;rw[H.n,hty];intro j e' hj;rw[get1_cons] at hj;split at hj
           ·rename_i ek;cases hj;simp only at ek;subst ek;exact⟨by omega,L,hL,h1⟩
           ·exact sg_add e3 H.sg' (by omega) hW h2 j e' hj
          ·intro a ab d ha hd;by_cases hn:a=w.nb
           ·subst hn;have:(βw ++ [some b])[w.nb]? =some (some b):=by rw[←H.g.bl];simp
            rw[this] at hd;cases hd;exact⟨i,mcS ..,⟨_,hi⟩,hb⟩
           ·simp only[addV,S.blk,S.fact,S.name] at ha;rw[get1_put,if_neg hn] at ha;have hlt:=(gsI hd).1;rw[List.length_append] at hlt;simp only[List.length_cons,List.length_nil] at hlt;obtain⟨j,j1,j2⟩:=H.us a ab d ha (gpre (by have:=H.g.bl;omega) hd);exact⟨j,mcM _ j1,j2⟩
          ·show(βw ++ [some b])[w.nb]? =_;rw[←H.g.bl];simp
       ·cases hok
      ·cases hok
     ·cases hok;cases hv;exact nilc (ieC 0) (ieC 0) (evI_ieC 0) (evI_ieC 0)
     ·cases hok
    ·cases hok
   ·cases hok
end
end Go.Sx.Az
