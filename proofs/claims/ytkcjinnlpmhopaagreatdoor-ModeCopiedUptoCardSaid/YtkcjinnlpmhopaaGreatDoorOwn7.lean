/- AzW: data, laid in a heap of its own; calls whose result is known because the function was shown to end. -/
import Derived.Test.YtkcjinnlpmhopaaGreatDoorOwn6
namespace Go.Sx.Az
structure Beh(h0:T Blk)(n0:Nat)(h:T Blk)(n:Nat):Prop where
 le:n0≤n
 old:∀ b,b<n0→h.get b=h0.get b
 fr:∀ b,n≤b→h.get b=none
theorem Beh.rfl'{h:T Blk}{n:Nat}(hf:∀ b,n≤b→h.get b=none):Beh h n h n:=⟨nlR _,fun _ _=>rfl,hf⟩
theorem Beh.trans{h0 h1 h2:T Blk}{n0 n1 n2:Nat}(a:Beh h0 n0 h1 n1)(b:Beh h1 n1 h2 n2):Beh h0 n0 h2 n2 :=
 ⟨Nat.le_trans a.le b.le,fun c hc=>by rw[b.old c (Nat.lt_of_lt_of_le hc a.le),a.old c hc],b.fr⟩
theorem Beh.ro{h0 h:T Blk}{n0 n:Nat}(a:Beh h0 n0 h n)(hf:∀ b,n0≤b→h0.get b=none):∀ b cs,h0.get b=some (.ro cs)→h.get b=some (.ro cs):=fun b cs hb=>by
 rw[a.old b]
 ·exact hb
 ·apply Classical.byContradiction;intro hx;rw[hf b (by omega)] at hb;cases hb
structure Nd(h:T Blk)(v:Value)(P:T Blk→Value→Prop)(node:Ct→Ct):Prop where
 ok:∀ next,okC (node next)=okC next
 hit:∀ next vs,hitC h (node next) (v :: vs)=hitC h next vs
 lay:∀ next h0 n0,(∀ b,n0≤b→h0.get b=none)→∃ v' h1 n1,layC (node next) h0 n0=(v' :: (layC next h1 n1).1,(layC next h1 n1).2)∧Beh h0 n0 h1 n1∧P h1 v'
theorem sameV_lit:∀ {v:Value},(match v with| .int _ _=>true| .bool _=>true| .string _=>true| .slice none _ _=>true|_=>false)=true→sameV 6 v v=true:=by
 have hbytes:∀ l:List UInt8,bytesEq l l=true:=by
  intro l
  induction l with
  | nil=>rfl
  | cons a l ih=>simp only[bytesEq,ih,Bool.and_true];rw[beqT]
 intro v hv;cases v with
 | int k n=>simp[sameV,kindEq]
 | bool b=>simp[sameV]
 | string s=>exact hbytes _
 | slice a l c =>
   cases a with
   | none=>simp[sameV,beqT]
   | some a=>cases hv
 | _=>cases hv
theorem Nd.lit{h:T Blk}{v:Value}{P:T Blk→Value→Prop}(hl:lit 6 v=true)(hs:sameV 6 v v=true)(hp:∀ h1,P h1 v):Nd h v P (fun next=> .lit v next) :=
 {ok:=fun next=>by simp only[okC,hl,Bool.true_and]
  hit:=fun next vs=>by simp only[hitC,hs,_root_.cond_true]
  lay:=fun next h0 n0 hf=>⟨v,h0,n0,rfl,.rfl' hf,hp h0⟩}
theorem nd_list{h:T Blk}{P:Nat→T Blk→Value→Prop}(hmono:∀ i h0 n0 h1 n1 v,(∀ b,n0≤b→h0.get b=none)→Beh h0 n0 h1 n1→P i h0 v→P i h1 v):∀ (l:List Value)(k:Nat),(∀ i x,nth l i=some x→∃ node,Nd h x (P (k+i)) node) →
 ∃ kids:Ct→Ct,(∀ next,okC (kids next)=okC next)∧(∀ next vs,hitC h (kids next) (l ++ vs)=hitC h next vs)∧∀ next h0 n0,(∀ b,n0≤b→h0.get b=none)→∃ l' h1 n1,layC (kids next) h0 n0=(l' ++ (layC next h1 n1).1,(layC next h1 n1).2)∧Beh h0 n0 h1 n1∧l'.length=l.length∧∀ i x,nth l' i=some x→P (k+i) h1 x
 | [],k,_=>⟨id,fun _=>rfl,fun _ _=>rfl,fun next h0 n0 hf=>⟨[],h0,n0,rfl,.rfl' hf,rfl,fun i x hx=>by simp[nth] at hx⟩⟩
 | x :: l,k,hx=>by
   obtain⟨node,hn⟩:=hx 0 x rfl;obtain⟨kids,k1,k2,k3⟩:=nd_list hmono l (k+1) fun i y hy=>by obtain⟨node,hn⟩:=hx (i+1) y hy;exact⟨node,by rw[Nat.add_assoc,Nat.add_comm 1 i];exact hn⟩
   refine⟨fun next=>node (kids next),fun next=>by rw[hn.ok,k1],fun next vs=>by rw[List.cons_append,hn.hit,k2],fun next h0 n0 hf=>?_⟩;obtain⟨v',h1,n1,q1,q2,q3⟩:=hn.lay (kids next) h0 n0 hf;obtain⟨l',h2,n2,w1,w2,w3,w4⟩:=k3 next h1 n1 q2.fr
   refine⟨v' :: l',h2,n2,?_,q2.trans w2,by simp[w3],fun i y hy=>?_⟩
   ·rw[q1,w1];rfl
   ·cases i with
    | zero=>cases hy;exact hmono _ _ _ _ _ _ q2.fr w2 q3
    | succ i =>
      have:=w4 i y hy;rw[Nat.add_assoc,Nat.add_comm 1 i] at this;exact this
theorem D.nd{Γ:List (List CT)}{lim:Nat}{h:T Blk}{r:Nat}{ct:CT}{v:Value}(hd:D Γ lim h r ct v):∃ node,Nd h v (fun h1 v'=>D Γ lim h1 r ct v') node:=by
 induction hd with
 | int h1 h2=>exact⟨_,Nd.lit rfl (sameV_lit rfl) fun _=> .int h1 h2⟩
 | bool x=>exact⟨_,Nd.lit rfl (sameV_lit rfl) fun _=> .bool x⟩
 | str h1=>exact⟨_,Nd.lit rfl (sameV_lit rfl) fun _=> .str h1⟩
 | nil=>exact⟨_,Nd.lit rfl (sameV_lit rfl) fun _=> .nil⟩
 | @sl r q b o l c cs cts f hb hq hp ho hs hl hc ih =>
   obtain⟨sg,hsg⟩:=seg_ex cs o (l * cts.length) ho;obtain⟨s1,s2⟩:=seg_some hsg;have hlt:∀ i,i % cts.length<cts.length:=fun i=>Nat.mod_lt _ hp
   obtain⟨kids,k1,k2,k3⟩:=nd_list (h:=h) (P:=fun i h1 x=>∀ ct,nth cts (i % cts.length)=some ct→D Γ lim h1 (f i) ct x) (fun i h0 n0 h1 n1 v hf hb hp ct hct=>(hp ct hct).mono (hb.ro hf)) sg 0 fun i x hx=>by
    obtain⟨m1,m2⟩:=nth_seg hsg hx;have hct:nth cts (i % cts.length)=some (cts[i % cts.length]'(hlt i)):=by rw[nth_eq,ggE (hlt i)]
    obtain⟨node,hn⟩:=ih i x _ m1 m2 hct;refine⟨node,hn.ok,hn.hit,fun next h0 n0 hf=>?_⟩;obtain⟨v',h1,n1,q1,q2,q3⟩:=hn.lay next h0 n0 hf
    refine⟨v',h1,n1,q1,q2,fun ct hct'=>?_⟩;rw[Nat.zero_add] at hct' ⊢;rw[hct] at hct';cases hct';exact q3
   refine⟨fun next=> .sl l c (kids .nil) next,fun next=>?_,fun next vs=>?_,fun next h0 n0 hf=>?_⟩
   ·simp only[okC,k1,Bool.true_and]
   ·have hd:dropL cs o=sg ++ dropL cs (o+l * cts.length):=by
     have e1:sg=(cs.drop o).take (l * cts.length):=by have:=(takeL_some _ _ _ (show takeL (l * cts.length) (dropL cs o)=some sg from hsg)).1;rw[this,dropL_eq]
     rw[e1,dropL_eq,dropL_eq,← List.drop_drop,List.take_append_drop]
    have hle:Nat.ble o cs.length=true:=by rw[bleT];omega
    simp only[hitC,Nat.beq_refl,Bool.and_self,_root_.cond_true,cellsOf,hb,hle];rw[hd,k2];simp[hitC]
   ·obtain⟨l',h1,n1,w1,w2,w3,w4⟩:=k3 .nil h0 n0 hf;simp only[layC,List.append_nil] at w1;refine⟨.slice (some ⟨n1,0,none⟩) l c,h1.upd (some (.ro l')) n1,n1+1,?_,?_,?_⟩
    ·simp only[layC,w1]
    ·refine w2.trans ⟨Nat.le_succ _,fun b hb=>T.gnE _ _ (Nat.ne_of_lt hb),fun b hb=>?_⟩;rw[T.gnE _ _ (by omega)];exact w2.fr b (by omega)
    ·have hro:∀ b cs,h1.get b=some (.ro cs)→(h1.upd (some (.ro l')) n1).get b=some (.ro cs):=fun b cs hb=>by
      rw[T.gnE]
      ·exact hb
      ·intro e;subst e;rw[w2.fr _ (nlR _)] at hb;cases hb
     refine .sl f (T.gsE _ _ _) hq hp (by rw[w3,s1,Nat.zero_add];exact nlR _) hs hl fun i x ct hi hx hct=>?_
     rw[Nat.zero_add] at hx;have:=w4 i x hx ct (by rw[Nat.zero_add];exact hct);rw[Nat.zero_add] at this;exact this.mono hro
def dataA:Nat→AT→Bool
 | _,.int _=>true
 | _,.bool=>true
 | _,.str=>true
 | _,.sl _=>true
 | f+1,.agg l=>l.all (dataA f)
 | _,_=>false
theorem AOk.mono{C:Cfg}{h h':T Blk}{N:Nat}(hro:∀ b cs,h.get b=some (.ro cs)→h'.get b=some (.ro cs)):∀ (f:Nat){a:AT}{v:Value},dataA f a=true→AOk C h N a v→AOk C h' N a v:=by
 intro f
 induction f with
 | zero =>
   intro a v hd ha;cases ha with
   | int h1 h2=>exact .int h1 h2
   | bool x=>exact .bool x
   | str h1=>exact .str h1
   | sl hr h2=>exact .sl hr (h2.mono hro)
   | _=>cases hd
 | succ f ih =>
   intro a v hd ha;have hL:∀ {l:List AT} {vs:List Value},l.all (dataA f)=true→AOkL C h N l vs→AOkL C h' N l vs:=by
    intro l
    induction l with
    | nil=>intro vs _ h;cases h;exact .nil
    | cons a l ihl =>
      intro vs hd h;cases h with
      | cons h1 h2 =>
        simp only[List.all_cons,baT] at hd;exact .cons (ih hd.1 h1) (ihl hd.2 h2)
   cases ha with
   | int h1 h2=>exact .int h1 h2
   | bool x=>exact .bool x
   | str h1=>exact .str h1
   | sl hr h2=>exact .sl hr (h2.mono hro)
   | agg hl=>exact .agg (hL hd hl)
   | _=>cases hd
theorem AOkL.at{C:Cfg}{h:T Blk}{N:Nat}:∀ {l:List AT}{vs:List Value},AOkL C h N l vs→∀ i x,nth vs i=some x→∃ a,nth l i=some a∧AOk C h N a x
 | _,_,.nil,i,x,hx=>by simp[nth] at hx
 | _,_,.cons (a:=a) h1 h2,i,x,hx=>by
   cases i with
   | zero=>cases hx;exact⟨a,rfl,h1⟩
   | succ i=>exact h2.at i x hx
theorem AOkL.len{C:Cfg}{h:T Blk}{N:Nat}:∀ {l:List AT}{vs:List Value},AOkL C h N l vs→vs.length=l.length
 | _,_,.nil=>rfl
 | _,_,.cons _ h2=>by simp[h2.len]
theorem AOkL.of{C:Cfg}{h:T Blk}{N:Nat}:∀ {l:List AT}{vs:List Value},vs.length=l.length→(∀ i x a,nth vs i=some x→nth l i=some a→AOk C h N a x)→AOkL C h N l vs
 | [],[],_,_=> .nil
 | [],_ :: _,hl,_=>by simp at hl
 | _ :: _,[],hl,_=>by simp at hl
 | a :: l,x :: vs,hl,hx=> .cons (hx 0 x a rfl rfl) (AOkL.of (by simpa using hl) fun i y b h1 h2=>hx (i+1) y b h1 h2)
theorem all_nth{α:Type}{p:α→Bool}{l:List α}(h:l.all p=true){i:Nat}{a:α}(hi:nth l i=some a):p a=true:=by rw[List.all_eq_true] at h;rw[nth_eq] at hi;exact h a (List.mem_of_getElem? hi)
theorem AOkL.nds{C:Cfg}{h:T Blk}{N f:Nat}(hone:∀ {a:AT}{v:Value},dataA f a=true→AOk C h N a v→∃ node,Nd h v (fun h1 v'=>AOk C h1 N a v') node){l:List AT}{vs:List Value}(hd:l.all (dataA f)=true)(ha:AOkL C h N l vs) :
 ∃ kids:Ct→Ct,(∀ next,okC (kids next)=okC next)∧(∀ next ws,hitC h (kids next) (vs ++ ws)=hitC h next ws)∧∀ next h0 n0,(∀ b,n0≤b→h0.get b=none)→∃ l' h1 n1,layC (kids next) h0 n0=(l' ++ (layC next h1 n1).1,(layC next h1 n1).2)∧Beh h0 n0 h1 n1∧AOkL C h1 N l l':=by
 obtain⟨kids,k1,k2,k3⟩:=nd_list (h:=h) (P:=fun i h1 x=>∀ a,nth l i=some a→AOk C h1 N a x) (fun i h0 n0 h1 n1 v hf hb hp a hx=>(hp a hx).mono (hb.ro hf) f (all_nth hd hx)) vs 0 fun i x hx=>by
  obtain⟨a,h1,h2⟩:=ha.at i x hx;obtain⟨node,hn⟩:=hone (all_nth hd h1) h2;refine⟨node,hn.ok,hn.hit,fun next h0 n0 hf=>?_⟩;obtain⟨v',h1',n1,q1,q2,q3⟩:=hn.lay next h0 n0 hf
  refine⟨v',h1',n1,q1,q2,fun a' ha'=>?_⟩;rw[Nat.zero_add,h1] at ha';cases ha';exact q3
 refine⟨kids,k1,k2,fun next h0 n0 hf=>?_⟩;obtain⟨l',h1,n1,w1,w2,w3,w4⟩:=k3 next h0 n0 hf
 exact⟨l',h1,n1,w1,w2,AOkL.of (by rw[w3,ha.len]) fun i x a hx hi=>w4 i x hx a (by rw[Nat.zero_add];exact hi)⟩
theorem AOk.nd{C:Cfg}{h:T Blk}{N:Nat}:∀ (f:Nat){a:AT}{v:Value},dataA f a=true→AOk C h N a v→∃ node,Nd h v (fun h1 v'=>AOk C h1 N a v') node:=by
 intro f
 induction f with
 | zero =>
   intro a v hd ha;cases ha with
   | int h1 h2=>exact⟨_,Nd.lit rfl (sameV_lit rfl) fun _=> .int h1 h2⟩
   | bool x=>exact⟨_,Nd.lit rfl (sameV_lit rfl) fun _=> .bool x⟩
   | str h1=>exact⟨_,Nd.lit rfl (sameV_lit rfl) fun _=> .str h1⟩
   | sl hr h2 =>
     obtain⟨node,hn⟩:=h2.nd;exact⟨node,hn.ok,hn.hit,fun next h0 n0 hf=>by obtain⟨v',h1,n1,q1,q2,q3⟩:=hn.lay next h0 n0 hf;exact⟨v',h1,n1,q1,q2,.sl hr q3⟩⟩
   | _=>cases hd
 | succ f ih =>
   intro a v hd ha;cases ha with
   | int h1 h2=>exact⟨_,Nd.lit rfl (sameV_lit rfl) fun _=> .int h1 h2⟩
   | bool x=>exact⟨_,Nd.lit rfl (sameV_lit rfl) fun _=> .bool x⟩
   | str h1=>exact⟨_,Nd.lit rfl (sameV_lit rfl) fun _=> .str h1⟩
   | sl hr h2 =>
     obtain⟨node,hn⟩:=h2.nd;exact⟨node,hn.ok,hn.hit,fun next h0 n0 hf=>by obtain⟨v',h1,n1,q1,q2,q3⟩:=hn.lay next h0 n0 hf;exact⟨v',h1,n1,q1,q2,.sl hr q3⟩⟩
   | agg hl =>
     rename_i l vs;obtain⟨kids,k1,k2,k3⟩:=hl.nds (f:=f) (fun hd ha=>ih hd ha) hd;refine⟨fun next=> .agg (kids .nil) next,fun next=>by simp only[okC,k1,Bool.true_and],fun next ws=>?_,fun next h0 n0 hf=>?_⟩
     ·have:=k2 .nil [];rw[List.append_nil] at this;simp only[hitC,this]
     ·obtain⟨l',h1,n1,w1,w2,w3⟩:=k3 .nil h0 n0 hf;simp only[layC,List.append_nil] at w1;exact⟨.agg ⟨l'⟩,h1,n1,by simp only[layC,w1],w2,.agg w3⟩
   | _=>cases hd
theorem memo_spec{C:Cfg}{P:Program}(K:EOk C.E P)(hm:P.follows .mixedOrders=true)(hgl:C.E.glob≤1000)(hgr:C.E.gro.all (fun x=>Nat.blt x.1 1000&&x.2.all (lit 6))=true)(hnd:(C.E.gro.map (·.1)).Nodup){sp:Spec}(hsp:∀ N,SpecAt C N sp)(hd:sp.args.all (dataA 4)=true){h:T Blk}{N:Nat}{vs:List Value}(ha:AOkL C h N sp.args vs) :
 ∃ ct,okC ct=true∧hitC h ct vs=some []∧∃ v,(∃ h' n m bs,ROk C h' m n sp.res v bs)∧(lit 6 v=true→MemoOk P C.E.glob C.E.gro sp.f ct v):=by
 obtain⟨kids,k1,k2,k3⟩:=ha.nds (f:=4) (fun hd ha=>AOk.nd 4 hd ha) hd;have hok:okC (kids .nil)=true:=by rw[k1];rfl
 have hbase:∀ b,1000≤b→(baseT C.E.gro).get b=none:=by
  intro b hb;cases hx:(baseT C.E.gro).get b with
  | none=>rfl
  | some k =>
    obtain⟨x,hx1,rfl,_⟩:=baseT_some hx;have:=List.all_eq_true.1 hgr x hx1;simp only[baT,bltT] at this;omega
 have hmem:∀ {l:List (Nat×List Value)},(l.map (·.1)).Nodup→∀ x∈l,(baseT l).get x.1=some (.ro x.2):=by
  intro l
  induction l with
  | nil=>intro _ x hx;cases hx
  | cons y l ih =>
    intro hn x hx;simp only[List.map_cons,List.nodup_cons] at hn;rw[baseT,T.get_upd];rcases List.mem_cons.1 hx with rfl|hx
    ·rw[if_pos rfl]
    ·rw[if_neg]
     ·exact ih hn.2 x hx
     ·intro e;exact hn.1 (e▸List.mem_map.2 ⟨x,hx,rfl⟩)
 obtain⟨l',h1,n1,w1,w2,w3⟩:=k3 .nil (baseT C.E.gro) 1000 hbase;simp only[layC,List.append_nil] at w1;obtain⟨v,h',n',⟨G,hG⟩,_,_,_,bs,hr,_⟩:=hsp N h1 n1 l' w2.fr (fun x hx=>by
  rw[w2.old x.1]
  ·exact hmem hnd x hx
  ·have:=List.all_eq_true.1 hgr x hx;simp only[baT,bltT] at this;exact this.1) w3
 refine⟨kids .nil,hok,?_,v,⟨h',_,_,bs,hr⟩,fun hv=>?_⟩
 ·have:=k2 .nil [];rw[List.append_nil] at this;rw[this];rfl
 ·refine memo_ok K hm hok hv hgl hgr (fuel:=G) (h':=h') (n':=n') ?_;rw[w1];exact hG G (nlR G)
end Go.Sx.Az
