/- SxJ: regions that draw: the canonical order, run for itself; what it says of numbers. -/
import Derived.Test.YtkcjinnlpmhopaaGreatDoorOwn0
import Derived.OrdersIn
namespace Go.Sx
section
variable {E:Env}{P:Program}{w w':World}{G:Gh}{ρ ρ':Ren}{h:T Blk}{n:Nat}{t t':T Value}{a:Act}{ih:Run}
def Tight(ρ:Ren)(n:Nat):Prop:=∀ b,n≤b→ρ b=none
theorem tight_lt(hT:Tight ρ n){b:Nat}{L:Pl}(h:ρ b=some L):b<n:=by
 rcases Nat.lt_or_ge b n with h1|h1
 ·exact h1
 ·rw[hT b h1] at h;cases h
theorem tight_rel(hT:Tight ρ n){x y:Value}(h:VRel ρ x y):∀ {z:Value},VRel ρ' x z→VRel (ρ'.below n) x z:=by
 induction h with
 | bool b=>intro z hz;cases hz;exact .bool b
 | int k i=>intro z hz;cases hz;exact .int k i
 | string s=>intro z hz;cases hz;exact .string s
 | ptr0=>intro z hz;cases hz;exact .ptr0
 | ptr hL=>intro z hz;cases hz with|ptr hM=>exact .ptr (below_some.2 ⟨tight_lt hT hL,hM⟩)
 | slice0 l c=>intro z hz;cases hz;exact .slice0 l c
 | slice l c hL hc =>
   intro z hz;cases hz with
   | slice _ _ hM hc'=>exact .slice _ _ (below_some.2 ⟨tight_lt hT hL,hM⟩) hc'
   | sliceU _ hM hu hk hl hc' hs ho=>exact .sliceU _ (below_some.2 ⟨tight_lt hT hL,hM⟩) hu hk hl hc' hs ho
   | sliceZ a hM hk hz=>exact .sliceZ a (below_some.2 ⟨tight_lt hT hL,hM⟩) hk hz
 | sliceU l hL hu hk hl hc hs ho =>
   intro z hz;generalize hcap:UNK * _+_=cap at hz;cases hz with
   | slice _ _ hM hc'=>exact .slice _ _ (below_some.2 ⟨tight_lt hT hL,hM⟩) hc'
   | sliceU _ hM hu hk hl hc' hs ho=>exact .sliceU _ (below_some.2 ⟨tight_lt hT hL,hM⟩) hu hk hl hc' hs ho
   | sliceZ a hM hk hz=>exact .sliceZ a (below_some.2 ⟨tight_lt hT hL,hM⟩) hk hz
 | sliceZ a hL hk hz =>
   intro z hz;generalize hcap:UNK * _+_=cap at hz;generalize hlen:(0:Nat)=len at hz;cases hz with
   | slice _ _ hM hc'=>exact .slice _ _ (below_some.2 ⟨tight_lt hT hL,hM⟩) hc'
   | sliceU _ hM hu hk hl hc' hs ho=>exact .sliceU _ (below_some.2 ⟨tight_lt hT hL,hM⟩) hu hk hl hc' hs ho
   | sliceZ a hM hk hz=>exact .sliceZ a (below_some.2 ⟨tight_lt hT hL,hM⟩) hk hz
 | map0=>intro z hz;cases hz;exact .map0
 | map hL=>intro z hz;cases hz with|map hM=>exact .map (below_some.2 ⟨tight_lt hT hL,hM⟩)
 | nilFunc=>intro z hz;cases hz;exact .nilFunc
 | nilIface=>intro z hz;cases hz;exact .nilIface
 | func hf ha hb h1 h2 ih1 ih2 =>
   intro z hz;cases hz with
   | func hf' ha' hb' h1' h2' =>
     refine .func ?_ ha' hb' (fun i x y hx hy=>?_) (fun i x y hx hy=>?_)
     ·rename_i f g _ _ _ _ _ _ _;cases f with
      | yield l =>
        obtain⟨L,q1,_⟩:=hf.yield_inv;obtain⟨M,q2,q3⟩:=hf'.yield_inv;subst q3;exact⟨M,below_some.2 ⟨tight_lt hT q1,q2⟩,rfl⟩
      | func k=>have:=hf'.func_inv;subst this;rfl
      | method _=>exact hf'.elim
      | methodOf _ _=>exact hf'.elim
      | via _ _ _ _=>exact hf'.elim
     ·obtain⟨u,u1,_⟩:=LRel.get ⟨ha,h1⟩ hx;exact ih1 i x u hx u1 (h1' i x y hx hy)
     ·obtain⟨u,u1,_⟩:=LRel.get ⟨hb,h2⟩ hx;exact ih2 i x u hx u1 (h2' i x y hx hy)
 | iface t h ih=>intro z hz;cases hz with|iface _ h'=>exact .iface t (ih h')
 | agg ha h ih =>
   intro z hz;cases hz with
   | agg ha' h' =>
     refine .agg ha' fun i x y hx hy=>?_
     obtain⟨u,u1,_⟩:=LRel.get ⟨ha,h⟩ hx;exact ih i x u hx u1 (h' i x y hx hy)
 | tuple ha h ih =>
   intro z hz;cases hz with
   | tuple ha' h' =>
     refine .tuple ha' fun i x y hx hy=>?_
     obtain⟨u,u1,_⟩:=LRel.get ⟨ha,h⟩ hx;exact ih i x u hx u1 (h' i x y hx hy)
theorem tight_cells(hT:Tight ρ n){cs:List Value}{L L':Pl}{c c':Array Value}(h:CellsRel ρ cs L c)(h':CellsRel ρ' cs L' c'):CellsRel (ρ'.below n) cs L' c':=by refine⟨h'.1,h'.2.1,fun i x hx=>?_⟩;obtain⟨y,y1,y2⟩:=h'.2.2 i x hx;obtain⟨u,u1,u2⟩:=h.2.2 i x hx;exact⟨y,y1,tight_rel hT u2 y2⟩
theorem tight_tr(hT:Tight ρ n){t:T Value}{b b':Array Value}(h:TR ρ t b)(h':TR ρ' t b'):TR (ρ'.below n) t b':=by intro k x hx;obtain⟨y,y1,y2⟩:=h' k x hx;obtain⟨u,u1,u2⟩:=h k x hx;exact⟨y,y1,tight_rel hT u2 y2⟩
theorem tight_blk(hT:Tight ρ n){k:Blk}{L L':Pl}{o o':Option Obj}(h:BRel ρ L k o)(h':BRel ρ' L' k o'):BRel (ρ'.below n) L' k o':=by
 cases k with
 | cells cs =>
   obtain⟨c,e,fr,h1,h2,h3⟩:=h;obtain⟨c',e',fr',h1',h2',h3'⟩:=h';exact⟨c',e',fr',h1',h2',tight_cells hT h3 h3'⟩
 | ro cs =>
   obtain⟨c,e,fr,h1,h3⟩:=h;obtain⟨c',e',fr',h1',h3'⟩:=h';exact⟨c',e',fr',h1',tight_cells hT h3 h3'⟩
 | map es =>
   obtain⟨ents,cl,h1,⟨h2,es1,h3,h4,h5⟩,_⟩:=h;obtain⟨ents',cl',h1',⟨h2',es2,h3',h4',h5'⟩,h6'⟩:=h';refine⟨ents',cl',h1',⟨h2',es2,h3',h4',h5'.1,fun i x y hx hy=>?_⟩,h6'⟩;rw[List.getElem?_map] at hx;cases he:es2[i]? with
   | none=>rw[he] at hx;cases hx
   | some e =>
     rw[he] at hx;cases hx;have hmem:e∈es1:=h3.mem_iff.2 (h3'.mem_iff.1 (List.mem_of_getElem? he));obtain⟨j,hj⟩:=List.getElem?_of_mem hmem;have hv:(es1.map (·.2))[j]? =some e.2:=by rw[List.getElem?_map,hj];rfl
     obtain⟨u,u1,u2⟩:=h5.get hv;have hx':(es2.map (·.2))[i]? =some e.2:=by rw[List.getElem?_map,he];rfl
     exact tight_rel hT u2 (h5'.2 i e.2 y hx' hy)
 | iter s pos=>exact h'
 | loop l =>
   obtain⟨r,h1,l1,l2,l3,l4,l5,⟨D,l6,l6'⟩,l7,l8⟩:=h;obtain⟨r',h1',m1,m2,m3,m4,m5,⟨D',m6,m6'⟩,m7,m8⟩:=h';exact⟨r',h1',m1,m2,m3,m4,m5,⟨D',below_some.2 ⟨tight_lt hT l6,m6⟩,m6'⟩,m7,tight_tr hT l8 m8⟩
 | dfr b=>exact h'
theorem wpIn_exists{rd':Option Nat}{o:Oper}{next:Act→World→Prop}(h:o.wpIn (Fr rd') 0 P a w next (fun _ _ _=>False)):∃ a' w',next a' w':=by
 obtain⟨_,h⟩:=h;have hroom:(Fr rd').room ([]:List Frame).length.succ.succ:=room_wide _;generalize (o.semAt (Fr rd').round a.eval).run P w=r at h;cases r with
 | ok x w1 =>
   cases x<;>simp only[Oper.uponIn] at h
   case value v=>exact⟨_,_,h⟩
   case skip=>exact⟨_,_,h⟩
   case defer d=>exact⟨_,_,h⟩
   case enter f args =>
    obtain⟨_,_,h⟩:=h;obtain⟨e,w2,fr,h1,_⟩:=h [] (room_wide _);cases e with
    | returned v=>exact⟨_,_,h1⟩
    | panicked c=>exact h1.elim
    | outgrown=>obtain⟨_,_,h1⟩:=h1;exact h1.elim
   case row rw' args =>
    obtain⟨_,h⟩:=h;obtain⟨v,w2,h1,_⟩:=h default [] (room_wide _);exact⟨_,_,h1⟩
   case round l f tm as bd =>
    obtain⟨_,_,h⟩:=h;obtain⟨e,w2,h1,_⟩:=h default [] (room_wide _);cases e with
    | returned v=>exact⟨_,_,h1⟩
    | panicked c=>exact h1.elim
    | outgrown=>obtain⟨_,_,h1⟩:=h1;exact h1.elim
 | halt x w1 =>
   cases x<;>simp only[Oper.uponIn] at h
end
inductive Chain (E:Env) (ih:Run) (many:Nat) (all:List Oper):List Oper→T Value→T Blk→Nat→List Ent→T Value→T Blk→Nat→Prop
 | nil {t:T Value} {h:T Blk} {n:Nat}:Chain E ih many all [] t h n [] t h n
 | cons {o:Oper} {os:List Oper} {x:Ent} {t:T Value} {h:T Blk} {n:Nat} {t1:T Value} {log:List Ent} {t':T Value} {h':T Blk} {n':Nat} (hw:wantedA all t o=some x.did) (ht:x.t=t) (hh:x.h0=h) (hn:x.n0=n)
  (h1:x.did=true→opN E ih t h n o= .inl (x.v,x.h1,x.n1)∧belowT n t (opTmps o)=true) (h2:x.did=false→x.v=undefV∧x.h1=h∧x.n1=n)
  (hp:putT many o.dst x.v t=some t1) (hc:Chain E ih many all os t1 x.h1 x.n1 log t' h' n'):Chain E ih many all (o :: os) t h n (x :: log) t' h' n'
section
variable {E:Env}{P:Program}{w w':World}{G:Gh}{ρ ρ':Ren}{h:T Blk}{n:Nat}{t t':T Value}{a:Act}{ih:Run}
theorem opsD_chain{many:Nat}{all:List Oper}:∀ {os:List Oper}{acc l:List Ent}{t:T Value}{h:T Blk}{n:Nat}{t':T Value}{h':T Blk}{n':Nat},opsD E ih many all os acc t h n= .ok l t' h' n' →
 ∃ log,l=acc ++ log∧Chain E ih many all os t h n log t' h' n'
 | [],acc,l,t,h,n,t',h',n',hx=>by simp only[opsD] at hx;cases hx;exact⟨[],by simp,.nil⟩
 | o :: os,acc,l,t,h,n,t',h',n',hx=>by
   simp only[opsD] at hx;split at hx
   ·rename_i hw;split at hx
    ·rename_i v h1 n1 ho;split at hx
     ·rename_i t1 hp;rw[biE] at hx;split at hx
      ·rename_i hb;obtain⟨log,e1,e2⟩:=opsD_chain hx;exact⟨⟨true,t,v,h,h1,n,n1⟩ :: log,by rw[e1];simp,.cons hw rfl rfl rfl (fun _=>⟨ho,hb⟩) (fun e=>by cases e) hp e2⟩
      ·cases hx
     ·cases hx
    ·cases hx
   ·rename_i hw;split at hx
    ·rename_i t1 hp;obtain⟨log,e1,e2⟩:=opsD_chain hx;exact⟨⟨false,t,undefV,h,h,n,n⟩ :: log,by rw[e1];simp,.cons hw rfl rfl rfl (fun e=>by cases e) (fun _=>⟨rfl,rfl,rfl⟩) hp e2⟩
    ·cases hx
   ·cases hx
theorem putTR{dst:Option Tmp}{v y:Value}{many:Nat}(ht:TR ρ t a.tmps)(hs:a.tmps.size=many)(hv:VRel ρ v y)(hp:putT many dst v t=some t'):TR ρ t' (a.put dst y).tmps∧(a.put dst y).tmps.size=many:=by
 unfold putT at hp;cases dst with
 | none=>cases hp;exact⟨ht,hs⟩
 | some k =>
   simp only[biE,bltT] at hp;split at hp
   ·rename_i hlt;cases hp;refine⟨fun j x hx=>?_,by simp[Act.put,hs]⟩;simp only[Act.put];rw[T.get_upd] at hx;split at hx
    ·rename_i hj;cases hx;subst hj;exact⟨y,by simp[hs,hlt],hv⟩
    ·rename_i hj;obtain⟨z,h1,h2⟩:=ht j x hx;exact⟨z,by rw[Array.getElem?_setIfInBounds_ne (Ne.symm hj)];exact h1,h2⟩
   ·cases hp
theorem chain_worlds(K:EOk E P)(hg:E.glob≤G.ng)(HC:CallOk E P (callF E ih))(HR:RoundOk E P (roundF E ih)){many:Nat}{all:List Oper}{ρ0:Ren}{h0:T Blk}{n0:Nat} :
 ∀ {os:List Oper} {log:List Ent} {t:T Value} {h:T Blk} {n:Nat} {t':T Value} {h':T Blk} {n':Nat},Chain E ih many all os t h n log t' h' n'→∀ {ρ:Ren} {a:Act} {w:World},Stp G ρ0 h0 n0 ρ h n w→TR ρ t a.tmps→a.tmps.size=many →
   (∀ x∈log,∃ (ρ1:Ren) (a1:Act) (w1:World),Stp G ρ0 h0 n0 ρ1 x.h0 x.n0 w1∧TR ρ1 x.t a1.tmps)∧∃ (ρ1:Ren) (a1:Act) (w1:World),Stp G ρ0 h0 n0 ρ1 h' n' w1∧TR ρ1 t' a1.tmps:=by
 intro os log t h n t' h' n' hc
 induction hc with
 | nil=>intro ρ a w hs ht _;exact⟨by simp,ρ,a,w,hs,ht⟩
 | cons hw e1 e2 e3 h1 h2 hp hc' ihc =>
   rename_i o os x t h n t1 log t' h' n';intro ρ a w hs ht hsz;have go:∃ (ρ1:Ren) (a1:Act) (w1:World),Stp G ρ0 h0 n0 ρ1 x.h1 x.n1 w1∧TR ρ1 t1 a1.tmps∧a1.tmps.size=many:=by
    cases hd:x.did with
    | true =>
      obtain⟨k1,k2⟩:=h1 hd;have:=opN_sim (rd':=none) (Q:=fun _ _ _=>False) (next:=fun a1 w1=>∃ ρ1,Stp G ρ0 h0 n0 ρ1 x.h1 x.n1 w1∧TR ρ1 t1 a1.tmps∧a1.tmps.size=many) K hg HC HR hs.st ht k1 (fun y ρ1 w1 q1 q2=>by obtain⟨z1,z2⟩:=putTR (ht.mono q2.ext) hsz q1 hp;exact⟨ρ1,hs.trans q2,z1,z2⟩);obtain⟨a1,w1,ρ1,r⟩:=wpIn_exists this;exact⟨ρ1,a1,w1,r⟩
    | false =>
      obtain⟨k1,k2,k3⟩:=h2 hd;rw[k1] at hp;obtain⟨z1,z2⟩:=putTR ht hsz (undef_rel ρ) hp;rw[k2,k3];exact⟨ρ,_,w,hs,z1,z2⟩
   obtain⟨ρ1,a1,w1,r1,r2,r3⟩:=go;obtain⟨f1,f2⟩:=ihc r1 r2 r3;refine⟨fun y hy=>?_,f2⟩;rcases List.mem_cons.1 hy with rfl|hy
   ·rw[e1,e2,e3];exact⟨ρ,a,w,hs,ht⟩
   ·exact f1 y hy
end
noncomputable def merge(h' h:T Blk):List Nat→T Blk
 | []=>h'
 | b :: l=>(merge h' h l).upd (h.get b) b
theorem merge_in{h' h:T Blk}:∀ {l:List Nat}{b:Nat},b∈l→(merge h' h l).get b=h.get b
 | c :: l,b,hb=>by
   rw[merge,T.get_upd];split
   ·rename_i e;rw[e]
   ·rename_i e;exact merge_in ((List.mem_cons.1 hb).resolve_left e)
theorem merge_out{h' h:T Blk}:∀ {l:List Nat}{b:Nat},b∉l→(merge h' h l).get b=h'.get b
 | [],b,_=>rfl
 | c :: l,b,hb=>by
   have hne:b≠c:=fun e=>hb (by rw[e];exact mcS ..)
   rw[merge,T.get_upd,if_neg hne];exact merge_out fun hm=>hb (mcM _ hm)
section
variable {E:Env}{P:Program}{w:World}{G:Gh}{ρ:Ren}{h h' hh:T Blk}{n n':Nat}{t:T Value}{a:Act}{ih:Run}
theorem loud_any(K:EOk E P)(hg:E.glob≤G.ng)(HC:CallOk E P (callF E ih))(HR:RoundOk E P (roundF E ih))(H:WRel G ρ hh w){Gc:Gh}{ρc:Ren}{wc:World}(hcan:St Gc ρc h n wc)
 (hmap:∀ b L k,ρ b=some L→b<n→h.get b=some k→∃ M,ρc b=some M) (agree:∀ b L,b<n→ρ b=some L→hh.get b=h.get b) {o:Oper} (hb:belowT n t (opTmps o)=true)
 (ht:∀ k∈opTmps o,∀ x,t.get k=some x→∃ y,a.tmps[k]? =some y∧VRel ρ x y) (gap:∀ b,n≤b→b<n'→ρ b=none) {ids:List Nat} (hids:∀ b∈ids,n'≤b) (hall:∀ b L,n'≤b→ρ b=some L→b∈ids)
 (hro:∀ b L k,n'≤b→ρ b=some L→hh.get b=some k→isRo k=false) (hgl:∀ g,g<G.ng→g<n) {v:Value} (ho:opN E ih t h n o= .inl (v,h',n')) {rd':Option Nat} {next:Act→World→Prop}
 {Q:Exit→Act→World→Prop}
 (hnext:∀ y ρ2 w',VRel ρ2 v y→Ext ρ ρ2→WRel G ρ2 (merge h' hh ids) w'→(∀ b,n'≤b→ρ2 b=ρ b)→(∀ b,b<n→ρ b=none→ρ2 b=none∧h'.get b=h.get b)→n≤n' →
  (∀ b L,ρ b=none→ρ2 b=some L→G.own L.blk∨G.heap.size≤L.blk)→(∀ b,b<n→h.get b=none→h'.get b=none)→(∀ b k,n≤b→b<n'→h'.get b=some k→∃ L,ρ2 b=some L)→next (a.put o.dst y) w') :
 o.wpIn (Fr rd') 0 P a w next Q:=by
 have hoc:opN E ih (only t (opTmps o)) h n o= .inl (v,h',n'):=by unfold opN at ho ⊢;rw[opA_congr (t:=only t (opTmps o)) (t':=t) fun k hk=>only_get t hk];exact ho
 let G1:Gh:={heap:=w.heap,own:=fun r=>∃ b L k,ρ b=some L∧b<n∧h.get b=some k∧isRo k=false∧r=L.blk,ng:=G.ng,oo:=Oo w}
 have S:St G1 (ρ.below n) h n w:=by
  refine⟨⟨?_,?_,?_,fun _ _ _=>rfl,nlR _,?_,rfl⟩,?_,hcan.hb⟩
  ·intro b L k h1 h2;obtain⟨h3,h4⟩:=below_some.1 h1;obtain⟨M,hM⟩:=hmap b L k h4 h3 h2;exact tight_blk hcan.fr (hcan.wr.blk b M k hM h2) (H.blk b L k h4 (by rw[agree b L h3 h4];exact h2))
  ·intro b b' L L' k k' hne h1 h1' h2 h2' hr;obtain⟨h3,h4⟩:=below_some.1 h1;obtain⟨h3',h4'⟩:=below_some.1 h1';exact H.apart b b' L L' k k' hne h4 h4' (by rw[agree b L h3 h4];exact h2) (by rw[agree b' L' h3' h4'];exact h2') hr
  ·intro b L k h1 h2 hr;obtain⟨h3,h4⟩:=below_some.1 h1;exact .inl ⟨b,L,k,h4,h3,h2,hr,rfl⟩
  ·intro g hg';obtain⟨s,hs⟩:=H.glob g hg';exact⟨s,below_some.2 ⟨hgl g hg',hs⟩⟩
  ·intro b hb;unfold Ren.below;rw[if_neg (by omega)]
 refine opN_sim (G:=G1) K hg HC HR S (only_rel hb ht) hoc fun y ρ' w' r2 r3=>?_
 let ρ2:Ren:=fun b=>if b<n' then ρ' b else ρ b
 have lo:∀ {b},b<n'→ρ2 b=ρ' b:=fun hb=>if_pos hb
 have hi:∀ {b},n'≤b→ρ2 b=ρ b:=fun hb=>if_neg (by omega)
 have e1:Ext ρ' ρ2:=by
  intro b L hL;rcases Nat.lt_or_ge b n' with hlt|hge
  ·rw[lo hlt];exact hL
  ·rw[r3.st.fr b hge] at hL;cases hL
 have e2:Ext ρ ρ2:=by
  intro b L hL;rcases Nat.lt_or_ge b n with hlt|hge
  ·rw[lo (Nat.lt_of_lt_of_le hlt r3.le)];exact r3.ext b L (below_some.2 ⟨hlt,hL⟩)
  ·rcases Nat.lt_or_ge b n' with hlt'|hge'
   ·rw[gap b hge hlt'] at hL;cases hL
   ·rw[hi hge'];exact hL
 have glo:∀ {b},b<n'→(merge h' hh ids).get b=h'.get b:=fun hb=>merge_out fun hm=>by have:=hids _ hm;omega
 have ghi:∀ {b L},n'≤b→ρ b=some L→(merge h' hh ids).get b=hh.get b:=fun hb hL=>merge_in (hall _ _ hb hL)
 have nown:∀ {b L k},n'≤b→ρ b=some L→hh.get b=some k→¬ G1.own L.blk:=by rintro b L k hb hL hk ⟨b2,L2,k2,q1,q2,q3,q4,q5⟩;have hle:=r3.le;exact H.apart b b2 L L2 k k2 (by omega) hL q1 hk (by rw[agree b2 L2 q2 q1];exact q3) (.inr q4) q5
 refine hnext y ρ2 w' (r2.mono e1) e2 ⟨?_,?_,?_,?_,Nat.le_trans H.size r3.st.wr.size,?_,r3.st.wr.out.trans H.out⟩ (fun b hb=>hi hb) (fun b hb hn=>?_) r3.le
  (fun b L hn h2=>?_) r3.dead (fun b k hb hb' hk=>?_)
 ·intro b L k h1 h2;rcases Nat.lt_or_ge b n' with hlt|hge
  ·rw[lo hlt] at h1;rw[glo hlt] at h2;exact(r3.st.wr.blk b L k h1 h2).mono e1
  ·rw[hi hge] at h1;rw[ghi hge h1] at h2;rw[r3.st.wr.frame L.blk (H.lt h1 h2) (nown hge h1 h2)];exact(H.blk b L k h1 h2).mono e2
 ·have mixed:∀ {b b' L L' k k'},b<n'→n'≤b'→ρ' b=some L→ρ b'=some L'→h'.get b=some k→hh.get b'=some k'→L.blk≠L'.blk:=by
   intro b b' L L' k k' hlt hge h1 h1' h2 h2';have hr':=hro b' L' k' hge h1' h2';cases hbl:ρ.below n b with
   | some M =>
     have:=r3.ext b M hbl;rw[h1] at this;cases this;obtain⟨h3,h4⟩:=below_some.1 hbl;cases hk0:h.get b with
     | none=>rw[r3.dead b h3 hk0] at h2;cases h2
     | some k0=>exact H.apart b b' L L' k0 k' (by omega) h4 h1' (by rw[agree b L h3 h4];exact hk0) h2' (.inr hr')
   | none =>
     rcases r3.newOwn b L hbl h1 with⟨b2,L2,k2,q1,q2,q3,q4,q5⟩|hsz
     ·rw[q5];have hle:=r3.le;exact H.apart b2 b' L2 L' k2 k' (by omega) q1 h1' (by rw[agree b2 L2 q2 q1];exact q3) h2' (.inr hr')
     ·have:=H.lt h1' h2';have hsz:w.heap.size≤L.blk:=hsz;omega
  intro b b' L L' k k' hne h1 h1' h2 h2' hr;rcases Nat.lt_or_ge b n' with hlt|hge
  ·rw[lo hlt] at h1;rw[glo hlt] at h2;rcases Nat.lt_or_ge b' n' with hlt'|hge'
   ·rw[lo hlt'] at h1';rw[glo hlt'] at h2';exact r3.st.wr.apart b b' L L' k k' hne h1 h1' h2 h2' hr
   ·rw[hi hge'] at h1';rw[ghi hge' h1'] at h2';exact mixed hlt hge' h1 h1' h2 h2'
  ·rw[hi hge] at h1;rw[ghi hge h1] at h2;rcases Nat.lt_or_ge b' n' with hlt'|hge'
   ·rw[lo hlt'] at h1';rw[glo hlt'] at h2';exact(mixed hlt' hge h1' h1 h2' h2).symm
   ·rw[hi hge'] at h1';rw[ghi hge' h1'] at h2';exact H.apart b b' L L' k k' hne h1 h1' h2 h2' hr
 ·intro b L k h1 h2 hr;rcases Nat.lt_or_ge b n' with hlt|hge
  ·rw[lo hlt] at h1;rw[glo hlt] at h2;rcases r3.st.wr.own b L k h1 h2 hr with⟨b2,L2,k2,q1,q2,q3,q4,q5⟩|hsz
   ·rw[q5];exact H.own b2 L2 k2 q1 (by rw[agree b2 L2 q2 q1];exact q3) q4
   ·exact .inr (Nat.le_trans H.size hsz)
  ·rw[hi hge] at h1;rw[ghi hge h1] at h2;exact H.own b L k h1 h2 hr
 ·intro r hr ho';rw[r3.st.wr.frame r (Nat.lt_of_lt_of_le hr H.size) ?_]
  ·exact H.frame r hr ho'
  ·rintro⟨b2,L2,k2,q1,q2,q3,q4,q5⟩;rcases H.own b2 L2 k2 q1 (by rw[agree b2 L2 q2 q1];exact q3) q4 with h1|h1
   ·exact ho' (q5▸h1)
   ·omega
 ·intro g hg';obtain⟨s,hs⟩:=H.glob g hg';exact⟨s,e2 _ _ hs⟩
 ·have hbl:ρ.below n b=none:=by
   unfold Ren.below;rw[if_pos hb];exact hn
  rw[lo (Nat.lt_of_lt_of_le hb r3.le)];exact⟨r3.new b hb hbl,r3.afr b hb hbl⟩
 ·rcases Nat.lt_or_ge b n' with hlt|hge
  ·rw[lo hlt] at h2;have hbl:ρ.below n b=none:=by
    unfold Ren.below;split
    ·exact hn
    ·rfl
   rcases r3.newOwn b L hbl h2 with⟨b2,L2,k2,q1,q2,q3,q4,q5⟩|hsz
   ·rw[q5];exact H.own b2 L2 k2 q1 (by rw[agree b2 L2 q2 q1];exact q3) q4
   ·exact .inr (Nat.le_trans H.size hsz)
  ·rw[hi hge,hn] at h2;cases h2
 ·rw[lo hb'];exact r3.tot b k hb hk
end
theorem bindsA_eq(e:Edge):bindsA e=Region.binds .any e:=by unfold bindsA Region.binds;cases e.ground<;>rfl
theorem ancs_length:∀ (os:List Oper)(acc:List Nat),(ancs os acc).length=acc.length+os.length
 | [],acc=>by simp[ancs]
 | o :: os,acc=>by rw[ancs,ancs_length os];simp;omega
theorem ancs_prefix:∀ (os:List Oper)(acc:List Nat)(k:Nat),k<acc.length→(ancs os acc)[k]? =acc[k]?
 | [],acc,k,_=>rfl
 | o :: os,acc,k,hk=>by rw[ancs,ancs_prefix os _ k (by simp;omega),List.getElem?_append_left hk]
theorem anc1_bit{acc:List Nat}{j:Nat}:∀ {l:List Edge},Nat.testBit (anc1 acc l) j=true↔∃ e∈l,bindsA e=true∧(j=e.on∨Nat.testBit ((acc[e.on]?).getD 0) j=true)
 | []=>by simp[anc1]
 | e :: l=>by
   rw[anc1,biE];split
   ·rename_i hb;have h1:Nat.testBit (Nat.lor (Nat.lor (2 ^ e.on) ((nth acc e.on).getD 0)) (anc1 acc l)) j=(decide (e.on=j)||Nat.testBit ((nth acc e.on).getD 0) j||Nat.testBit (anc1 acc l) j):=by
     have:=Nat.testBit_or (2 ^ e.on ||| (nth acc e.on).getD 0) (anc1 acc l) j;have h2:=Nat.testBit_or (2 ^ e.on) ((nth acc e.on).getD 0) j;have h3:=Nat.testBit_two_pow (n:=e.on) (m:=j);show Nat.testBit ((2 ^ e.on ||| (nth acc e.on).getD 0) ||| anc1 acc l) j=_;rw[this,h2,h3]
    rw[h1,nth_eq];simp only[Bool.or_eq_true,decide_eq_true_eq,anc1_bit (l:=l),List.mem_cons];constructor
    ·rintro ((h|h)|⟨x,hx,hx'⟩)
     ·exact⟨e,.inl rfl,hb,.inl h.symm⟩
     ·exact⟨e,.inl rfl,hb,.inr h⟩
     ·exact⟨x,.inr hx,hx'⟩
    ·rintro⟨x,rfl|hx,hx'⟩
     ·rcases hx'.2 with h|h
      ·exact .inl (.inl h.symm)
      ·exact .inl (.inr h)
     ·exact .inr ⟨x,hx,hx'⟩
   ·rename_i hb;rw[anc1_bit (l:=l)];constructor
    ·rintro⟨x,hx,hx'⟩;exact⟨x,mcM _ hx,hx'⟩
    ·rintro⟨x,hx,hx'⟩;rcases List.mem_cons.1 hx with rfl|hx
     ·exact absurd hx'.1 hb
     ·exact⟨x,hx,hx'⟩
theorem ancs_at:∀ (os:List Oper)(acc:List Nat)(m:Nat)(o:Oper),os[m]? =some o→(∀ e∈o.after.toList,bindsA e=true→e.on<acc.length+m) →
 ∀ j,Nat.testBit (((ancs os acc)[acc.length+m]?).getD 0) j=true↔∃ e∈o.after.toList,bindsA e=true∧(j=e.on∨Nat.testBit (((ancs os acc)[e.on]?).getD 0) j=true)
 | [],acc,m,o,h,_,_=>by simp at h
 | o' :: os,acc,0,o,h,he,j=>by
   simp at h;subst h;rw[ancs];have h1:(ancs os (acc ++ [anc1 acc o'.after.toList]))[acc.length+0]? =some (anc1 acc o'.after.toList):=by rw[ancs_prefix _ _ _ (by simp)];simp
   rw[h1,Option.getD_some,anc1_bit];have key:∀ e∈o'.after.toList,bindsA e=true→(ancs os (acc ++ [anc1 acc o'.after.toList]))[e.on]? =acc[e.on]? :=by intro e h2 h3;have:=he e h2 h3;rw[ancs_prefix _ _ _ (by simp;omega),List.getElem?_append_left (by omega)]
   constructor
   ·rintro⟨e,h2,h3,h4⟩;exact⟨e,h2,h3,by rw[key e h2 h3];exact h4⟩
   ·rintro⟨e,h2,h3,h4⟩;exact⟨e,h2,h3,by rw[key e h2 h3] at h4;exact h4⟩
 | o' :: os,acc,m+1,o,h,he,j=>by
   rw[ancs];have:=ancs_at os (acc ++ [anc1 acc o'.after.toList]) m o (by simpa using h) (fun e h2 h3=>by have:=he e h2 h3;simp;omega) j;have e1:(acc ++ [anc1 acc o'.after.toList]).length+m=acc.length+(m+1):=by simp;omega
   rw[e1] at this;exact this
theorem anc_done{ops:List Oper}{D:Nat→Prop}(hE:∀ (i:Nat)(o:Oper),ops[i]? =some o→∀ e∈o.after.toList,bindsA e=true→e.on<i)
 (hD:∀ (i:Nat) (o:Oper),ops[i]? =some o→D i→∀ e∈o.after.toList,bindsA e=true→D e.on) :
 ∀ (i:Nat) (o:Oper),ops[i]? =some o→(∀ e∈o.after.toList,bindsA e=true→D e.on)→∀ j,Nat.testBit (((ancs ops [])[i]?).getD 0) j=true→D j∧j<i:=by
 intro i
 induction i using Nat.strongRecOn with
 | _ i ih =>
   intro o ho hd j hj;have h1:=(ancs_at ops [] i o ho (by simpa using hE i o ho) j).1 (by simpa using hj);obtain⟨e,h2,h3,h4⟩:=h1;have hlt:=hE i o ho e h2 h3;rcases h4 with rfl|h4
   ·exact⟨hd e h2 h3,hlt⟩
   ·have hlen:e.on<ops.length:=by
     have:=(gsI ho).1;omega
    have ho':ops[e.on]? =some ops[e.on]:=ggE hlen;obtain⟨q1,q2⟩:=ih e.on hlt ops[e.on] ho' (fun e' h5 h6=>hD e.on _ ho' (hd e h2 h3) e' h5 h6) j h4;exact⟨q1,by omega⟩
theorem laterOK_spec{all:List Oper}{i:Nat}{a:Oper}:∀ {bs:List Oper}{ms:List Nat},laterOK all i a bs ms=true→∀ (q:Nat)(b:Oper)(m:Nat),bs[q]? =some b→ms[q]? =some m→pairOK all a b (Nat.testBit m i)=true
 | [],_,_,q,b,m,hb,_=>by simp at hb
 | _ :: _,[],_,q,b,m,_,hm=>by simp at hm
 | b' :: bs,m' :: ms,h,0,b,m,hb,hm=>by simp at hb hm;subst hb;subst hm;simp only[laterOK,baT] at h;exact h.1
 | b' :: bs,m' :: ms,h,q+1,b,m,hb,hm=>by simp only[laterOK,baT] at h;exact laterOK_spec h.2 q b m (by simpa using hb) (by simpa using hm)
theorem allOK_spec{all:List Oper}:∀ {as:List Oper}{i:Nat}{ms:List Nat},allOK all i as ms=true→∀ (p q:Nat)(a b:Oper)(m:Nat),p<q→as[p]? =some a→as[q]? =some b→ms[q]? =some m →
 pairOK all a b (Nat.testBit m (i+p))=true
 | [],_,_,_,p,q,a,b,m,_,ha,_,_=>by simp at ha
 | _ :: _,_,[],_,p,q,a,b,m,_,_,_,hm=>by simp at hm
 | a' :: as,i,m' :: ms,h,0,q+1,a,b,m,_,ha,hb,hm=>by simp at ha;subst ha;simp only[allOK,baT] at h;exact laterOK_spec h.1 q b m (by simpa using hb) (by simpa using hm)
 | a' :: as,i,m' :: ms,h,p+1,q+1,a,b,m,hpq,ha,hb,hm=>by
   simp only[allOK,baT] at h;have:=allOK_spec h.2 p q a b m (by omega) (by simpa using ha) (by simpa using hb) (by simpa using hm)
   rwa [show i+1+p=i+(p+1) by omega] at this
 | _ :: _,_,_ :: _,_,p,0,_,_,_,hpq,_,_,_=>by omega
theorem edgesOK_spec:∀ {l:List Oper}{i:Nat},edgesOK i l=true→∀ (p:Nat)(o:Oper),l[p]? =some o→(∀ e∈o.after.toList,bindsA e=true→e.on<i+p) ∧
 (∀ j b,o.guard=some (j,b)→∃ e∈o.after.toList,bindsA e=true∧e.on=j)
 | [],_,_,p,o,ho=>by simp at ho
 | o' :: l,i,h,0,o,ho=>by
   simp at ho;subst ho;simp only[edgesOK,baT,List.all_eq_true,Bool.or_eq_true,Bool.not_eq_true',bltT] at h;refine⟨fun e he hb=>?_,fun j b hg=>?_⟩
   ·rcases h.1.1 e he with h1|h1
    ·rw[h1] at hb;cases hb
    ·simpa using h1
   ·have h2:=h.1.2;rw[hg] at h2;simp only[List.any_eq_true,baT,beqT] at h2;obtain⟨e,he,h3,h4⟩:=h2;exact⟨e,he,h4,h3⟩
 | o' :: l,i,h,p+1,o,ho=>by
   simp only[edgesOK,baT] at h;have:=edgesOK_spec h.2 p o (by simpa using ho)
   rwa [show i+1+p=i+(p+1) by omega] at this
theorem regOK_spec{ops:List Oper}(h:regOK ops=true):(∀ (i:Nat)(o:Oper),ops[i]? =some o→∀ e∈o.after.toList,bindsA e=true→e.on<i) ∧
 (∀ (i:Nat) (o:Oper),ops[i]? =some o→∀ j b,o.guard=some (j,b)→∃ e∈o.after.toList,bindsA e=true∧e.on=j) ∧
 ∀ (p q:Nat) (a b:Oper),p<q→ops[p]? =some a→ops[q]? =some b→Nat.testBit (((ancs ops [])[q]?).getD 0) p=true∨(clash ops a b=false∧¬ (isLoud a=true∧isLoud b=true)):=by
 simp only[regOK,baT] at h;refine⟨fun i o ho e he hb=>by simpa using (edgesOK_spec h.1 i o ho).1 e he hb,fun i o ho j b hg=>(edgesOK_spec h.1 i o ho).2 j b hg,fun p q a b hpq ha hb=>?_⟩;have hlen:q<(ancs ops []).length:=by rw[ancs_length];have:=(gsI hb).1;simpa using this
 have:=allOK_spec h.2 p q a b _ hpq ha hb (ggE hlen);rw[ggE hlen,Option.getD_some];simp only[Nat.zero_add,pairOK,Bool.or_eq_true,Bool.not_eq_true',Bool.or_eq_false_iff,Bool.and_eq_false_iff] at this;rcases this with h1|⟨h1,h2⟩
 ·exact .inl h1
 ·refine .inr ⟨h1,fun h3=>?_⟩;rcases h2 with h2|h2
  ·rw[h3.1] at h2;cases h2
  ·rw[h3.2] at h2;cases h2
def tAt(log:List Ent)(t':T Value)(i:Nat):T Value:=match log[i]? with|some x=>x.t|none=>t'
def hAt(log:List Ent)(h':T Blk)(i:Nat):T Blk:=match log[i]? with|some x=>x.h0|none=>h'
def nAt(log:List Ent)(n':Nat)(i:Nat):Nat:=match log[i]? with|some x=>x.n0|none=>n'
section
variable {E:Env}{ih:Run}{many:Nat}{all:List Oper}
theorem chain_len{os:List Oper}{t:T Value}{h:T Blk}{n:Nat}{log:List Ent}{t':T Value}{h':T Blk}{n':Nat}(hc:Chain E ih many all os t h n log t' h' n'):log.length=os.length:=by
 induction hc with
 | nil=>rfl
 | cons _ _ _ _ _ _ _ _ ih=>simp[ih]
theorem chain_zero{os:List Oper}{t:T Value}{h:T Blk}{n:Nat}{log:List Ent}{t':T Value}{h':T Blk}{n':Nat}(hc:Chain E ih many all os t h n log t' h' n') :
 tAt log t' 0=t∧hAt log h' 0=h∧nAt log n' 0=n:=by
 cases hc with
 | nil=>exact⟨rfl,rfl,rfl⟩
 | cons _ e1 e2 e3=>exact⟨e1,e2,e3⟩
theorem chain_at{os:List Oper}{t:T Value}{h:T Blk}{n:Nat}{log:List Ent}{t':T Value}{h':T Blk}{n':Nat}(hc:Chain E ih many all os t h n log t' h' n') :
 ∀ (i:Nat) (o:Oper),os[i]? =some o→∃ x,log[i]? =some x∧wantedA all (tAt log t' i) o=some x.did ∧
   (x.did=true→opN E ih (tAt log t' i) (hAt log h' i) (nAt log n' i) o= .inl (x.v,hAt log h' (i+1),nAt log n' (i+1))∧belowT (nAt log n' i) (tAt log t' i) (opTmps o)=true) ∧
   (x.did=false→x.v=undefV∧hAt log h' (i+1)=hAt log h' i∧nAt log n' (i+1)=nAt log n' i) ∧
   putT many o.dst x.v (tAt log t' i)=some (tAt log t' (i+1))∧x.t=tAt log t' i∧x.h0=hAt log h' i∧x.h1=hAt log h' (i+1):=by
 induction hc with
 | nil=>intro i o ho;simp at ho
 | cons hw e1 e2 e3 h1 h2 hp hc' ihc =>
   rename_i o os x t h n t1 log t' h' n';intro i o' ho;obtain⟨z1,z2,z3⟩:=chain_zero hc';cases i with
   | zero =>
     simp at ho;subst ho;have a1:tAt (x :: log) t' 0=t:=e1;have a2:hAt (x :: log) h' 0=h:=e2;have a3:nAt (x :: log) n' 0=n:=e3;have b1:tAt (x :: log) t' 1=t1:=by rw[←z1];rfl
     have b2:hAt (x :: log) h' 1=x.h1:=by rw[←z2];rfl
     have b3:nAt (x :: log) n' 1=x.n1:=by rw[←z3];rfl
     refine⟨x,rfl,?_⟩;rw[a1,a2,a3,Nat.zero_add,b1,b2,b3];exact⟨hw,h1,h2,hp,e1,e2,rfl⟩
   | succ i=>exact ihc i o' (by simpa using ho)
def Writes(ops:List Oper)(k:Tmp)(j:Nat):Prop:=∃ o,ops[j]? =some o∧o.dst=some k
theorem putT_get{many:Nat}{dst:Option Tmp}{v:Value}{t t1:T Value}(hp:putT many dst v t=some t1)(k:Tmp):t1.get k=if dst=some k then some v else t.get k:=by
 unfold putT at hp;cases dst with
 | none=>cases hp;simp
 | some d =>
   simp only[biE] at hp;split at hp
   ·cases hp;rw[T.get_upd];by_cases e:k=d
    ·rw[if_pos e,if_pos (by rw[e])]
    ·rw[if_neg e,if_neg (fun h=>e (Option.some.inj h).symm)]
   ·cases hp
theorem tAt_const{os:List Oper}{t:T Value}{h:T Blk}{n:Nat}{log:List Ent}{t':T Value}{h':T Blk}{n':Nat}(hc:Chain E ih many all os t h n log t' h' n'){k:Tmp}{p:Nat} :
 ∀ (m:Nat),p+m≤os.length→(∀ j,p≤j→j<p+m→¬ Writes os k j)→(tAt log t' (p+m)).get k=(tAt log t' p).get k
 | 0,_,_=>rfl
 | m+1,hm,hw=>by
   have hlt:p+m<os.length:=by omega
   obtain⟨x,_,_,_,_,hp,_⟩:=chain_at hc (p+m) os[p+m] (ggE hlt);rw[show p+(m+1)=p+m+1 by omega,putT_get hp k,if_neg]
   ·exact tAt_const hc m (by omega) fun j h1 h2=>hw j h1 (by omega)
   ·intro e;exact hw (p+m) (by omega) (by omega) ⟨_,ggE hlt,e⟩
def AtPos(ops:List Oper)(D:Nat→Prop)(k:Tmp)(i:Nat):Prop:=i≤ops.length∧(∀ j,j<i→Writes ops k j→D j)∧∀ j,i≤j→Writes ops k j→¬ D j
def TI(ops:List Oper)(log:List Ent)(t':T Value)(ρ:Ren)(D:Nat→Prop)(tmps:Array Value):Prop :=
 ∀ (k:Tmp) (i:Nat),AtPos ops D k i→∀ v,(tAt log t' i).get k=some v→∃ y,tmps[k]? =some y∧VRel ρ v y
theorem TI.mono{ops:List Oper}{log:List Ent}{t':T Value}{ρ ρ':Ren}{D:Nat→Prop}{tmps:Array Value}(e:Ext ρ ρ')(h:TI ops log t' ρ D tmps):TI ops log t' ρ' D tmps :=
 fun k i hp v hv=>let ⟨y,y1,y2⟩:=h k i hp v hv;⟨y,y1,y2.mono e⟩
theorem clash_same{all:List Oper}{a b:Oper}{k:Tmp}(ha:a.dst=some k)(hb:b.dst=some k):clash all a b=true:=by unfold clash;rw[ha,hb];simp[beqT]
theorem TI_put{os:List Oper}{t:T Value}{h:T Blk}{n:Nat}{log:List Ent}{t':T Value}{h':T Blk}{n':Nat}(hc:Chain E ih many all os t h n log t' h' n')(hR:regOK os=true){D:Nat→Prop}
 (hD:∀ (j:Nat) (o:Oper),os[j]? =some o→D j→∀ e∈o.after.toList,bindsA e=true→D e.on) {i:Nat} {o:Oper} (hi:os[i]? =some o) (hni:¬ D i) {ρ:Ren} {a:Act} (hs:a.tmps.size=many)
 (hT:TI os log t' ρ D a.tmps) {x:Ent} (hx:log[i]? =some x) {y:Value} (hv:VRel ρ x.v y):TI os log t' ρ (fun j=>D j∨j=i) (a.put o.dst y).tmps:=by
 obtain⟨hE,_,hP⟩:=regOK_spec hR;obtain⟨x',c1,_,_,_,hp,_⟩:=chain_at hc i o hi;rw[hx] at c1;cases c1;intro k p hpos v hv';obtain⟨p1,p2,p3⟩:=hpos;by_cases hk:o.dst=some k
 ·have hw:Writes os k i:=⟨o,hi,hk⟩
  have hip:i<p:=by
   rcases Nat.lt_or_ge i p with h1|h1
   ·exact h1
   ·exact absurd (.inr rfl) (p3 i h1 hw)
  have hno:∀ j,i+1≤j→j<i+1+(p-(i+1))→¬ Writes os k j:=by
   rintro j h1 h2 ⟨oj,hj,hjk⟩;have hDj:D j:=(p2 j (by omega) ⟨oj,hj,hjk⟩).resolve_right (by omega);rcases hP i j o oj (by omega) hi hj with h3|⟨h3,_⟩
   ·exact hni (anc_done hE hD j oj hj (hD j oj hj hDj) i h3).1
   ·rw[clash_same hk hjk] at h3;cases h3
  have hconst:=tAt_const hc (k:=k) (p:=i+1) (p-(i+1)) (by omega) hno;rw[show i+1+(p-(i+1))=p by omega,putT_get hp k,if_pos hk] at hconst;rw[hconst] at hv';cases hv';refine⟨y,?_,hv⟩;have hlt:k<many:=by
   unfold putT at hp;rw[hk] at hp;simp only[biE,bltT] at hp;split at hp
   ·assumption
   ·cases hp
  rw[hk];simp[Act.put,hs,hlt]
 ·have hni':∀ j,Writes os k j→j≠i:=by
   rintro j ⟨oj,hj,hjk⟩ rfl;rw[hi] at hj;cases hj;exact hk hjk
  obtain⟨z,z1,z2⟩:=hT k p ⟨p1,fun j h1 h2=>(p2 j h1 h2).resolve_right (hni' j h2),fun j h1 h2 h3=>p3 j h1 h2 (.inl h3)⟩ v hv';refine⟨z,?_,z2⟩;unfold Act.put;split
  ·rename_i d hd;simp only;rw[Array.getElem?_setIfInBounds_ne]
   ·exact z1
   ·intro e;exact hk (by rw[hd,e])
  ·exact z1
theorem memN_iff{n:Nat}:∀ {l:List Nat},memN n l=true↔n∈l
 | []=>by simp[memN]
 | k :: l=>by simp only[memN,Bool.or_eq_true,beqT,memN_iff (l:=l),List.mem_cons];exact⟨fun h=>h.imp Eq.symm id,fun h=>h.imp Eq.symm id⟩
theorem looks_at{os:List Oper}(hR:regOK os=true){D:Nat→Prop}(hD:∀ (j:Nat)(o:Oper),os[j]? =some o→D j→∀ e∈o.after.toList,bindsA e=true→D e.on){i:Nat}{o:Oper}(hi:os[i]? =some o)
 (hni:¬ D i) (hr:∀ e∈o.after.toList,bindsA e=true→D e.on) {k:Tmp} (hk:k∈looks os o):AtPos os D k i:=by
 obtain⟨hE,_,hP⟩:=regOK_spec hR;refine⟨Nat.le_of_lt (gsI hi).1,?_,?_⟩
 ·rintro j hj ⟨oj,hoj,hjk⟩;have hcl:clash os oj o=true:=by
   unfold clash;rw[hjk];have:=memN_iff.2 hk;cases o.dst<;>simp[this]
  rcases hP j i oj o hj hoj hi with h1|⟨h1,_⟩
  ·exact(anc_done hE hD i o hi hr j h1).1
  ·rw[hcl] at h1;cases h1
 ·rintro j hj ⟨oj,hoj,hjk⟩ hDj;rcases Nat.lt_or_ge i j with hlt|hge
  ·have hcl:clash os o oj=true:=by
    unfold clash;rw[hjk];have:=memN_iff.2 hk;cases o.dst<;>simp[this]
   rcases hP i j o oj hlt hi hoj with h1|⟨h1,_⟩
   ·exact hni (anc_done hE hD j oj hoj (hD j oj hoj hDj) i h1).1
   ·rw[hcl] at h1;cases h1
  ·have:j=i:=by omega
   subst this;exact hni hDj
end
section
variable {E:Env}{h:T Blk}{n:Nat}{t:T Value}{ih:Run}
def isVal:OO→Bool
 | .val _ _ _=>true
 | .no _=>true
 | _=>false
theorem val?_isVal{why:String}(v:Option Value):isVal (val? h n why v)=true:=by cases v<;>rfl
theorem quiet_val{o:Oper}(hk:isLoud o=false):isVal (opA E t h n o)=true:=by
 obtain⟨dst,op,ty0,pos,after,guard⟩:=o;cases op
 case makeMap ty r=>cases r<;>first|rfl|(simp[isLoud,kindOf] at hk)
 case call c =>
  obtain⟨callee,cargs,ats⟩:=c;cases callee with
  | value f=>simp[isLoud,kindOf] at hk
  | invoke r nm=>simp[isLoud,kindOf] at hk
  | builtin b =>
    simp only[opA];split
    ·cases b<;>first|(simp[isLoud,kindOf] at hk;done)|skip
     all_goals
      simp only[builtinA]
      first
       | exact val?_isVal _
       | (split<;>first|exact val?_isVal _|rfl|(simp at *;done))
    ·rfl
 all_goals first
  | (simp[isLoud,kindOf] at hk;done)
  | skip
 all_goals
  simp only[opA]
  repeat' split
  all_goals first|exact val?_isVal _|rfl|(rw[biE];split<;>rfl)
theorem quiet_opN{o:Oper}(hk:isLoud o=false){v:Value}{h':T Blk}{n':Nat}(hx:opN E ih t h n o= .inl (v,h',n')):opA E t h n o= .val v h' n':=by
 have hv:=quiet_val (E:=E) (h:=h) (n:=n) (t:=t) hk;unfold opN at hx;cases hop:opA E t h n o with
 | val v1 h1 n1 =>
   rw[hop] at hx;simp only[Sum.inl.injEq,Prod.mk.injEq] at hx;obtain⟨rfl,rfl,rfl⟩:=hx;rfl
 | no s=>rw[hop] at hx;cases hx
 | _=>rw[hop] at hv;cases hv
theorem read_heap{o:Oper}(hk:kindOf o= .read){v:Value}{h':T Blk}{n':Nat}(hx:opA E t h n o= .val v h' n'):h'=h∧n'=n:=by
 obtain⟨dst,op,ty0,pos,after,guard⟩:=o;cases op with
 | load ty x =>
   simp only[opA] at hx;split at hx
   ·exact⟨(valq hx).2.1,(valq hx).2.2⟩
   ·cases hx
 | lookup ty x i ok =>
   simp only[opA] at hx;split at hx
   ·exact⟨(valq hx).2.1,(valq hx).2.2⟩
   ·cases hx
 | makeMap ty r=>cases r<;>simp[kindOf] at hk
 | call c =>
   obtain⟨callee,cargs,ats⟩:=c;cases callee with
   | value f=>simp[kindOf] at hk
   | invoke r nm=>simp[kindOf] at hk
   | builtin b=>cases b<;>simp[kindOf] at hk
 | _=>simp[kindOf] at hk
end
section
variable {E:Env}{ih:Run}{many:Nat}{all:List Oper}
def NMono(log:List Ent)(n':Nat):Prop:=∀ i,nAt log n' i≤nAt log n' (i+1)
theorem NMono.le{log:List Ent}{n':Nat}(h:NMono log n'){i:Nat}:∀ (m:Nat),nAt log n' i≤nAt log n' (i+m)
 | 0=>nlR _
 | m+1=>Nat.le_trans (h.le m) (h (i+m))
def Quiet(os:List Oper)(p q:Nat):Prop:=∀ (j:Nat)(o:Oper),p≤j→j<q→os[j]? =some o→isLoud o=false
theorem quiet_get{os:List Oper}{t:T Value}{h:T Blk}{n:Nat}{log:List Ent}{t':T Value}{h':T Blk}{n':Nat}(hc:Chain E ih many all os t h n log t' h' n')(hM:NMono log n'){p:Nat} :
 ∀ (m:Nat),p+m≤os.length→Quiet os p (p+m)→∀ b,b<nAt log n' p→(hAt log h' (p+m)).get b=(hAt log h' p).get b
 | 0,_,_,_,_=>rfl
 | m+1,hm,hq,b,hb=>by
   have hlt:p+m<os.length:=by omega
   have ho:os[p+m]? =some os[p+m]:=ggE hlt;obtain⟨x,_,_,c1,c2,_⟩:=chain_at hc (p+m) os[p+m] ho;have ihm:=quiet_get hc hM m (by omega) (fun j o h1 h2=>hq j o h1 (by omega)) b hb;rw[show p+(m+1)=p+m+1 by omega,← ihm];cases hd:x.did with
   | false=>rw[(c2 hd).2.1]
   | true =>
     obtain⟨d1,_⟩:=c1 hd;have hl:=hq (p+m) os[p+m] (by omega) (by omega) ho;have hbm:b<nAt log n' (p+m):=Nat.lt_of_lt_of_le hb (hM.le m);have hv:∀ {v:Value} {h1:T Blk} {n1:Nat},opA E (tAt log t' (p+m)) (hAt log h' (p+m)) (nAt log n' (p+m)) os[p+m]= .val v h1 n1→h1.get b=(hAt log h' (p+m)).get b:=by
      intro v h1 n1 hop;cases hkind:kindOf os[p+m] with
      | pure=>rw[(opA_pure hkind hop).1]
      | alloc =>
        obtain⟨_,k,_,hk,_⟩:=opA_alloc hkind hop;rw[hk,T.gnE _ _ (by omega)]
      | read=>rw[(read_heap hkind hop).1]
      | loud=>simp[isLoud,hkind] at hl
     exact hv (quiet_opN hl d1)
theorem chain_mono{P:Program}{G:Gh}(K:EOk E P)(hg:E.glob≤G.ng)(HC:CallOk E P (callF E ih))(HR:RoundOk E P (roundF E ih)) :
 ∀ {os:List Oper} {log:List Ent} {t:T Value} {h:T Blk} {n:Nat} {t':T Value} {h':T Blk} {n':Nat},Chain E ih many all os t h n log t' h' n'→∀ {ρ:Ren} {a:Act} {w:World},St G ρ h n w→TR ρ t a.tmps→a.tmps.size=many→NMono log n':=by
 intro os log t h n t' h' n' hc
 induction hc with
 | nil=>intro ρ a w _ _ _ i;exact nlR _
 | cons hw e1 e2 e3 h1 h2 hp hc' ihc =>
   rename_i o os x t h n t1 log t' h' n';intro ρ a w hs ht hsz;have go:∃ (ρ1:Ren) (a1:Act) (w1:World),n≤x.n1∧St G ρ1 x.h1 x.n1 w1∧TR ρ1 t1 a1.tmps∧a1.tmps.size=many:=by
    cases hd:x.did with
    | true =>
      obtain⟨k1,k2⟩:=h1 hd;have:=opN_sim (rd':=none) (Q:=fun _ _ _=>False) (next:=fun a1 w1=>∃ ρ1,n≤x.n1∧St G ρ1 x.h1 x.n1 w1∧TR ρ1 t1 a1.tmps∧a1.tmps.size=many) K hg HC HR hs ht k1 (fun y ρ1 w1 q1 q2=>by obtain⟨z1,z2⟩:=putTR (ht.mono q2.ext) hsz q1 hp;exact⟨ρ1,q2.le,q2.st,z1,z2⟩);obtain⟨a1,w1,ρ1,r⟩:=wpIn_exists this;exact⟨ρ1,a1,w1,r⟩
    | false =>
      obtain⟨k1,k2,k3⟩:=h2 hd;rw[k1] at hp;obtain⟨z1,z2⟩:=putTR ht hsz (undef_rel ρ) hp;rw[k2,k3];exact⟨ρ,_,w,nlR _,hs,z1,z2⟩
   obtain⟨ρ1,a1,w1,r0,r1,r2,r3⟩:=go;have hm:=ihc r1 r2 r3;obtain⟨_,_,z3⟩:=chain_zero hc';intro i;cases i with
   | zero =>
     have a3:nAt (x :: log) n' 0=n:=e3;have b3:nAt (x :: log) n' 1=x.n1:=by rw[←z3];rfl
     rw[Nat.zero_add,a3,b3];exact r0
   | succ i=>exact hm i
end
def Al(os:List Oper)(log:List Ent)(j:Nat):Prop:=∃ o x,os[j]? =some o∧log[j]? =some x∧kindOf o= .alloc∧x.did=true
theorem NMono.upto{log:List Ent}{n':Nat}(h:NMono log n'){i j:Nat}(hij:i≤j):nAt log n' i≤nAt log n' j:=by
 have:=h.le (i:=i) (j-i)
 rwa [show i+(j-i)=j by omega] at this
section
variable {E:Env}{ih:Run}{many:Nat}{all os:List Oper}{t:T Value}{h:T Blk}{n:Nat}{log:List Ent}{t':T Value}{h':T Blk}{n':Nat}
theorem al_step(hc:Chain E ih many all os t h n log t' h' n'){j:Nat}(ha:Al os log j) :
 nAt log n' (j+1)=nAt log n' j+1∧∃ k,isRo k=false∧hAt log h' (j+1)=(hAt log h' j).upd (some k) (nAt log n' j):=by
 obtain⟨o,x,ho,hx,hk,hd⟩:=ha;obtain⟨x',e1,_,c1,_⟩:=chain_at hc j o ho;rw[hx] at e1;cases e1;obtain⟨d1,_⟩:=c1 hd;have hl:isLoud o=false:=by simp[isLoud,hk]
 obtain⟨q1,k,q2,q3,_⟩:=opA_alloc hk (quiet_opN hl d1);exact⟨q1,k,q2,q3⟩
theorem al_lt(hc:Chain E ih many all os t h n log t' h' n')(hM:NMono log n'){i j:Nat}(ha:Al os log i)(hij:i<j):nAt log n' i<nAt log n' j:=by have h1:=(al_step hc ha).1;have h2:=hM.upto (show i+1≤j from hij);omega
theorem al_inj(hc:Chain E ih many all os t h n log t' h' n')(hM:NMono log n'){i j:Nat}(hi:Al os log i)(hj:Al os log j)(e:nAt log n' i=nAt log n' j):i=j:=by
 rcases Nat.lt_trichotomy i j with h|h|h
 ·have:=al_lt hc hM hi h;omega
 ·exact h
 ·have:=al_lt hc hM hj h;omega
theorem al_len{j:Nat}(ha:Al os log j):j<os.length:=by obtain⟨o,_,ho,_⟩:=ha;exact(gsI ho).1
theorem quiet_new(hc:Chain E ih many all os t h n log t' h' n')(hM:NMono log n'){p:Nat} :
 ∀ (m:Nat),p+m≤os.length→Quiet os p (p+m)→∀ b,nAt log n' p≤b→b<nAt log n' (p+m)→∃ j,p≤j∧j<p+m∧Al os log j∧b=nAt log n' j
 | 0,_,_,b,h1,h2=>by rw[Nat.add_zero] at h2;omega
 | m+1,hm,hq,b,h1,h2=>by
   rcases Nat.lt_or_ge b (nAt log n' (p+m)) with hlt|hge
   ·obtain⟨j,q1,q2,q3,q4⟩:=quiet_new hc hM m (by omega) (fun j o r1 r2=>hq j o r1 (by omega)) b h1 hlt;exact⟨j,q1,by omega,q3,q4⟩
   ·have hlt:p+m<os.length:=by omega
    have ho:os[p+m]? =some os[p+m]:=ggE hlt;obtain⟨x,hx,_,c1,c2,_⟩:=chain_at hc (p+m) os[p+m] ho;have e:p+(m+1)=p+m+1:=by omega
    rw[e] at h2;cases hd:x.did with
    | false=>rw[(c2 hd).2.2] at h2;omega
    | true =>
      obtain⟨d1,_⟩:=c1 hd;have hl:=hq (p+m) os[p+m] (by omega) (by omega) ho;have hop:=quiet_opN hl d1;cases hkind:kindOf os[p+m] with
      | pure=>have:=(opA_pure hkind hop).2.1;omega
      | read=>have:=(read_heap hkind hop).2;omega
      | alloc =>
        have:=(opA_alloc hkind hop).1;exact⟨p+m,by omega,by omega,⟨_,x,ho,hx,hkind,hd⟩,by omega⟩
      | loud=>simp[isLoud,hkind] at hl
theorem quiet_old(hc:Chain E ih many all os t h n log t' h' n')(hM:NMono log n'){p q:Nat}(hpq:p≤q)(hq:q≤os.length)(hQ:Quiet os p q){b:Nat}(hb:b<nAt log n' p) :
 (hAt log h' q).get b=(hAt log h' p).get b:=by
 have e:p+(q-p)=q:=by omega
 have:=quiet_get hc hM (q-p) (by omega) (by rw[e];exact hQ) b hb
 rwa [e] at this
theorem Quiet.sub{p q r s:Nat}(h:Quiet os p q)(h1:p≤r)(h2:s≤q):Quiet os r s:=fun j o a b ho=>h j o (by omega) (by omega) ho
theorem chain_W{P:Program}{G:Gh}(K:EOk E P)(hg:E.glob≤G.ng)(HC:CallOk E P (callF E ih))(HR:RoundOk E P (roundF E ih))(hc:Chain E ih many all os t h n log t' h' n')
 {ρ:Ren} {a:Act} {w:World} (H:St G ρ h n w) (ht:TR ρ t a.tmps) (hs:a.tmps.size=many) :
 ∀ i,∃ (ρ1:Ren) (w1:World),Stp G ρ h n ρ1 (hAt log h' i) (nAt log n' i) w1:=by
 obtain⟨h1,ρ2,_,w2,s2,_⟩:=chain_worlds K hg HC HR hc (Stp.refl H) ht hs;intro i;unfold hAt nAt;cases hi:log[i]? with
 | some x =>
   obtain⟨ρ1,_,w1,s,_⟩:=h1 x (List.mem_of_getElem? hi);exact⟨ρ1,w1,s⟩
 | none=>exact⟨ρ2,w2,s2⟩
end
structure Core(G:Gh)(ρ0:Ren)(n0:Nat)(os:List Oper)(log:List Ent)(h':T Blk)(n':Nat)(D:Nat→Prop)(p:Nat)(ρ:Ren)(hh:T Blk):Prop where
 ple:p≤os.length
 loud:∀ (j:Nat) (o:Oper),os[j]? =some o→isLoud o=true→(D j↔j<p)
 lo:∀ b L,ρ b=some L→b<nAt log n' p→hh.get b=(hAt log h' p).get b
 hi:∀ b L,ρ b=some L→nAt log n' p≤b→∃ j,Al os log j∧p≤j∧D j∧b=nAt log n' j∧hh.get b=(hAt log h' (j+1)).get b
 und:∀ j,Al os log j→¬ D j→ρ (nAt log n' j)=none
 pend:∀ j,Al os log j→¬ D j→j<p→(hAt log h' p).get (nAt log n' j)=(hAt log h' (j+1)).get (nAt log n' j)
 don:∀ j,Al os log j→D j→∃ L,ρ (nAt log n' j)=some L
 tot:∀ b k,n0≤b→b<nAt log n' p→(hAt log h' p).get b=some k→(∃ L,ρ b=some L)∨∃ j,Al os log j∧b=nAt log n' j
 ext:Ext ρ0 ρ
 old:∀ b,b<n0→ρ0 b=none→ρ b=none
 own:∀ b L,ρ0 b=none→ρ b=some L→G.own L.blk∨G.heap.size≤L.blk
section
variable {E:Env}{ih:Run}{many:Nat}{all os:List Oper}{t:T Value}{h:T Blk}{n:Nat}{log:List Ent}{t':T Value}{h':T Blk}{n':Nat}
variable {G:Gh}{ρ0:Ren}{n0:Nat}{D:Nat→Prop}{p:Nat}{ρ:Ren}{hh:T Blk}
theorem Core.shift(hc:Chain E ih many all os t h n log t' h' n')(hM:NMono log n')(C:Core G ρ0 n0 os log h' n' D p ρ hh){q:Nat}(hpq:p≤q)(hq:q≤os.length)(hQ:Quiet os p q) :
 Core G ρ0 n0 os log h' n' D q ρ hh:=by
 have hnpq:=hM.upto hpq;have new:∀ b,nAt log n' p≤b→b<nAt log n' q→∃ j,p≤j∧j<q∧Al os log j∧b=nAt log n' j:=by
  intro b h1 h2;have e:p+(q-p)=q:=by omega
  obtain⟨j,r1,r2,r3⟩:=quiet_new hc hM (q-p) (by omega) (by rw[e];exact hQ) b h1 (by rw[e];exact h2);exact⟨j,r1,by omega,r3⟩
 refine⟨hq,?_,?_,?_,C.und,?_,C.don,?_,C.ext,C.old,C.own⟩
 ·intro j o ho hl;rw[C.loud j o ho hl];refine⟨fun h1=>by omega,fun h1=>?_⟩;rcases Nat.lt_or_ge j p with h2|h2
  ·exact h2
  ·have:=hQ j o h2 h1 ho;rw[hl] at this;cases this
 ·intro b L hL hb;rcases Nat.lt_or_ge b (nAt log n' p) with hlt|hge
  ·rw[C.lo b L hL hlt,quiet_old hc hM hpq hq hQ hlt]
  ·obtain⟨j,q1,q2,q3,q4,q5⟩:=C.hi b L hL hge;have hjq:j<q:=by
    rcases Nat.lt_or_ge j q with h1|h1
    ·exact h1
    ·have:=hM.upto h1;omega
   have:=(al_step hc q1).1;rw[q5,quiet_old hc hM (p:=j+1) (by omega) hq (hQ.sub (by omega) (by omega)) (by omega)]
 ·intro b L hL hb;obtain⟨j,q1,q2,q3,q4,q5⟩:=C.hi b L hL (by omega);refine⟨j,q1,?_,q3,q4,q5⟩;rcases Nat.lt_or_ge j q with h1|h1
  ·have:=al_lt hc hM q1 h1;omega
  ·exact h1
 ·intro j hA hnD hj;have:=(al_step hc hA).1;rcases Nat.lt_or_ge j p with h1|h1
  ·rw[quiet_old hc hM hpq hq hQ (al_lt hc hM hA h1)];exact C.pend j hA hnD h1
  ·rw[quiet_old hc hM (p:=j+1) (by omega) hq (hQ.sub (by omega) (by omega)) (by omega)]
 ·intro b k h1 h2 h3;rcases Nat.lt_or_ge b (nAt log n' p) with hlt|hge
  ·rw[quiet_old hc hM hpq hq hQ hlt] at h3;exact C.tot b k h1 hlt h3
  ·obtain⟨j,_,_,r3,r4⟩:=new b hge h2;exact .inr ⟨j,r3,r4⟩
theorem Core.quiet(C:Core G ρ0 n0 os log h' n' D p ρ hh){i:Nat}{o:Oper}(hi:os[i]? =some o)(hl:isLoud o=false)(hA:¬ Al os log i) :
 Core G ρ0 n0 os log h' n' (fun j=>D j∨j=i) p ρ hh:=by
 refine⟨C.ple,?_,C.lo,?_,fun j h1 h2=>C.und j h1 fun h3=>h2 (.inl h3),fun j h1 h2=>C.pend j h1 fun h3=>h2 (.inl h3),?_,C.tot,C.ext,C.old,C.own⟩
 ·intro j o' ho' hl';rw[←C.loud j o' ho' hl'];refine⟨fun h1=>h1.resolve_right fun e=>?_,.inl⟩;subst e;rw[hi] at ho';cases ho';rw[hl] at hl';cases hl'
 ·intro b L hL hb;obtain⟨j,q1,q2,q3,q4⟩:=C.hi b L hL hb;exact⟨j,q1,q2,.inl q3,q4⟩
 ·rintro j h1 (h2|rfl)
  ·exact C.don j h1 h2
  ·exact absurd h1 hA
theorem Core.pass{i:Nat}(C:Core G ρ0 n0 os log h' n' D i ρ hh){o:Oper}(hi:os[i]? =some o)(hl:isLoud o=true)(e1:hAt log h' (i+1)=hAt log h' i)(e2:nAt log n' (i+1)=nAt log n' i) :
 Core G ρ0 n0 os log h' n' (fun j=>D j∨j=i) (i+1) ρ hh:=by
 have hnA:¬ Al os log i:=by rintro⟨o',_,ho',_,hk,_⟩;rw[hi] at ho';cases ho';simp[isLoud,hk] at hl
 have hne:∀ {j},Al os log j→j≠i:=fun h1 e=>hnA (e▸h1)
 refine⟨(gsI hi).1,?_,?_,?_,fun j h1 h2=>C.und j h1 fun h3=>h2 (.inl h3),?_,?_,?_,C.ext,C.old,C.own⟩
 ·intro j o' ho' hl';rw[C.loud j o' ho' hl'];omega
 ·intro b L hL hb;rw[e1];exact C.lo b L hL (by rw[←e2];exact hb)
 ·intro b L hL hb;obtain⟨j,q1,q2,q3,q4⟩:=C.hi b L hL (by rw[←e2];exact hb);have:=hne q1;exact⟨j,q1,by omega,.inl q3,q4⟩
 ·intro j h1 h2 h3;have:=hne h1;rw[e1];exact C.pend j h1 (fun h4=>h2 (.inl h4)) (by omega)
 ·rintro j h1 (h2|h2)
  ·exact C.don j h1 h2
  ·exact absurd h2 (hne h1)
 ·intro b k h1 h2 h3;rw[e1] at h3;rw[e2] at h2;exact C.tot b k h1 h2 h3
theorem Core.lay(hc:Chain E ih many all os t h n log t' h' n')(hM:NMono log n')(hn0:n0≤nAt log n' 0)(C:Core G ρ0 n0 os log h' n' D p ρ hh){i:Nat}(hA:Al os log i)(hni:¬ D i){k:Blk}{L:Pl}(hL:G.heap.size≤L.blk)
 (hk:(hAt log h' (i+1)).get (nAt log n' i)=some k) :
 Core G ρ0 n0 os log h' n' (fun j=>D j∨j=i) p (ρ.add (nAt log n' i) L) (hh.upd (some k) (nAt log n' i)):=by
 have hb0:=C.und i hA hni;have hnl:∀ o,os[i]? =some o→isLoud o=false:=by intro o ho;obtain⟨o',_,ho',_,hk',_⟩:=hA;rw[ho] at ho';cases ho';simp[isLoud,hk']
 have hx:Ext ρ (ρ.add (nAt log n' i) L):=Ext.add L hb0;have hge0:n0≤nAt log n' i:=Nat.le_trans hn0 (hM.upto (Nat.zero_le i));have hstep:=(al_step hc hA).1;refine⟨C.ple,?_,?_,?_,?_,?_,?_,?_,fun b M h1=>hx _ _ (C.ext _ _ h1),?_,?_⟩
 ·intro j o' ho' hl';rw[←C.loud j o' ho' hl'];refine⟨fun h1=>h1.resolve_right fun e=>?_,.inl⟩;subst e;rw[hnl o' ho'] at hl';cases hl'
 ·intro b M hM' hb;by_cases hbe:b=nAt log n' i
  ·subst hbe;have hip:i<p:=by
    rcases Nat.lt_or_ge i p with h1|h1
    ·exact h1
    ·have:=hM.upto h1;omega
   rw[T.gsE,C.pend i hA hni hip,hk]
  ·rw[Ren.add_ne _ _ hbe] at hM';rw[T.gnE _ _ hbe];exact C.lo b M hM' hb
 ·intro b M hM' hb;by_cases hbe:b=nAt log n' i
  ·refine⟨i,hA,?_,.inr rfl,hbe,?_⟩
   ·rcases Nat.lt_or_ge i p with h1|h1
    ·have:=al_lt hc hM hA h1;omega
    ·exact h1
   ·rw[hbe,T.gsE,hk]
  ·rw[Ren.add_ne _ _ hbe] at hM';rw[T.gnE _ _ hbe];obtain⟨j,q1,q2,q3,q4⟩:=C.hi b M hM' hb;exact⟨j,q1,q2,.inl q3,q4⟩
 ·intro j h1 h2;have hne:nAt log n' j≠nAt log n' i:=fun e=>h2 (.inr (al_inj hc hM h1 hA e))
  rw[Ren.add_ne _ _ hne];exact C.und j h1 fun h3=>h2 (.inl h3)
 ·intro j h1 h2 h3;exact C.pend j h1 (fun h4=>h2 (.inl h4)) h3
 ·rintro j h1 (h2|rfl)
  ·obtain⟨M,hM'⟩:=C.don j h1 h2;exact⟨M,hx _ _ hM'⟩
  ·exact⟨L,Ren.add_same _ _ _⟩
 ·intro b k' h1 h2 h3;rcases C.tot b k' h1 h2 h3 with⟨M,hM'⟩|h4
  ·exact .inl ⟨M,hx _ _ hM'⟩
  ·exact .inr h4
 ·intro b h1 h2;rw[Ren.add_ne _ _ (by omega)];exact C.old b h1 h2
 ·intro b M h1 h2;by_cases hbe:b=nAt log n' i
  ·subst hbe;rw[Ren.add_same] at h2;cases h2;exact .inr hL
  ·rw[Ren.add_ne _ _ hbe] at h2;exact C.own b M h1 h2
theorem Core.act(hc:Chain E ih many all os t h n log t' h' n')(hM:NMono log n')(hn0:n0≤nAt log n' 0){i:Nat}(C:Core G ρ0 n0 os log h' n' D i ρ hh){o:Oper}(hi:os[i]? =some o)(hl:isLoud o=true){ids:List Nat}
 (hids:∀ b∈ids,nAt log n' (i+1)≤b) (hall:∀ b L,nAt log n' (i+1)≤b→ρ b=some L→b∈ids) {ρ2:Ren} (hext:Ext ρ ρ2)
 (hhi:∀ b,nAt log n' (i+1)≤b→ρ2 b=ρ b) (hlo:∀ b,b<nAt log n' i→ρ b=none→ρ2 b=none∧(hAt log h' (i+1)).get b=(hAt log h' i).get b)
 (hown:∀ b L,ρ b=none→ρ2 b=some L→G.own L.blk∨G.heap.size≤L.blk) (hdead:∀ b,b<nAt log n' i→(hAt log h' i).get b=none→(hAt log h' (i+1)).get b=none)
 (htot:∀ b k,nAt log n' i≤b→b<nAt log n' (i+1)→(hAt log h' (i+1)).get b=some k→∃ L,ρ2 b=some L) :
 Core G ρ0 n0 os log h' n' (fun j=>D j∨j=i) (i+1) ρ2 (merge (hAt log h' (i+1)) hh ids):=by
 have hnA:¬ Al os log i:=by rintro⟨o',_,ho',_,hk,_⟩;rw[hi] at ho';cases ho';simp[isLoud,hk] at hl
 have hne:∀ {j},Al os log j→j≠i:=fun h1 e=>hnA (e▸h1)
 have hmono:=hM i;have hlen:=(gsI hi).1;have hi0:n0≤nAt log n' i:=Nat.le_trans hn0 (hM.upto (Nat.zero_le i));refine⟨hlen,?_,?_,?_,?_,?_,?_,?_,C.ext.trans hext,?_,?_⟩
 ·intro j o' ho' hl';rw[C.loud j o' ho' hl'];omega
 ·intro b L hL hb;exact merge_out fun hm=>by have:=hids _ hm;omega
 ·intro b L hL hb;rw[hhi b hb] at hL;obtain⟨j,q1,q2,q3,q4,q5⟩:=C.hi b L hL (by omega);have:=hne q1;exact⟨j,q1,by omega,.inl q3,q4,by rw[merge_in (hall b L hb hL)];exact q5⟩
 ·intro j h1 h2;have hnD:¬ D j:=fun h3=>h2 (.inl h3)
  have hu:=C.und j h1 hnD;have hji:=hne h1;rcases Nat.lt_or_ge j i with hlt|hge
  ·exact(hlo _ (al_lt hc hM h1 hlt) hu).1
  ·rw[hhi _ (hM.upto (by omega))];exact hu
 ·intro j h1 h2 h3;have hnD:¬ D j:=fun h4=>h2 (.inl h4)
  have hji:=hne h1;have hlt:j<i:=by omega
  rw[(hlo _ (al_lt hc hM h1 hlt) (C.und j h1 hnD)).2];exact C.pend j h1 hnD hlt
 ·rintro j h1 (h2|h2)
  ·obtain⟨M,hM'⟩:=C.don j h1 h2;exact⟨M,hext _ _ hM'⟩
  ·exact absurd h2 (hne h1)
 ·intro b k h1 h2 h3;rcases Nat.lt_or_ge b (nAt log n' i) with hlt|hge
  ·cases hk:(hAt log h' i).get b with
   | none=>rw[hdead b hlt hk] at h3;cases h3
   | some k' =>
     rcases C.tot b k' h1 hlt hk with⟨M,hM'⟩|h4
     ·exact .inl ⟨M,hext _ _ hM'⟩
     ·exact .inr h4
  ·exact .inl (htot b k hge h2 h3)
 ·intro b h1 h2;exact(hlo b (by omega) (C.old b h1 h2)).1
 ·intro b L h1 h2;cases hb:ρ b with
  | none=>exact hown b L hb h2
  | some M =>
    have:=hext b M hb;rw[h2] at this;cases this;exact C.own b L h1 hb
end
section
variable {E:Env}{P:Program}{w w':World}{G:Gh}{ρ:Ren}{h hh h1:T Blk}{n:Nat}{t:T Value}{a:Act}{ih:Run}
theorem val_wpIn{o:Oper}{v:Value}{h2:T Blk}{n2:Nat}(hop:opA E t h n o= .val v h2 n2){y:Value}(hr:(execOp a.eval o).run P w= .ok (.value y) w'){rd':Option Nat}{next:Act→World→Prop}{Q:Exit→Act→World→Prop}
 (hk:next (a.put o.dst y) w'):o.wpIn (Fr rd') 0 P a w next Q:=by
 refine⟨fun f _=>fr_fn rd' f,?_⟩;have sem:o.semAt (Fr rd').round a.eval=execOp a.eval o:=by
  refine Oper.semAt_eq _ _ _ fun c hc=>?_
  rcases opA_defer (E:=E) (t:=t) (h:=h) (n:=n) hc with⟨dd,hd⟩|⟨s,hd⟩
  ·rw[hop] at hd;cases hd
  ·rw[hop] at hd;cases hd
 rw[sem,hr];exact hk
theorem WRel.keep(H:WRel G ρ hh w)(hw:∀ r,r<w.heap.size→w'.heap[r]? =w.heap[r]?)(hsz:w.heap.size≤w'.heap.size)(ho:Oo w'=Oo w):WRel G ρ hh w' :=
 ⟨fun b L k h1 h2=>by rw[hw _ (H.lt h1 h2)];exact H.blk b L k h1 h2,H.apart,H.own,fun r h1 h2=>by rw[hw r (Nat.lt_of_lt_of_le h1 H.size)];exact H.frame r h1 h2,Nat.le_trans H.size hsz,H.glob,ho.trans H.out⟩
theorem pure_any(K:EOk E P)(hg:E.glob≤G.ng)(H:WRel G ρ hh w)(hgl:∀ g,g<G.ng→g<n){o:Oper}(hb:belowT n t (opTmps o)=true)
 (ht:∀ k∈opTmps o,∀ x,t.get k=some x→∃ y,a.tmps[k]? =some y∧VRel ρ x y) (hk:kindOf o= .pure) {v:Value} {h':T Blk} {n':Nat} (hx:opA E t h1 n o= .val v h' n') :
 ∃ y w',(execOp a.eval o).run P w= .ok (.value y) w'∧VRel ρ v y∧WRel G ρ hh w':=by
 have hc:opA E (only t (opTmps o)) h1 n o= .val v h' n':=by rw[←hx];exact opA_congr fun k hk=>only_get t hk
 obtain⟨_,_,q⟩:=opA_pure hk hc
 let G':Gh:={heap:=w.heap,own:=fun _=>False,ng:=G.ng,oo:=Oo w}
 have S:St G' (ρ.below n) .leaf n w:=by
  refine⟨⟨?_,?_,?_,fun _ _ _=>rfl,nlR _,?_,rfl⟩,?_,fun _ _=>rfl⟩
  ·intro b L k h1 h2;rw[T.get_leaf] at h2;cases h2
  ·intro b b' L L' k k' _ _ _ h2;rw[T.get_leaf] at h2;cases h2
  ·intro b L k h1 h2;rw[T.get_leaf] at h2;cases h2
  ·intro g hg';obtain⟨s,hs⟩:=H.glob g hg';exact⟨s,below_some.2 ⟨hgl g hg',hs⟩⟩
  ·intro b hb;unfold Ren.below;rw[if_neg (by omega)]
 have hs:=op_sim (G:=G') K hg S (only_rel hb ht) o;rw[q .leaf n] at hs;obtain⟨ρ',w',y,r1,r2,r3⟩:=hs;have hext:Ext ρ' ρ:=by
  intro b M hM;rcases Nat.lt_or_ge b n with hlt|hge
  ·cases hbl:ρ.below n b with
   | none=>rw[r3.new b hlt hbl] at hM;cases hM
   | some N =>
     have:=r3.ext b N hbl;rw[hM] at this;cases this;exact(below_some.1 hbl).2
  ·rw[r3.st.fr b hge] at hM;cases hM
 exact⟨y,w',r1,r2.mono hext,H.keep (fun r hr=>r3.st.wr.frame r hr id) r3.st.wr.size r3.st.wr.out⟩
theorem read_any(K:EOk E P)(hg:E.glob≤G.ng)(H:WRel G ρ hh w){o:Oper}(hq:∀ b L k,ρ b=some L→h.get b=some k→hh.get b=some k)
 (ht:∀ k∈opTmps o,∀ x,t.get k=some x→∃ y,a.tmps[k]? =some y∧VRel ρ x y) (hk:kindOf o= .read) {v:Value} {h':T Blk} {n':Nat} (hx:opA E t h n o= .val v h' n') :
 ∃ y,(execOp a.eval o).run P w= .ok (.value y) w∧VRel ρ v y:=by
 have hc:opA E (only t (opTmps o)) h n o= .val v h' n':=by rw[←hx];exact opA_congr fun k hk=>only_get t hk
 have hT:TR ρ (only t (opTmps o)) a.tmps:=by intro k x hx;obtain⟨e1,e2⟩:=only_some t hx;exact ht k e1 x e2
 exact(read_sim K hg H (fun b L k e1 e2=>H.blk b L k e1 (hq b L k e1 e2)) hT hk hc).2.2
theorem wantedA_only{all:List Oper}{o:Oper}:wantedA all (only t (looks all o)) o=wantedA all t o:=by
 unfold wantedA;cases hg:o.guard with
 | none=>rfl
 | some jw =>
   obtain⟨j,want⟩:=jw;simp only;cases hj:nth all j with
   | none=>rfl
   | some oj =>
     simp only;cases hd:oj.dst with
     | none=>rfl
     | some d =>
       simp only;have hm:d∈looks all o:=by unfold looks guardTmps;rw[hg];simp only[hj,hd];simp
       rw[only_get t hm]
end
theorem floatOK_spec{E:Env}{all:List Oper}{log:List Ent}:∀ {l:List (Nat×Nat)},floatOK E all log l=true→∀ r i,(r,i)∈l→∃ o x y,all[r]? =some o∧log[r]? =some x∧log[i]? =some y ∧
 readsSame E o x (bif Nat.blt r i then y.h1 else y.h0)=true
 | [],_,r,i,h=>by cases h
 | (r',i') :: l,h,r,i,hm=>by
   simp only[floatOK,baT,nth_eq] at h;rcases List.mem_cons.1 hm with e|hm
   ·cases e;have h1:=h.1;split at h1
    ·rename_i o x y e1 e2 e3;exact⟨o,x,y,e1,e2,e3,h1⟩
    ·cases h1
   ·exact floatOK_spec h.2 r i hm
theorem floats1_spec{i:Nat}{a:Oper}:∀ {bs:List Oper}{k:Nat}{ms:List Nat}(q:Nat)(b:Oper)(m:Nat),bs[q]? =some b→ms[q]? =some m→Nat.testBit m i=false →
 (isLoud a=true→isRead b=true→(k+q,i)∈floats1 i a k bs ms)∧(isRead a=true→isLoud b=true→isLoud a=false→(i,k+q)∈floats1 i a k bs ms)
 | [],_,_,q,b,m,hb,_,_=>by simp at hb
 | _ :: _,_,[],q,b,m,_,hm,_=>by simp at hm
 | b' :: bs,k,m' :: ms,0,b,m,hb,hm,ht=>by
   simp at hb hm;subst hb;subst hm;simp only[floats1,biE,ht,Bool.false_eq_true,if_false,Nat.add_zero];refine⟨fun h1 h2=>?_,fun h1 h2 h3=>?_⟩
   ·simp[h1,h2]
   ·simp[h1,h2,h3]
 | b' :: bs,k,m' :: ms,q+1,b,m,hb,hm,ht=>by
   have ih:=floats1_spec (i:=i) (a:=a) (bs:=bs) (k:=k+1) (ms:=ms) q b m (by simpa using hb) (by simpa using hm) ht;rw[show k+1+q=k+(q+1) by omega] at ih;simp only[floats1,biE];refine⟨fun h1 h2=>?_,fun h1 h2 h3=>?_⟩
   ·have:=ih.1 h1 h2;split
    ·exact this
    ·split
     ·exact mcM _ this
     ·split
      ·exact mcM _ this
      ·exact this
   ·have:=ih.2 h1 h2 h3;split
    ·exact this
    ·split
     ·exact mcM _ this
     ·split
      ·exact mcM _ this
      ·exact this
theorem floats_spec:∀ {as:List Oper}{i:Nat}{ms:List Nat}(p q:Nat)(a b:Oper)(m:Nat),p<q→as[p]? =some a→as[q]? =some b→ms[q]? =some m→Nat.testBit m (i+p)=false →
 (isLoud a=true→isRead b=true→(i+q,i+p)∈floats i as ms)∧(isRead a=true→isLoud b=true→isLoud a=false→(i+p,i+q)∈floats i as ms)
 | [],_,_,p,q,a,b,m,_,ha,_,_,_=>by simp at ha
 | _ :: _,_,[],p,q,a,b,m,_,_,_,hm,_=>by simp at hm
 | a' :: as,i,m' :: ms,0,q+1,a,b,m,_,ha,hb,hm,ht=>by simp at ha;subst ha;have:=floats1_spec (i:=i) (a:=a') (bs:=as) (k:=i+1) (ms:=ms) q b m (by simpa using hb) (by simpa using hm) (by simpa using ht);rw[show i+1+q=i+(q+1) by omega] at this;simp only[floats];exact⟨fun h1 h2=>List.mem_append_left _ (this.1 h1 h2),fun h1 h2 h3=>List.mem_append_left _ (this.2 h1 h2 h3)⟩
 | a' :: as,i,m' :: ms,p+1,q+1,a,b,m,hpq,ha,hb,hm,ht=>by have:=floats_spec (as:=as) (i:=i+1) (ms:=ms) p q a b m (by omega) (by simpa using ha) (by simpa using hb) (by simpa using hm) (by rw[show i+1+p=i+(p+1) by omega];exact ht);rw[show i+1+p=i+(p+1) by omega,show i+1+q=i+(q+1) by omega] at this;simp only[floats];exact⟨fun h1 h2=>List.mem_append_right _ (this.1 h1 h2),fun h1 h2 h3=>List.mem_append_right _ (this.2 h1 h2 h3)⟩
 | _ :: _,_,_ :: _,p,0,_,_,_,hpq,_,_,_,_=>by omega
theorem regFl_mem{ops:List Oper}{p q:Nat}{a b:Oper}(hpq:p<q)(ha:ops[p]? =some a)(hb:ops[q]? =some b)(ht:¬ Nat.testBit (((ancs ops [])[q]?).getD 0) p=true) :
 (isLoud a=true→isRead b=true→(q,p)∈regFl ops)∧(isRead a=true→isLoud b=true→(p,q)∈regFl ops):=by
 have hlen:q<(ancs ops []).length:=by rw[ancs_length];have:=(gsI hb).1;simpa using this
 rw[ggE hlen,Option.getD_some] at ht;have:=floats_spec (as:=ops) (i:=0) (ms:=ancs ops []) p q a b _ hpq ha hb (ggE hlen) (by simpa using ht);simp only[Nat.zero_add] at this;refine⟨this.1,fun h1 h2=>this.2 h1 h2 ?_⟩;unfold isRead at h1;unfold isLoud;cases hk:kindOf a<;>simp[hk] at h1 ⊢
structure Ctx(E:Env)(P:Program)(ih:Run)(many:Nat)(G:Gh)(ρ0:Ren)(h0:T Blk)(n0:Nat)(t0:T Value)(all os:List Oper)(log:List Ent)(t':T Value)(h':T Blk)(n':Nat):Prop where
 K:EOk E P
 hg:E.glob≤G.ng
 HC:CallOk E P (callF E ih)
 HR:RoundOk E P (roundF E ih)
 hc:Chain E ih many all os t0 h0 n0 log t' h' n'
 pre:∀ j,j<os.length→all[j]? =os[j]?
 hM:NMono log n'
 hW:∀ i,∃ (ρ1:Ren) (w1:World),Stp G ρ0 h0 n0 ρ1 (hAt log h' i) (nAt log n' i) w1
 hgl:∀ g,g<G.ng→g<n0
 hR:regOK os=true
 hF:floatOK E os log (regFl os)=true
def Inv(many:Nat)(G:Gh)(ρ0:Ren)(n0:Nat)(os:List Oper)(log:List Ent)(t':T Value)(h':T Blk)(n':Nat)(ds:List Deferred)(D:Nat→Prop)(a:Act)(w:World):Prop :=
 ∃ (p:Nat) (ρ:Ren) (hh:T Blk),Core G ρ0 n0 os log h' n' D p ρ hh∧WRel G ρ hh w∧(p=0∨∃ q o,p=q+1∧os[q]? =some o∧isLoud o=true)∧TI os log t' ρ D a.tmps∧a.tmps.size=many∧a.defers=ds
theorem firstLoud{os:List Oper}{p:Nat}:∀ (m:Nat),Quiet os p (p+m)∨∃ l ol,p≤l∧l<p+m∧os[l]? =some ol∧isLoud ol=true∧Quiet os p l
 | 0=> .inl fun j o h1 h2=>by omega
 | m+1=>by
   rcases firstLoud (os:=os) (p:=p) m with h|⟨l,ol,h1,h2,h3⟩
   ·cases ho:os[p+m]? with
    | none =>
      refine .inl fun j o h1 h2 hj=>?_
      rcases Nat.lt_or_ge j (p+m) with h3|h3
      ·exact h j o h1 h3 hj
      ·have:j=p+m:=by omega
       subst this;rw[ho] at hj;cases hj
    | some o =>
      cases hl:isLoud o with
      | true=>exact .inr ⟨p+m,o,by omega,by omega,ho,hl,h⟩
      | false =>
        refine .inl fun j o' h1 h2 hj=>?_
        rcases Nat.lt_or_ge j (p+m) with h3|h3
        ·exact h j o' h1 h3 hj
        ·have:j=p+m:=by omega
         subst this;rw[ho] at hj;cases hj;exact hl
   ·exact .inr ⟨l,ol,h1,by omega,h3⟩
section
variable {E:Env}{P:Program}{ih:Run}{many:Nat}{G:Gh}{ρ0:Ren}{h0:T Blk}{n0:Nat}{t0:T Value}{all os:List Oper}{log:List Ent}{t':T Value}{h':T Blk}{n':Nat}
variable {D:Nat→Prop}{p:Nat}{ρ:Ren}{hh:T Blk}{a:Act}{w:World}{ds:List Deferred}
theorem Ctx.n0_le(X:Ctx E P ih many G ρ0 h0 n0 t0 all os log t' h' n')(i:Nat):n0≤nAt log n' i:=by have h1:=(chain_zero X.hc).2.2;have h2:=X.hM.upto (Nat.zero_le i);omega
theorem Ctx.none(X:Ctx E P ih many G ρ0 h0 n0 t0 all os log t' h' n'){i b:Nat}(hb:nAt log n' i≤b):(hAt log h' i).get b=none:=by obtain⟨_,_,S⟩:=X.hW i;exact S.st.hb b hb
theorem at_loud(hR:regOK os=true)(hD:∀ (j:Nat)(o:Oper),os[j]? =some o→D j→∀ e∈o.after.toList,bindsA e=true→D e.on)(C:Core G ρ0 n0 os log h' n' D p ρ hh){i:Nat}{o:Oper}(hi:os[i]? =some o)
 (hl:isLoud o=true) (hni:¬ D i) (hr:∀ e∈o.after.toList,bindsA e=true→D e.on):p≤i∧Quiet os p i:=by
 obtain⟨hE,_,hP⟩:=regOK_spec hR;have h1:=C.loud i o hi hl;have hpi:p≤i:=by
  rcases Nat.lt_or_ge i p with h2|h2
  ·exact absurd (h1.2 h2) hni
  ·exact h2
 refine⟨hpi,fun j oj h2 h3 hj=>?_⟩;cases hlj:isLoud oj with
 | false=>rfl
 | true =>
   rcases hP j i oj o h3 hj hi with h4|⟨_,h4⟩
   ·have:=(C.loud j oj hj hlj).1 (anc_done hE hD i o hi hr j h4).1;omega
   ·exact absurd ⟨hlj,hl⟩ h4
theorem read_heap_at(X:Ctx E P ih many G ρ0 h0 n0 t0 all os log t' h' n')(hD:∀ (j:Nat)(o:Oper),os[j]? =some o→D j→∀ e∈o.after.toList,bindsA e=true→D e.on)
 (C:Core G ρ0 n0 os log h' n' D p ρ hh) (hp:p=0∨∃ q o,p=q+1∧os[q]? =some o∧isLoud o=true) {i:Nat} {o:Oper} (hi:os[i]? =some o) (hk:kindOf o= .read) (hni:¬ D i)
 (hr:∀ e∈o.after.toList,bindsA e=true→D e.on) {x:Ent} (hx:log[i]? =some x) (hd:x.did=true) (hxt:x.t=tAt log t' i)
 (hop:opA E (tAt log t' i) (hAt log h' i) (nAt log n' i) o= .val x.v (hAt log h' (i+1)) (nAt log n' (i+1))) :
 ∃ (hq:T Blk) (nq:Nat) (h2:T Blk) (n2:Nat),(∀ b L k,ρ b=some L→hq.get b=some k→hh.get b=some k)∧opA E (tAt log t' i) hq nq o= .val x.v h2 n2:=by
 obtain⟨hE,_,hP⟩:=regOK_spec X.hR;have hrd:isRead o=true:=by simp[isRead,hk]
 have hln:isLoud o=false:=by simp[isLoud,hk]
 have agree:∀ {q:Nat},Core G ρ0 n0 os log h' n' D q ρ hh→∀ b L k,ρ b=some L→(hAt log h' q).get b=some k→hh.get b=some k:=by
  intro q C' b L k h1 h2;rcases Nat.lt_or_ge b (nAt log n' q) with h3|h3
  ·rw[C'.lo b L h1 h3];exact h2
  ·rw[X.none h3] at h2;cases h2
 have same:∀ {hq:T Blk},readsSame E o x hq=true→∃ (h2:T Blk) (n2:Nat),opA E (tAt log t' i) hq 0 o= .val x.v h2 n2:=by
  intro hq hs;unfold readsSame at hs;simp only[biE,hd,if_true] at hs;rw[hxt] at hs;split at hs
  ·rename_i v h2 n2 he;rw[sameV_eq 8 _ _ hs] at he;exact⟨_,_,he⟩
  ·cases hs
 have hlen:=(gsI hi).1;rcases Nat.lt_or_ge i p with hip|hpi
 ·rcases hp with h1|⟨q,oq,h1,h2,h3⟩
  ·omega
  ·have hqi:i<q:=by
    rcases Nat.lt_or_ge i q with h4|h4
    ·exact h4
    ·have:i=q:=by omega
     subst this;rw[hi] at h2;cases h2;rw[hln] at h3;cases h3
   have hDq:D q:=(C.loud q oq h2 h3).2 (by omega);have hnb:¬ Nat.testBit (((ancs os [])[q]?).getD 0) i=true:=fun hb=>hni (anc_done hE hD q oq h2 (hD q oq h2 hDq) i hb).1
   obtain⟨o',x',y,e1,e2,e3,e4⟩:=floatOK_spec X.hF i q ((regFl_mem hqi hi h2 hnb).2 hrd h3);rw[hi] at e1;cases e1;rw[hx] at e2;cases e2;have hbq:Nat.blt i q=true:=by rw[bltT];exact hqi
   rw[hbq] at e4;obtain⟨y',e5,_,_,_,_,_,e6,e7⟩:=chain_at X.hc q oq h2;rw[e3] at e5;cases e5;simp only[cond_true,e7] at e4;rw[←h1] at e4;obtain⟨h2',n2',e8⟩:=same e4;exact⟨hAt log h' p,0,h2',n2',agree C,e8⟩
 ·rcases firstLoud (os:=os) (p:=p) (i-p) with hQ|⟨l,ol,h1,h2,h3,h4,h5⟩
  ·rw[show p+(i-p)=i by omega] at hQ;exact⟨hAt log h' i,_,_,_,agree (C.shift X.hc X.hM hpi (by omega) hQ),hop⟩
  ·have hli:l<i:=by omega
   have hnl:¬ D l:=fun hd=>by have:=(C.loud l ol h3 h4).1 hd;omega
   have hnb:¬ Nat.testBit (((ancs os [])[i]?).getD 0) l=true:=fun hb=>hnl (anc_done hE hD i o hi hr l hb).1
   obtain⟨o',x',y,e1,e2,e3,e4⟩:=floatOK_spec X.hF i l ((regFl_mem hli h3 hi hnb).1 h4 hrd);rw[hi] at e1;cases e1;rw[hx] at e2;cases e2;have hbf:Nat.blt i l=false:=by
    cases hb:Nat.blt i l with
    | false=>rfl
    | true=>rw[bltT] at hb;omega
   rw[hbf] at e4;obtain⟨y',e5,_,_,_,_,_,e6,e7⟩:=chain_at X.hc l ol h3;rw[e3] at e5;cases e5;simp only[cond_false,e6] at e4;obtain⟨h2',n2',e8⟩:=same e4;exact⟨hAt log h' l,0,h2',n2',agree (C.shift X.hc X.hM h1 (by omega) h5),e8⟩
theorem step_any(X:Ctx E P ih many G ρ0 h0 n0 t0 all os log t' h' n')(hD:∀ (j:Nat)(o:Oper),os[j]? =some o→D j→∀ e∈o.after.toList,bindsA e=true→D e.on){i:Nat}{o:Oper}(hi:os[i]? =some o)(hni:¬ D i)
 (hr:∀ e∈o.after.toList,bindsA e=true→D e.on) (I:Inv many G ρ0 n0 os log t' h' n' ds D a w) {rd':Option Nat} {next:Act→World→Prop} {Q:Exit→Act→World→Prop}
 (hn:∀ a' w',Inv many G ρ0 n0 os log t' h' n' ds (fun j=>D j∨j=i) a' w'→next a' w') {ops:Array Oper} (hops:ops.toList=all):wpOpIn (Fr rd') 0 P ops Q i next a w:=by
 obtain⟨p,ρ,hh,C,HW,hp,hT,hsz,hds⟩:=I;have hlen:=(gsI hi).1;have hio:ops[i]? =some o:=by have h1:=X.pre i hlen;rw[hi,← hops] at h1;simpa using h1
 obtain⟨x,hx,hw,c1,c2,hput,hxt,_,_⟩:=chain_at X.hc i o hi;have hlk:∀ k∈looks os o,∀ v,(tAt log t' i).get k=some v→∃ y,a.tmps[k]? =some y∧VRel ρ v y:=fun k hk v hv=>hT k i (looks_at X.hR hD hi hni hr hk) v hv
 have hopt:∀ k∈opTmps o,∀ v,(tAt log t' i).get k=some v→∃ y,a.tmps[k]? =some y∧VRel ρ v y:=fun k hk=>hlk k (List.mem_append_left _ hk)
 have hlooks:looks all o=looks os o:=by
  unfold looks guardTmps;cases hgd:o.guard with
  | none=>rfl
  | some jw =>
    obtain⟨j,b⟩:=jw;obtain⟨e,he,hb,hej⟩:=(regOK_spec X.hR).2.1 i o hi j b hgd;have:=(regOK_spec X.hR).1 i o hi e he hb;simp only[nth_eq,X.pre j (by omega)]
 have hTR:TR ρ (only (tAt log t' i) (looks all o)) a.tmps:=by rw[hlooks];intro k v hv;obtain⟨e1,e2⟩:=only_some _ hv;exact hlk k e1 v e2
 have hwant:Region.wanted o (yielded ops a.tmps)=x.did:=wanted_sim hTR (by rw[hops,wantedA_only];exact hw);have put:∀ {p2:Nat} {ρ2:Ren} {hh2:T Blk} {y:Value} {w2:World},Ext ρ ρ2→VRel ρ2 x.v y→Core G ρ0 n0 os log h' n' (fun j=>D j∨j=i) p2 ρ2 hh2→WRel G ρ2 hh2 w2 →
  (p2=0∨∃ q o,p2=q+1∧os[q]? =some o∧isLoud o=true)→next (a.put o.dst y) w2:=by
  intro p2 ρ2 hh2 y w2 he hv C' hw2 hp';refine hn _ _ ⟨p2,ρ2,hh2,C',hw2,hp',TI_put X.hc X.hR hD hi hni hsz (hT.mono he) hx hv,?_,?_⟩
  ·unfold Act.put;split<;>simp[hsz]
  ·unfold Act.put;split<;>exact hds
 have hn0:n0≤nAt log n' 0:=X.n0_le 0;unfold wpOpIn;rw[hio];simp only[hwant];cases hd:x.did with
 | false =>
   simp only[Bool.false_eq_true,if_false];obtain⟨v0,e1,e2⟩:=c2 hd;refine⟨fun f _=>fr_fn rd' f,?_⟩;have hv:VRel ρ x.v undef:=by rw[v0];exact undef_rel ρ
   cases hl:isLoud o with
   | true =>
     obtain⟨h1,h2⟩:=at_loud X.hR hD C hi hl hni hr;exact put (Ext.refl _) hv ((C.shift X.hc X.hM h1 (by omega) h2).pass hi hl e1 e2) HW (.inr ⟨i,o,rfl,hi,hl⟩)
   | false =>
     have hnA:¬ Al os log i:=by rintro⟨_,x',_,hx',_,hd'⟩;rw[hx] at hx';cases hx';rw[hd] at hd';cases hd'
     exact put (Ext.refl _) hv (C.quiet hi hl hnA) HW hp
 | true =>
   simp only[if_true];obtain⟨d1,d2⟩:=c1 hd;have hgl:∀ g,g<G.ng→g<nAt log n' i:=fun g hg=>Nat.lt_of_lt_of_le (X.hgl g hg) (X.n0_le i)
   cases hk:kindOf o with
   | pure =>
     have hl:isLoud o=false:=by simp[isLoud,hk]
     have hnA:¬ Al os log i:=by rintro⟨o',_,ho',_,hk',_⟩;rw[hi] at ho';cases ho';rw[hk] at hk';cases hk'
     obtain⟨y,w2,r1,r2,r3⟩:=pure_any X.K X.hg HW hgl d2 hopt hk (quiet_opN hl d1);exact val_wpIn (quiet_opN hl d1) r1 (put (Ext.refl _) r2 (C.quiet hi hl hnA) r3 hp)
   | read =>
     have hl:isLoud o=false:=by simp[isLoud,hk]
     have hnA:¬ Al os log i:=by rintro⟨o',_,ho',_,hk',_⟩;rw[hi] at ho';cases ho';rw[hk] at hk';cases hk'
     obtain⟨hq,nq,h2,n2,q1,q2⟩:=read_heap_at X hD C hp hi hk hni hr hx hd hxt (quiet_opN hl d1);obtain⟨y,r1,r2⟩:=read_any X.K X.hg HW q1 hopt hk q2;exact val_wpIn (quiet_opN hl d1) r1 (put (Ext.refl _) r2 (C.quiet hi hl hnA) HW hp)
   | alloc =>
     have hl:isLoud o=false:=by simp[isLoud,hk]
     have hA:Al os log i:=⟨o,x,hi,hx,hk,hd⟩
     obtain⟨q1,k,L,y,w2,q2,q3,q4,q5,q6,q7⟩:=alloc_any X.K X.hg HW (C.und i hA hni) hgl d2 hopt hk (quiet_opN hl d1);exact val_wpIn (quiet_opN hl d1) q5 (put (Ext.add L (C.und i hA hni)) q6 (C.lay X.hc X.hM hn0 hA hni (Nat.le_trans HW.size q3) (by rw[q4,T.gsE])) q7 hp)
   | loud =>
     have hl:isLoud o=true:=by simp[isLoud,hk]
     obtain⟨h1,h2⟩:=at_loud X.hR hD C hi hl hni hr;have C':=C.shift X.hc X.hM h1 (by omega) h2;obtain⟨ρc,wc,S⟩:=X.hW i;have later:∀ b L,ρ b=some L→nAt log n' i≤b→∃ j,Al os log j∧i<j∧b=nAt log n' j∧nAt log n' (i+1)≤b∧hh.get b=(hAt log h' (j+1)).get b:=by
      intro b L e1 e2;obtain⟨j,q1,q2,q3,q4,q5⟩:=C'.hi b L e1 e2;have hne:j≠i:=by rintro rfl;obtain⟨o',_,ho',_,hk',_⟩:=q1;rw[hi] at ho';cases ho';rw[hk] at hk';cases hk'
      exact⟨j,q1,by omega,q4,by rw[q4];exact X.hM.upto (by omega),q5⟩
     have hids:∀ b∈((List.range os.length).map (nAt log n')).filter (fun b=>decide (nAt log n' (i+1)≤b)),nAt log n' (i+1)≤b:=by intro b hb;simpa using (List.mem_filter.1 hb).2
     have hall:∀ b L,nAt log n' (i+1)≤b→ρ b=some L→b∈((List.range os.length).map (nAt log n')).filter (fun b=>decide (nAt log n' (i+1)≤b)):=by intro b L e1 e2;obtain⟨j,q1,_,q3,_⟩:=later b L e2 (Nat.le_trans (X.hM i) e1);refine List.mem_filter.2 ⟨List.mem_map.2 ⟨j,List.mem_range.2 (al_len q1),q3.symm⟩,by simpa using e1⟩
     refine loud_any (ids:=((List.range os.length).map (nAt log n')).filter (fun b=>decide (nAt log n' (i+1)≤b))) X.K X.hg X.HC X.HR HW S.st ?_ (fun b L e1 e2=>C'.lo b L e2 e1) d2 hopt ?_ hids hall ?_ hgl d1
      (fun y ρ2 w2 e1 e2 e3 e4 e5 e6 e7 e8 e9=>put e2 e1 (C'.act X.hc X.hM hn0 hi hl hids hall e2 e4 e5 e7 e8 e9) e3 (.inr ⟨i,o,rfl,hi,hl⟩))
     ·intro b L k e1 e2 e3;rcases Nat.lt_or_ge b n0 with h3|h3
      ·cases hb:ρ0 b with
       | none=>rw[C.old b h3 hb] at e1;cases e1
       | some M=>exact⟨M,S.ext b M hb⟩
      ·exact S.tot b k h3 e3
     ·intro b e1 e2;cases hb:ρ b with
      | none=>rfl
      | some L =>
        obtain⟨_,_,_,_,q4,_⟩:=later b L hb e1;omega
     ·intro b L k e1 e2 e3;obtain⟨j,q1,_,q3,_,q5⟩:=later b L e2 (Nat.le_trans (X.hM i) e1);obtain⟨_,k',r1,r2⟩:=al_step X.hc q1;rw[q5,r2,q3,T.gsE] at e3;cases e3;exact r1
theorem all_done{ops:Array Oper}(hops:ops.toList=os)(hR:regOK os=true){listed:Array Bool}(hs:listed.size=os.length)(hr:Region.ready .any ops listed=[]):∀ j,j<os.length→listed[j]? =some true:=by
 intro j
 induction j using Nat.strongRecOn with
 | _ j ihj =>
   intro hj;obtain⟨hE,_⟩:=regOK_spec hR;cases hv:listed[j]? with
   | none=>rw[Array.getElem?_eq_none_iff] at hv;omega
   | some b =>
     cases b with
     | true=>rfl
     | false =>
       exfalso;have ho:os[j]? =some os[j]:=ggE hj;have hio:ops[j]? =some os[j]:=by rw[←Array.getElem?_toList,hops];exact ho
       have:j∈Region.ready .any ops listed:=by
        rw[mem_ready];refine⟨by simp[Array.getD_eq_getD_getElem?,hv],os[j],hio,fun e he hb=>?_⟩;have hb':bindsA e=true:=by rw[bindsA_eq];exact hb
        have hlt:=hE j _ ho e (by simpa using he) hb';have:=ihj e.on hlt (by omega);simp[Array.getD_eq_getD_getElem?,this]
       rw[hr] at this;cases this
theorem any_any(X:Ctx E P ih many G ρ0 h0 n0 t0 os os log t' h' n'){ops:Array Oper}(hops:ops.toList=os){rd':Option Nat}{Q:Exit→Act→World→Prop}
 (hQ:∀ (D:Nat→Prop) a w,(∀ j,j<os.length→D j)→Inv many G ρ0 n0 os log t' h' n' ds D a w→Q .normal a w) :
 ∀ (fuel:Nat) (listed:Array Bool) (a:Act) (w:World),listed.size=os.length→(∀ (j:Nat) (o:Oper),os[j]? =some o→listed[j]? =some true→∀ e∈o.after.toList,bindsA e=true→listed[e.on]? =some true) →
   listed.toList.count false≤fuel→Inv many G ρ0 n0 os log t' h' n' ds (fun j=>listed[j]? =some true) a w→wpAnyIn (Fr rd') 0 P .any ops Q fuel listed a w:=by
 intro fuel
 induction fuel with
 | zero =>
   intro listed a w hs hD hcnt I;have hr:Region.ready .any ops listed=[]:=by
    rw[List.eq_nil_iff_forall_not_mem];intro j hj;obtain⟨h1,o,h2,_⟩:=mem_ready.1 hj;have hf:listed[j]? =some false:=by
     cases hv:listed[j]? with
     | none=>simp[Array.getD_eq_getD_getElem?,hv] at h1
     | some b=>simp[Array.getD_eq_getD_getElem?,hv] at h1;rw[h1]
    have:false∈listed.toList:=by rw[←Array.getElem?_toList] at hf;exact List.mem_of_getElem? hf
    have:=List.count_pos_iff.2 this;omega
   exact⟨hr,hQ _ a w (all_done hops X.hR hs hr) I⟩
 | succ fuel ihf =>
   intro listed a w hs hD hcnt I;refine⟨fun hr=>hQ _ a w (all_done hops X.hR hs hr) I,fun i hmem=>?_⟩;obtain⟨h1,o,h2,h3⟩:=mem_ready.1 hmem;have hi:os[i]? =some o:=by rw[←hops];simpa using h2
   have hlt:=(gsI hi).1;have hf:listed[i]? =some false:=by
    cases hv:listed[i]? with
    | none=>simp[Array.getD_eq_getD_getElem?,hv] at h1
    | some b=>simp[Array.getD_eq_getD_getElem?,hv] at h1;rw[h1]
   have hni:¬ listed[i]? =some true:=by rw[hf];simp
   have hr:∀ e∈o.after.toList,bindsA e=true→listed[e.on]? =some true:=by
    intro e he hb;have:=h3 e (by simpa using he) (by rw[←bindsA_eq];exact hb);cases hv:listed[e.on]? with
    | none=>simp[Array.getD_eq_getD_getElem?,hv] at this
    | some b=>simp[Array.getD_eq_getD_getElem?,hv] at this;rw[this]
   have hset:∀ j,(listed.setIfInBounds i true)[j]? =some true↔(listed[j]? =some true∨j=i):=by
    intro j;by_cases hji:j=i
    ·subst hji;simp[hs,hlt]
    ·rw[Array.getElem?_setIfInBounds_ne (Ne.symm hji)];simp[hji]
   refine step_any X hD hi hni hr I (fun a' w' I'=>ihf (listed.setIfInBounds i true) a' w' (by simp[hs]) ?_ ?_ ?_) hops
   ·intro j oj hj hDj e he hb;rw[hset] at hDj ⊢;rcases hDj with h4|rfl
    ·exact .inl (hD j oj hj h4 e he hb)
    ·rw[hi] at hj;cases hj;exact .inl (hr e he hb)
   ·have hlen:i<listed.toList.length:=by simp[hs,hlt]
    have hget:listed.toList[i]=false:=by have:=hf;rw[←Array.getElem?_toList,ggE hlen] at this;exact Option.some.inj this
    have hpos:0<listed.toList.count false:=List.count_pos_iff.2 (List.mem_of_getElem? (i:=i) (by rw[Array.getElem?_toList];exact hf));rw[Array.toList_setIfInBounds,List.count_set hlen,hget,if_pos (show(false == false)=true from rfl),if_neg (show ¬ (true == false)=true by decide)];omega
   ·have e:(fun j=>(listed.setIfInBounds i true)[j]? =some true)=fun j=>listed[j]? =some true∨j=i:=funext fun j=>propext (hset j)
    rw[e];exact I'
theorem WRel.agree{hh h2:T Blk}(H:WRel G ρ hh w)(e:∀ b L,ρ b=some L→hh.get b=h2.get b):WRel G ρ h2 w :=
 ⟨fun b L k h1 h3=>H.blk b L k h1 (by rw[e b L h1];exact h3),fun b b' L L' k k' hne h1 h1' h3 h3'=>H.apart b b' L L' k k' hne h1 h1' (by rw[e b L h1];exact h3) (by rw[e b' L' h1'];exact h3'),
  fun b L k h1 h3=>H.own b L k h1 (by rw[e b L h1];exact h3),H.frame,H.size,H.glob,H.out⟩
theorem inv_end(X:Ctx E P ih many G ρ0 h0 n0 t0 all os log t' h' n')(hAll:∀ j,j<os.length→D j)(I:Inv many G ρ0 n0 os log t' h' n' ds D a w) :
 ∃ ρ,TR ρ t' a.tmps∧a.tmps.size=many∧a.defers=ds∧Stp G ρ0 h0 n0 ρ h' n' w:=by
 obtain⟨p,ρ,hh,C,HW,hp,hT,hsz,hds⟩:=I;have hlog:=chain_len X.hc;have hnone:log[os.length]? =none:=by rw[List.getElem?_eq_none_iff];omega
 have et:tAt log t' os.length=t':=by unfold tAt;rw[hnone]
 have eh:hAt log h' os.length=h':=by unfold hAt;rw[hnone]
 have en:nAt log n' os.length=n':=by unfold nAt;rw[hnone]
 have hQ:Quiet os p os.length:=by
  intro j o h1 h2 ho;cases hl:isLoud o with
  | false=>rfl
  | true=>have:=(C.loud j o ho hl).1 (hAll j h2);omega
 have C':=C.shift X.hc X.hM C.ple (nlR _) hQ;obtain⟨ρc,wc,S⟩:=X.hW os.length;rw[eh,en] at S;have fr:∀ b,n'≤b→ρ b=none:=by
  intro b hb;cases hbv:ρ b with
  | none=>rfl
  | some L =>
    obtain⟨j,q1,q2,_⟩:=C'.hi b L hbv (by rw[en];exact hb);have:=al_len q1;omega
 refine⟨ρ,?_,hsz,hds,⟨⟨HW.agree ?_,fr,S.st.hb⟩,C.ext,C.old,C.own,S.dead,?_,S.afr,S.le⟩⟩
 ·intro k v hv;exact hT k os.length ⟨nlR _,fun j h1 _=>hAll j h1,fun j h1 ⟨o,h2,_⟩=>by have:=(gsI h2).1;omega⟩ v (by rw[et];exact hv)
 ·intro b L hL;rcases Nat.lt_or_ge b n' with h1|h1
  ·rw[C'.lo b L hL (by rw[en];exact h1),eh]
  ·rw[fr b h1] at hL;cases hL
 ·intro b k h1 h2;have hb:b<n':=by
   rcases Nat.lt_or_ge b n' with h3|h3
   ·exact h3
   ·rw[S.st.hb b h3] at h2;cases h2
  rcases C'.tot b k h1 (by rw[en];exact hb) (by rw[eh];exact h2) with h3|⟨j,h3,h4⟩
  ·exact h3
  ·obtain⟨L,hL⟩:=C.don j h3 (hAll j (al_len h3));exact⟨L,by rw[h4];exact hL⟩
theorem inv_start(X:Ctx E P ih many G ρ0 h0 n0 t0 all os log t' h' n')(H:St G ρ0 h0 n0 w)(ht:TR ρ0 t0 a.tmps)(hs:a.tmps.size=many)(hD:∀ j,¬ D j):Inv many G ρ0 n0 os log t' h' n' a.defers D a w:=by
 obtain⟨z1,z2,z3⟩:=chain_zero X.hc;refine⟨0,ρ0,h0,⟨Nat.zero_le _,fun j o _ _=>⟨fun h=>absurd h (hD j),fun h=>by omega⟩,fun b L _ _=>by rw[z2],?_,?_,fun j _ _ h=>by omega,fun j _ h=>absurd h (hD j),?_,.refl _,fun b _ h=>h,?_⟩,H.wr,.inl rfl,?_,hs,rfl⟩
 ·intro b L hL hb;rw[H.fr b (by omega)] at hL;cases hL
 ·intro j _ _;exact H.fr _ (X.n0_le j)
 ·intro b k h1 h2;omega
 ·intro b L h1 h2;rw[h1] at h2;cases h2
 ·intro k i hpos v hv;have hno:∀ j,0≤j→j<0+i→¬ Writes os k j:=fun j _ h2 hw=>hD j (hpos.2.1 j (by omega) hw)
  have:=tAt_const X.hc (k:=k) (p:=0) i (by have:=hpos.1;omega) hno;rw[Nat.zero_add] at this;rw[this,z1] at hv;exact ht k v hv
end
theorem draw_reg{E:Env}{P:Program}{ih:Run}(K:EOk E P)(hm:P.follows .mixedOrders=true)(hRun:RunOk E P ih){many:Nat}{ops:Array Oper}{t:T Value}{d:List Deferred}{h:T Blk}{n:Nat}(hR:regOK ops.toList=true)
 {log:List Ent} {t':T Value} {h':T Blk} {n':Nat} (hO:opsD E ih many ops.toList ops.toList [] t h n= .ok log t' h' n') (hF:floatOK E ops.toList log (regFl ops.toList)=true)
 {G:Gh} {ρ:Ren} {rd':Option Nat} {a:Act} {w:World} {id:Nat} (hg:E.glob≤G.ng) (H:St G ρ h n w) (ha:AOk ρ t many d a) :
 (Code.region id ops true).wpIn (Fr rd') 0 P (Post G ρ h n many .normal t' d h' n') a w:=by
 obtain⟨log',e1,hc⟩:=opsD_chain hO;rw[List.nil_append] at e1;subst e1;have HC:=callF_sim K hRun;have HR:=roundF_sim (E:=E) (P:=P) hRun;have hM:=chain_mono K hg HC HR hc H ha.tr ha.size;have X:Ctx E P ih many G ρ h n t ops.toList ops.toList log t' h' n':=⟨K,hg,HC,HR,hc,fun _ _=>rfl,hM,chain_W K hg HC HR hc H ha.tr ha.size,(fun g hg'=>by
  obtain⟨s,hs⟩:=H.wr.glob g hg';rcases Nat.lt_or_ge g n with h1|h1
  ·exact h1
  ·rw[H.fr g h1] at hs;cases hs),hR,hF⟩
 have H':St G ρ h n {w with drawn:=w.drawn+1}:=H.same ⟨rfl,rfl⟩;refine wpIn_region_any hm (any_any X rfl (ds:=a.defers) (fun D a' w' hAll I=>?_) ops.size _ a _ (by simp) ?_ ?_ (inv_start X H' ha.tr ha.size fun j hj=>?_))
 ·obtain⟨ρ',q1,q2,q3,q4⟩:=inv_end X hAll I;exact⟨trivial,ρ',⟨q1,q2,by rw[q3];exact ha.defs.mono q4.ext⟩,q4⟩
 ·intro j o _ hj;rw[Array.getElem?_replicate] at hj;split at hj<;>cases hj
 ·simp
 ·rw[Array.getElem?_replicate] at hj;split at hj<;>cases hj
structure PairAt(E:Env)(mt:TypeId)(m:Tmp)(i:Nat)(x:Tmp×Value×Value)(b s:Oper):Prop where
 bop:∃ ty ps l0,b.op= .build ty ps∧evParts E .leaf ps.toList=some l0∧buildA E ty l0=some x.2.1
 bdst:b.dst=some x.1
 bg:b.guard=none
 baf:b.after.toList=[]
 sop:s.op= .insert mt (.tmp m) (.tmp x.1) (.const x.2.2)
 sg:s.guard=none
 sdst:s.dst=none
 saf:∀ e∈s.after.toList,bindsA e=true∧(e.on=0∨e.on=i)
 s0:∃ e∈s.after.toList,e.on=0
 si:∃ e∈s.after.toList,e.on=i
 ne:x.1≠m
 lk:lit 6 x.2.1=true
 lv:lit 6 x.2.2=true
theorem pairs_spec{E:Env}{mt:TypeId}{m:Tmp}:∀ (N:Nat){rest:List Oper}{i:Nat}{l:List (Tmp×Value×Value)}{tl:List Oper},rest.length≤N→mapPairs E mt m i rest=some (l,tl) →
 (∀ p x,l[p]? =some x→∃ b s,rest[2 * p]? =some b∧rest[2 * p+1]? =some s∧PairAt E mt m (i+2 * p) x b s)∧rest.drop (2 * l.length)=tl∧tailOK (i+2 * l.length) tl=true ∧
 (∀ (p q:Nat) (x y:Tmp×Value×Value),p<q→l[p]? =some x→l[q]? =some y→y.1≠x.1):=by
 intro N;have base:∀ {rest:List Oper} {i:Nat} {l:List (Tmp×Value×Value)} {tl:List Oper},(bif tailOK i rest then some (([]:List (Tmp×Value×Value)),rest) else none)=some (l,tl) →
  (∀ p x,l[p]? =some x→∃ b s,rest[2 * p]? =some b∧rest[2 * p+1]? =some s∧PairAt E mt m (i+2 * p) x b s)∧rest.drop (2 * l.length)=tl∧tailOK (i+2 * l.length) tl=true ∧
  (∀ (p q:Nat) (x y:Tmp×Value×Value),p<q→l[p]? =some x→l[q]? =some y→y.1≠x.1):=by
  intro rest i l tl h;rw[biE] at h;split at h
  ·rename_i ht;cases h;exact⟨by simp,by simp,by simpa using ht,by simp⟩
  ·cases h
 induction N with
 | zero =>
   intro rest i l tl hN h;have:rest=[]:=List.eq_nil_of_length_eq_zero (by omega);subst this;exact base (by simpa only[mapPairs] using h)
 | succ N ihN =>
   intro rest i l tl hN h
   match rest,h,hN with
   | [],h,_=>exact base (by simpa only[mapPairs] using h)
   | [b],h,_=>exact base (by simpa only[mapPairs] using h)
   | b :: s :: rest,h,hN =>
     unfold mapPairs at h;split at h
     ·rename_i ty ps d mt' m' d' v e1 e2 e3;rw[biE] at h;split at h
      ·rename_i hc;simp only[baT,List.all_eq_true,List.any_eq_true,beqT,Option.isNone_iff_eq_none,List.isEmpty_iff,Bool.not_eq_true'] at hc;obtain⟨⟨⟨⟨⟨⟨⟨⟨⟨⟨⟨⟨c1,c2⟩,c3⟩,c4⟩,c5⟩,c6⟩,c7⟩,c8⟩,c9⟩,c10⟩,c11⟩,c12⟩,c13⟩:=hc;split at h
       ·rename_i l0 e4;split at h
        ·rename_i k r tl' e5 e6;rw[biE] at h;split at h
         ·rename_i hk;cases h;simp only[baT,List.all_eq_true,Bool.not_eq_true'] at hk;obtain⟨f1,f2,f3,f4⟩:=ihN (by simp at hN ⊢;omega) e6;subst c9 c10 c11;refine⟨?_,?_,?_,?_⟩
          ·intro p x hx;cases p with
           | zero =>
             simp at hx;subst hx;refine⟨b,s,rfl,rfl,⟨⟨ty,ps,l0,e1,e4,e5⟩,e2,c1,c2,e3,c4,c5,fun e he=>?_,c7,c8,?_,hk.1,c13⟩⟩
             ·have:=c6 e he;simp only[edgeOn,baT,Bool.or_eq_true,beqT] at this;simpa using this
             ·intro e;have e:d=m:=e;rw[e] at c12;simp[beqT,Nat.beq_refl] at c12
           | succ p =>
             obtain⟨b',s',g1,g2,g3⟩:=f1 p x (by simpa using hx);refine⟨b',s',by rw[show 2 * (p+1)=2 * p+1+1 by omega];simpa using g1,by rw[show 2 * (p+1)+1=2 * p+1+1+1 by omega];simpa using g2,?_⟩
             rwa [show i+2 * (p+1)=i+2+2 * p by omega]
          ·rw[List.length_cons,show 2 * (r.length+1)=2 * r.length+1+1 by omega];simpa using f2
          ·rw[List.length_cons,show i+2 * (r.length+1)=i+2+2 * r.length by omega];exact f3
          ·intro p q x y hpq hx hy;cases q with
           | zero=>omega
           | succ q =>
             cases p with
             | zero =>
               simp at hx;subst hx;have:=hk.2 y (List.mem_of_getElem? (by simpa using hy));intro e;have e:y.1=d:=e;rw[e] at this;simp[Nat.beq_refl] at this
             | succ p=>exact f4 p q x y (by omega) (by simpa using hx) (by simpa using hy)
         ·cases h
        ·cases h
       ·cases h
      ·cases h
     ·exact base h
theorem tail_spec:∀ {l:List Oper}{i:Nat},tailOK i l=true→∀ (p:Nat)(o:Oper),l[p]? =some o→o.guard=none∧(∀ j,j<i+p→∃ e∈o.after.toList,bindsA e=true∧e.on=j)∧∀ e∈o.after.toList,e.on<i+p
 | [],_,_,p,o,ho=>by simp at ho
 | o' :: l,i,h,0,o,ho=>by
   simp at ho;subst ho;simp only[tailOK,baT,Option.isNone_iff_eq_none,List.all_eq_true,bltT] at h;refine⟨h.1.1.2,?_,by simpa using h.1.2⟩;have key:∀ (k:Nat),belowAll o' k=true→∀ j,j<k→∃ e∈o'.after.toList,bindsA e=true∧e.on=j:=by
    intro k
    induction k with
    | zero=>intro _ j hj;omega
    | succ k ih =>
      intro hb j hj;simp only[belowAll,baT,List.any_eq_true,beqT] at hb;rcases Nat.lt_or_ge j k with h1|h1
      ·exact ih hb.2 j h1
      ·have:j=k:=by omega
       subst this;obtain⟨e,he,q1,q2⟩:=hb.1;exact⟨e,he,q1,q2⟩
   simpa using key i h.1.1.1
 | o' :: l,i,h,p+1,o,ho=>by
   simp only[tailOK,baT] at h;have:=tail_spec h.2 p o (by simpa using ho)
   rwa [show i+1+p=i+(p+1) by omega] at this
section
variable {E:Env}{P:Program}{w w':World}{G:Gh}{ρ ρ':Ren}{h h1 h2:T Blk}{n n':Nat}{t:T Value}{a:Act}{ih:Run}
def SameBlk(x y:Option Blk):Prop:=x=y∨∃ es es':List (Value×Value),x=some (.map es)∧y=some (.map es')∧es'.Perm es
theorem MapRel.perm{es es':List (Value×Value)}{l:List MapEntry}(h:MapRel ρ es l)(hp:es'.Perm es):MapRel ρ es' l:=by obtain⟨h1,es0,h2,h3⟩:=h;refine⟨?_,es0,h2.trans hp.symm,h3⟩;unfold KeysApart at *;exact(hp.pairwise_iff (fun h e=>h e.symm)).2 h1
theorem SameBlk.rel{x y:Option Blk}(e:SameBlk x y){L:Pl}{k:Blk}{o:Option Obj}(hy:y=some k)(hx:∀ k',x=some k'→BRel ρ L k' o):BRel ρ L k o:=by
 rcases e with e|⟨es,es',e1,e2,e3⟩
 ·exact hx k (e.trans hy)
 ·rw[hy] at e2;cases e2;obtain⟨ents,c,h1,h2,h3⟩:=hx _ e1;exact⟨ents,c,h1,h2.perm e3,h3⟩
theorem SameBlk.some{x y:Option Blk}(e:SameBlk x y){k:Blk}(hy:y=some k):∃ k',x=some k'∧isRo k'=isRo k:=by
 rcases e with e|⟨es,es',e1,e2,e3⟩
 ·exact⟨k,e.trans hy,rfl⟩
 ·rw[hy] at e2;cases e2;exact⟨_,e1,rfl⟩
theorem WRel.swap(H:WRel G ρ h1 w)(e:∀ b,SameBlk (h1.get b) (h2.get b)):WRel G ρ h2 w:=by
 refine⟨fun b L k e1 e2=>(e b).rel e2 fun k' e3=>H.blk b L k' e1 e3,?_,?_,H.frame,H.size,H.glob,H.out⟩
 ·intro b b' L L' k k' hne e1 e1' e2 e2' hr;obtain⟨c,c1,c2⟩:=(e b).some e2;obtain⟨c',c1',c2'⟩:=(e b').some e2';exact H.apart b b' L L' c c' hne e1 e1' c1 c1' (by rw[c2,c2'];exact hr)
 ·intro b L k e1 e2 hr;obtain⟨c,c1,c2⟩:=(e b).some e2;exact H.own b L c e1 c1 (by rw[c2];exact hr)
theorem Stp.swap(S:Stp G ρ h n ρ' h1 n' w)(e:∀ b,SameBlk (h1.get b) (h2.get b))(e':∀ b,b<n→h1.get b=h2.get b):Stp G ρ h n ρ' h2 n' w:=by
 refine⟨⟨S.st.wr.swap e,S.st.fr,fun b hb=>?_⟩,S.ext,S.new,S.newOwn,fun b hb hn=>?_,fun b k hb hk=>?_,fun b hb hn=>?_,S.le⟩
 ·cases hx:h2.get b with
  | none=>rfl
  | some k =>
    obtain⟨c,c1,_⟩:=(e b).some hx;rw[S.st.hb b hb] at c1;cases c1
 ·rw[←e' b hb];exact S.dead b hb hn
 ·obtain⟨c,c1,_⟩:=(e b).some hk;exact S.tot b c hb c1
 ·rw[←e' b hb];exact S.afr b hb hn
theorem tail_sim(K:EOk E P)(hg:E.glob≤G.ng)(HC:CallOk E P (callF E ih))(HR:RoundOk E P (roundF E ih)){rd rd':Option Nat}{many:Nat}{ops:Array Oper}{e:Ex}{t':T Value}{d':List Deferred}{h':T Blk}{n':Nat}
 {ρ0:Ren} {h0:T Blk} {n0:Nat}:∀ (l:List Oper) (i:Nat) (t:T Value) (d:List Deferred) (h:T Blk) (n:Nat) (ρ:Ren) (a:Act) (w:World) (listed:Array Bool) (fuel:Nat),ops.toList.drop i=l→tailOK i l=true →
   (∀ j,listed.getD j true=false↔i≤j∧j<ops.size)→listed.size=ops.size→l.length≤fuel →
   opsS E ih rd many ops.toList l t d h n= .ok e t' d' h' n'→Stp G ρ0 h0 n0 ρ h n w→AOk ρ t many d a→RdRel ρ rd rd' →
   wpAnyIn (Fr rd') 0 P .any ops (Post G ρ0 h0 n0 many e t' d' h' n') fuel listed a w:=by
 intro l
 induction l with
 | nil =>
   intro i t d h n ρ a w listed fuel hl _ hL hs _ hx hst ha _;simp only[opsS] at hx;cases hx;refine wpAnyIn_done ?_ ⟨trivial,ρ,ha,hst⟩ fuel;rw[List.eq_nil_iff_forall_not_mem];intro j hj;obtain⟨q1,_⟩:=mem_ready.1 hj;have:=(hL j).1 q1;have hlen:ops.toList.length≤i:=List.drop_eq_nil_iff.1 hl;simp at hlen;omega
 | cons o l ihl =>
   intro i t d h n ρ a w listed fuel hl hT hL hs hf hx hst ha hrd;have hio:ops[i]? =some o:=by
    have:(ops.toList.drop i)[0]? =some o:=by rw[hl];rfl
    rw[List.getElem?_drop] at this;simpa using this
   have hisz:i<ops.size:=(Array.getElem?_eq_some_iff.1 hio).1;have hl':ops.toList.drop (i+1)=l:=by rw[←List.drop_drop,hl];rfl
   have hready:Region.ready .any ops listed=[i]∨∀ j∈Region.ready .any ops listed,j=i:=by
    refine .inr fun j hj=>?_
    obtain⟨q1,oj,q2,q3⟩:=mem_ready.1 hj;obtain⟨r1,r2⟩:=(hL j).1 q1;rcases Nat.lt_or_ge i j with h3|h3
    ·have hjl:(o :: l)[j-i]? =some oj:=by
      rw[←hl,List.getElem?_drop,show i+(j-i)=j by omega];simpa using q2
     obtain⟨_,r3,_⟩:=tail_spec hT (j-i) oj hjl;obtain⟨ed,he,hb,hon⟩:=r3 i (by omega);have:=q3 ed (by simpa using he) (by rw[←bindsA_eq];exact hb);rw[hon] at this;have h4:=(hL i).2 ⟨nlR _,hisz⟩;have h5:i<listed.size:=by omega
     simp[Array.getD_eq_getD_getElem?,h5] at this h4;rw[this] at h4;cases h4
    ·omega
   have hready:∀ j∈Region.ready .any ops listed,j=i:=by
    rcases hready with h1|h1
    ·rw[h1];simp
    ·exact h1
   cases fuel with
   | zero=>simp at hf
   | succ fuel =>
     obtain⟨hguard,_,hback⟩:=tail_spec hT 0 o rfl;refine⟨fun hr=>?_,fun j hj=>?_⟩
     ·exfalso;have:i∈Region.ready .any ops listed:=by
       refine mem_ready.2 ⟨(hL i).2 ⟨nlR _,hisz⟩,o,hio,fun ed he hb=>?_⟩;have h1:=hback ed (by simpa using he);have h2:ed.on<listed.size:=by omega
       cases hv:listed.getD ed.on false with
       | true=>rfl
       | false =>
         have h3:listed.getD ed.on true=false:=by simp[Array.getD_eq_getD_getElem?,h2] at hv ⊢;exact hv
         have:=(hL ed.on).1 h3;omega
      rw[hr] at this;cases this
     ·have:=hready j hj;subst this;rw[wpOpIn];simp only[hio];simp only[opsS] at hx;split at hx
      ·rename_i hw;rw[wanted_sim ha.tr hw];simp only[if_true];split at hx
       ·rename_i v d1 h1 n1 ho;split at hx
        ·rename_i t1 hp;refine opC_sim K hg HC HR hst.st ha hrd ho fun y ρ1 w1 ds q1 q2 q3=>?_
         refine ihl (j+1) t1 d1 h1 n1 ρ1 _ w1 _ fuel hl' (by simp only[tailOK,baT] at hT;exact hT.2) (fun q=>?_) (by simpa using hs) (by simpa using hf) hx (hst.trans q2) (q3.put q1 hp) (hrd.step q2);by_cases hq:q=j
         ·subst hq;have:q<listed.size:=by omega
          refine⟨fun h=>?_,fun h=>by omega⟩;simp[Array.getD_eq_getD_getElem?,this] at h
         ·rw[getD_set_ne true (Ne.symm hq),hL q];omega
        ·cases hx
       ·cases hx
       ·cases hx
      ·rename_i hw;unfold wantedA at hw;rw[hguard] at hw;cases hw
      ·cases hx
def MInv(G:Gh)(ρ0:Ren)(h:T Blk)(n:Nat)(many:Nat)(m:Tmp)(l:List (Tmp×Value×Value))(t:T Value)(ds:List Deferred)(D:Nat→Prop)(a:Act)(w:World):Prop :=
 ∃ (ρ:Ren) (h1:T Blk) (n1:Nat),a.tmps.size=many∧a.defers=ds∧Stp G ρ0 h n ρ h1 n1 w ∧
   (∀ k v,t.get k=some v→k≠m→(∀ x∈l,k≠x.1)→∃ y,a.tmps[k]? =some y∧VRel ρ v y) ∧
   (∀ p x,l[p]? =some x→D (2 * p+1)→∃ y,a.tmps[x.1]? =some y∧VRel ρ x.2.1 y) ∧
   ((¬ D 0∧h1=h∧n1=n)∨(D 0∧n1=n+1∧∃ es:List (Value×Value),(∀ b,h1.get b=(h.upd (some (.map es)) n).get b)∧(∀ e,e∈es↔∃ p x,l[p]? =some x∧D (2 * p+2)∧x.2=e)∧es.Nodup ∧
     ∃ y,a.tmps[m]? =some y∧VRel ρ (.map (some n)) y))
theorem put_size{dst:Option Tmp}{y:Value}:(a.put dst y).tmps.size=a.tmps.size:=by unfold Act.put;split<;>simp
theorem put_defers{dst:Option Tmp}{y:Value}:(a.put dst y).defers=a.defers:=by unfold Act.put;split<;>rfl
theorem put_at{k:Tmp}{y:Value}(hk:k<a.tmps.size):(a.put (some k) y).tmps[k]? =some y:=by simp[Act.put,hk]
theorem put_ne{j k:Tmp}{y:Value}(hk:k≠j):(a.put (some j) y).tmps[k]? =a.tmps[k]? :=by simp[Act.put,Array.getElem?_setIfInBounds_ne (Ne.symm hk)]
theorem put_none{y:Value}:a.put none y=a:=rfl
theorem minv_make(K:EOk E P)(hg:E.glob≤G.ng)(HC:CallOk E P (callF E ih))(HR:RoundOk E P (roundF E ih)){ρ0:Ren}{many:Nat}{m:Tmp}{l:List (Tmp×Value×Value)}{ds:List Deferred}{D:Nat→Prop}(hm:m<many)
 (hne:∀ x∈l,x.1≠m) (hnD:¬ D 0) (hcl:∀ p x,l[p]? =some x→¬ D (2 * p+2)) (I:MInv G ρ0 h n many m l t ds D a w) {o:Oper} {mt:TypeId} (ho:o.op= .makeMap mt none) (hd:o.dst=some m) {rd':Option Nat} {next:Act→World→Prop} {Q:Exit→Act→World→Prop}
 (hn:∀ a' w',MInv G ρ0 h n many m l t ds (fun j=>D j∨j=0) a' w'→next a' w'):o.wpIn (Fr rd') 0 P a w next Q:=by
 obtain⟨ρ,h1,n1,hs,hds,S,hT,hK,hP⟩:=I;rcases hP with⟨_,rfl,rfl⟩|⟨q,_⟩
 ·have hop:opN E ih .leaf h1 n1 o= .inl (.map (some n1),h1.upd (some (.map [])) n1,n1+1):=by
   unfold opN opA;rw[ho];rfl
  have hms:m<a.tmps.size:=by rw[hs];exact hm
  refine opN_sim K hg HC HR S.st (t:= .leaf) (fun k x hx=>by rw[T.get_leaf] at hx;cases hx) hop fun y ρ' w' r2 r3=>hn _ _ ?_
  rw[hd];refine⟨ρ',_,_,by rw[put_size];exact hs,by rw[put_defers];exact hds,S.trans r3,fun k v hv hk hk'=>?_,fun p x hx hD=>?_,.inr ⟨.inr rfl,rfl,[],fun _=>rfl,fun e=>?_,List.nodup_nil,y,put_at hms,r2⟩⟩
  ·obtain⟨z,z1,z2⟩:=hT k v hv hk hk';exact⟨z,by rw[put_ne hk];exact z1,z2.mono r3.ext⟩
  ·obtain⟨z,z1,z2⟩:=hK p x hx (hD.resolve_right (by omega));exact⟨z,by rw[put_ne (hne x (List.mem_of_getElem? hx))];exact z1,z2.mono r3.ext⟩
  ·refine⟨(fun h=>by cases h),?_⟩;rintro⟨p,x,hx,hD,_⟩;rcases hD with hD|hD
   ·exact absurd hD (hcl p x hx)
   ·omega
 ·exact absurd q hnD
theorem minv_build(K:EOk E P)(hg:E.glob≤G.ng)(HC:CallOk E P (callF E ih))(HR:RoundOk E P (roundF E ih)){ρ0:Ren}{many:Nat}{m:Tmp}{mt:TypeId}{l:List (Tmp×Value×Value)}{ds:List Deferred}{D:Nat→Prop}
 (hlt:∀ x∈l,x.1<many) (hapart:∀ (p q:Nat) (x y:Tmp×Value×Value),p<q→l[p]? =some x→l[q]? =some y→y.1≠x.1) {p:Nat} {x:Tmp×Value×Value} (hx:l[p]? =some x) {b s:Oper} (hb:PairAt E mt m (1+2 * p) x b s)
 (I:MInv G ρ0 h n many m l t ds D a w) {rd':Option Nat} {next:Act→World→Prop} {Q:Exit→Act→World→Prop}
 (hn:∀ a' w',MInv G ρ0 h n many m l t ds (fun j=>D j∨j=2 * p+1) a' w'→next a' w'):b.wpIn (Fr rd') 0 P a w next Q:=by
 obtain⟨ρ,h1,n1,hs,hds,S,hT,hK,hP⟩:=I;obtain⟨ty,ps,l0,e1,e2,e3⟩:=hb.bop;have hop:opN E ih .leaf h1 n1 b= .inl (x.2.1,h1,n1):=by unfold opN opA;rw[e1];simp only[e2,e3,val?]
 have hxl:x.1<a.tmps.size:=by rw[hs];exact hlt x (List.mem_of_getElem? hx)
 refine opN_sim K hg HC HR S.st (t:= .leaf) (fun k x hx=>by rw[T.get_leaf] at hx;cases hx) hop fun y ρ' w' r2 r3=>hn _ _ ?_
 rw[hb.bdst];refine⟨ρ',h1,n1,by rw[put_size];exact hs,by rw[put_defers];exact hds,S.trans r3,fun k v hv hk hk'=>?_,fun q z hz hD=>?_,?_⟩
 ·obtain⟨z,z1,z2⟩:=hT k v hv hk hk';exact⟨z,by rw[put_ne (hk' x (List.mem_of_getElem? hx))];exact z1,z2.mono r3.ext⟩
 ·by_cases hq:q=p
  ·subst hq;rw[hx] at hz;cases hz;exact⟨y,put_at hxl,r2⟩
  ·have hzx:z.1≠x.1:=by
    rcases Nat.lt_or_gt_of_ne hq with h3|h3
    ·exact(hapart q p z x h3 hz hx).symm
    ·exact hapart p q x z h3 hx hz
   obtain⟨u,u1,u2⟩:=hK q z hz (hD.resolve_right (by omega));exact⟨u,by rw[put_ne hzx];exact u1,u2.mono r3.ext⟩
 ·rcases hP with⟨q1,q2,q3⟩|⟨q1,q2,es,q3,q4,q5,u,u1,u2⟩
  ·exact .inl ⟨fun h=>q1 (h.resolve_right (by omega)),q2,q3⟩
  ·refine .inr ⟨.inl q1,q2,es,q3,fun e=>(q4 e).trans ⟨fun⟨p',x',h1,h2,h3⟩=>⟨p',x',h1,.inl h2,h3⟩,fun⟨p',x',h1,h2,h3⟩=>⟨p',x',h1,h2.resolve_right (by omega),h3⟩⟩,q5,u,?_,u2.mono r3.ext⟩;rw[put_ne (Ne.symm hb.ne)];exact u1
theorem findA_none{kk:KK}{k:Value}:∀ {es:List (Value×Value)},(∀ e∈es,eqKK kk k e.1=some false)→findA kk k es=some none
 | [],_=>rfl
 | e :: es,h=>by simp only[findA,findA_none fun x hx=>h x (mcM _ hx),h e (mcS ..)]
theorem eqKK_symm{kk:KK}{a b:Value}(h:eqKK kk a b=some false):eqKK kk b a=some false:=by
 have hne:a≠b:=fun e=>by have:=(eqKK_iff h).2 e;cases this
 have go:∀ r,eqKK kk b a=some r→eqKK kk b a=some false:=by
  intro r hr;cases r with
  | false=>exact hr
  | true=>exact absurd ((eqKK_iff hr).1 rfl).symm hne
 cases kk with
 | int =>
   cases a<;>cases b<;>simp only[eqKK,biE] at h ⊢ <;>try cases h
   split at h
   ·rename_i hk;rw[kindEqT] at hk;subst hk;rw[if_pos (by rw[kindEqT])];simp only[Option.some.injEq,decide_eq_false_iff_not] at h ⊢;exact fun e=>h e.symm
   ·cases h
 | str =>
   cases a<;>cases b<;>simp only[eqKK] at h ⊢ <;>try cases h
   exact go _ rfl
 | flat ks =>
   cases a<;>cases b<;>simp only[eqKK] at h ⊢ <;>try cases h
   rename_i x y;obtain⟨f1,f2,_⟩:=eqFlat_some h;exact go (eqCs y.toList x.toList) (by simp[eqKK,eqFlat,f1,f2])
theorem keysApart_spec{kk:KK}:∀ {l:List (Tmp×Value×Value)},keysApart kk l=true→∀ (p q:Nat)(x y:Tmp×Value×Value),p<q→l[p]? =some x→l[q]? =some y→eqKK kk x.2.1 y.2.1=some false
 | [],_,p,q,x,y,_,hx,_=>by simp at hx
 | z :: l,h,0,q+1,x,y,_,hx,hy=>by
   simp only[keysApart,baT,List.all_eq_true] at h;simp at hx;subst hx;have:=h.1 y (List.mem_of_getElem? (by simpa using hy));split at this
   ·assumption
   ·cases this
 | z :: l,h,p+1,q+1,x,y,hpq,hx,hy=>by simp only[keysApart,baT] at h;exact keysApart_spec h.2 p q x y (by omega) (by simpa using hx) (by simpa using hy)
 | _ :: _,_,p,0,_,_,hpq,_,_=>by omega
theorem minv_insert(K:EOk E P)(hg:E.glob≤G.ng)(HC:CallOk E P (callF E ih))(HR:RoundOk E P (roundF E ih)){ρ0:Ren}{many:Nat}{m:Tmp}{mt:TypeId}{l:List (Tmp×Value×Value)}{ds:List Deferred}{D:Nat→Prop}
 {ti:TyI} (hti:E.ty.get mt=some ti) {kt vt:TypeId} (hd:ti.d= .map kt vt) {kk:KK} (hkk:kkOf E kt=some kk) (hfit:∀ x∈l,fitKK kk x.2.1=true) (hka:keysApart kk l=true)
 {p:Nat} {x:Tmp×Value×Value} (hx:l[p]? =some x) {b s:Oper} (hb:PairAt E mt m (1+2 * p) x b s) (h0:D 0) (h1D:D (2 * p+1)) (h2D:¬ D (2 * p+2))
 (I:MInv G ρ0 h n many m l t ds D a w) {rd':Option Nat} {next:Act→World→Prop} {Q:Exit→Act→World→Prop}
 (hn:∀ a' w',MInv G ρ0 h n many m l t ds (fun j=>D j∨j=2 * p+2) a' w'→next a' w'):s.wpIn (Fr rd') 0 P a w next Q:=by
 obtain⟨ρ,h1,n1,hs,hds,S,hT,hK,hP⟩:=I;rcases hP with⟨q,_⟩|⟨_,rfl,es,q3,q4,q5,u,u1,u2⟩
 ·exact absurd h0 q
 ·obtain⟨z,z1,z2⟩:=hK p x hx h1D;have hTR:TR ρ ((T.leaf.upd (some (.map (some n))) m).upd (some x.2.1) x.1) a.tmps:=by
   intro k v hv;rw[T.get_upd] at hv;split at hv
   ·rename_i hk;cases hv;subst hk;exact⟨z,z1,z2⟩
   ·rw[T.get_upd] at hv;split at hv
    ·rename_i hk;cases hv;subst hk;exact⟨u,u1,u2⟩
    ·rw[T.get_leaf] at hv;cases hv
  have hno:∀ e∈es,eqKK kk x.2.1 e.1=some false:=by
   intro e he;obtain⟨q,y,hy,hDq,rfl⟩:=(q4 e).1 he;have hqp:q≠p:=by rintro rfl;exact h2D hDq
   rcases Nat.lt_or_gt_of_ne hqp with h3|h3
   ·exact eqKK_symm (keysApart_spec hka q p y x h3 hy hx)
   ·exact keysApart_spec hka p q x y h3 hx hy
  have hget:h1.get n=some (.map es):=by rw[q3,T.gsE]
  have hput:mapPutA E mt (.map (some n)) x.2.1 x.2.2 h1=some (h1.upd (some (.map (es ++ [x.2]))) n):=by unfold mapPutA;rw[hti];simp only[hd,hkk,biE,hfit x (List.mem_of_getElem? hx),if_true,hget,findA_none hno,putKey_none hno]
  have hop:opN E ih ((T.leaf.upd (some (.map (some n))) m).upd (some x.2.1) x.1) h1 (n+1) s= .inl (undefV,h1.upd (some (.map (es ++ [x.2]))) n,n+1):=by
   have g1:((T.leaf.upd (some (Value.map (some n))) m).upd (some x.2.1) x.1).get m=some (.map (some n)):=by rw[T.gnE _ _ (Ne.symm hb.ne),T.gsE]
   have g2:((T.leaf.upd (some (Value.map (some n))) m).upd (some x.2.1) x.1).get x.1=some x.2.1:=T.gsE _ _ _;unfold opN opA;rw[hb.sop];simp only[evA,g1,g2,hb.lv,cond_true,hput]
  refine opN_sim K hg HC HR S.st hTR hop fun y ρ' w' r2 r3=>hn _ _ ?_
  rw[hb.sdst,put_none];refine⟨ρ',_,_,hs,hds,S.trans r3,fun k v hv hk hk'=>?_,fun q y hy hD=>?_,.inr ⟨.inl h0,rfl,es ++ [x.2],fun b=>?_,fun e=>?_,?_,u,u1,u2.mono r3.ext⟩⟩
  ·obtain⟨y,y1,y2⟩:=hT k v hv hk hk';exact⟨y,y1,y2.mono r3.ext⟩
  ·obtain⟨y',y1,y2⟩:=hK q y hy (hD.resolve_right (by omega));exact⟨y',y1,y2.mono r3.ext⟩
  ·by_cases hbn:b=n
   ·subst hbn;rw[T.gsE,T.gsE]
   ·rw[T.gnE _ _ hbn,q3,T.gnE _ _ hbn,T.gnE _ _ hbn]
  ·rw[List.mem_append,q4,List.mem_singleton];constructor
   ·rintro (⟨q,y,e1,e2,e3⟩|rfl)
    ·exact⟨q,y,e1,.inl e2,e3⟩
    ·exact⟨p,x,hx,.inr rfl,rfl⟩
   ·rintro⟨q,y,e1,e2,e3⟩;rcases e2 with e2|e2
    ·exact .inl ⟨q,y,e1,e2,e3⟩
    ·have:q=p:=by omega
     subst this;rw[hx] at e1;cases e1;exact .inr e3.symm
  ·rw[List.nodup_append];refine⟨q5,by simp,fun e he f hf=>?_⟩;rw[List.mem_singleton] at hf;subst hf;intro e3;have:=hno e he;rw[e3] at this;have:=(eqKK_iff this).2 rfl;cases this
theorem putTs_get:∀ {l:List (Tmp×Value×Value)}{t:T Value}{k:Tmp}{v:Value},(∀ (p q:Nat)(x y:Tmp×Value×Value),p<q→l[p]? =some x→l[q]? =some y→y.1≠x.1)→(putTs l t).get k=some v→(∃ (p:Nat)(x:Tmp×Value×Value),l[p]? =some x∧k=x.1∧v=x.2.1)∨((∀ x∈l,k≠x.1)∧t.get k=some v)
 | [],t,k,v,_,hv=> .inr ⟨by simp,hv⟩
 | z :: l,t,k,v,ha,hv=>by
   rw[putTs] at hv;rcases putTs_get (fun p q x y h1 h2 h3=>ha (p+1) (q+1) x y (by omega) (by simpa using h2) (by simpa using h3)) hv with⟨p,x,h1,h2⟩|⟨h1,h2⟩
   ·exact .inl ⟨p+1,x,by simpa using h1,h2⟩
   ·rw[T.get_upd] at h2;split at h2
    ·rename_i hk;cases h2;exact .inl ⟨0,z,rfl,hk,rfl⟩
    ·rename_i hk;exact .inr ⟨fun x hx=>(List.mem_cons.1 hx).elim (fun e=>e▸hk) (h1 x),h2⟩
theorem minv_end{ρ0:Ren}{many:Nat}{m:Tmp}{l:List (Tmp×Value×Value)}{ds:List Deferred}{D:Nat→Prop}(hapart:∀ (p q:Nat)(x y:Tmp×Value×Value),p<q→l[p]? =some x→l[q]? =some y→y.1≠x.1){kk:KK}(hka:keysApart kk l=true)
 (hD:∀ j,j<1+2 * l.length→D j) (I:MInv G ρ0 h n many m l t ds D a w) :
 ∃ ρ,a.tmps.size=many∧a.defers=ds∧TR ρ (putTs l (t.upd (some (.map (some n))) m)) a.tmps∧Stp G ρ0 h n ρ (h.upd (some (.map (l.map (·.2)))) n) (n+1) w:=by
 obtain⟨ρ,h1,n1,hs,hds,S,hT,hK,hP⟩:=I;rcases hP with⟨q,_⟩|⟨_,rfl,es,q3,q4,q5,u,u1,u2⟩
 ·exact absurd (hD 0 (by omega)) q
 ·refine⟨ρ,hs,hds,?_,S.swap (fun b=>?_) fun b hb=>?_⟩
  ·intro k v hv;rcases putTs_get hapart hv with⟨p,x,e1,rfl,rfl⟩|⟨e1,e2⟩
   ·have:=(gsI e1).1;exact hK p x e1 (hD _ (by omega))
   ·rw[T.get_upd] at e2;split at e2
    ·rename_i hk;cases e2;subst hk;exact⟨u,u1,u2⟩
    ·rename_i hk;exact hT k v e2 hk e1
  ·by_cases hbn:b=n
   ·subst hbn;refine .inr ⟨es,l.map (·.2),by rw[q3,T.gsE],T.gsE _ _ _,?_⟩;have nd:(l.map (·.2)).Nodup:=by
     rw[List.nodup_iff_pairwise_ne,List.pairwise_map,List.pairwise_iff_getElem];intro i j hi hj hij e;have:=keysApart_spec hka i j l[i] l[j] hij (ggE hi) (ggE hj);rw[e] at this;have:=(eqKK_iff this).2 rfl;cases this
    refine(List.perm_ext_iff_of_nodup nd q5).2 fun e=>?_
    rw[q4,List.mem_map];constructor
    ·rintro⟨x,hx,rfl⟩;obtain⟨p,hp⟩:=List.getElem?_of_mem hx;have:=(gsI hp).1;exact⟨p,x,hp,hD _ (by omega),rfl⟩
    ·rintro⟨p,x,hp,_,rfl⟩;exact⟨x,List.mem_of_getElem? hp,rfl⟩
   ·exact .inl (by rw[q3,T.gnE _ _ hbn,T.gnE _ _ hbn])
  ·rw[q3,T.gnE _ _ (by omega),T.gnE _ _ (by omega)]
end
section
variable {E:Env}{P:Program}{w:World}{G:Gh}{ρ0:Ren}{h:T Blk}{n:Nat}{t:T Value}{a:Act}{ih:Run}
theorem listed_false{listed:Array Bool}{i:Nat}(h1:listed.getD i true=false):listed[i]? =some false:=by
 cases hv:listed[i]? with
 | none=>simp[Array.getD_eq_getD_getElem?,hv] at h1
 | some b=>simp[Array.getD_eq_getD_getElem?,hv] at h1;rw[h1]
theorem listed_true{listed:Array Bool}{i:Nat}(h1:listed.getD i false=true):listed[i]? =some true:=by
 cases hv:listed[i]? with
 | none=>simp[Array.getD_eq_getD_getElem?,hv] at h1
 | some b=>simp[Array.getD_eq_getD_getElem?,hv] at h1;rw[h1]
theorem listed_set{listed:Array Bool}{i:Nat}(hi:i<listed.size)(j:Nat):(listed.setIfInBounds i true)[j]? =some true↔(listed[j]? =some true∨j=i):=by
 by_cases hji:j=i
 ·subst hji;simp[hi]
 ·rw[Array.getElem?_setIfInBounds_ne (Ne.symm hji)];simp[hji]
theorem count_step{listed:Array Bool}{i fuel:Nat}(hf:listed[i]? =some false)(hc:listed.toList.count false≤fuel+1):(listed.setIfInBounds i true).toList.count false≤fuel:=by
 have hlen:i<listed.toList.length:=by have:=(Array.getElem?_eq_some_iff.1 hf).1;simpa using this
 have hget:listed.toList[i]=false:=by have:=hf;rw[←Array.getElem?_toList,ggE hlen] at this;exact Option.some.inj this
 have hpos:0<listed.toList.count false:=List.count_pos_iff.2 (List.mem_of_getElem? (i:=i) (by rw[Array.getElem?_toList];exact hf));rw[Array.toList_setIfInBounds,List.count_set hlen,hget,if_pos (show(false == false)=true from rfl),if_neg (show ¬ (true == false)=true by decide)];omega
theorem count_tail{listed:Array Bool}{k fuel:Nat}(hf:∀ j,k≤j→j<listed.size→listed[j]? =some false)(hc:listed.toList.count false≤fuel):listed.size-k≤fuel:=by
 have h1:listed.toList.count false=(listed.toList.take k).count false+(listed.toList.drop k).count false:=by rw[←List.count_append,List.take_append_drop]
 have h2:(listed.toList.drop k).count false=(listed.toList.drop k).length:=by
  refine List.count_eq_length.2 fun b hb=>?_
  obtain⟨j,hj⟩:=List.getElem?_of_mem hb;rw[List.getElem?_drop,Array.getElem?_toList] at hj;have hlt:=(Array.getElem?_eq_some_iff.1 hj).1;rw[hf (k+j) (by omega) hlt] at hj;exact Option.some.inj hj
 rw[List.length_drop,Array.length_toList] at h2;omega
theorem draw_map(K:EOk E P)(hm:P.follows .mixedOrders=true)(hRun:RunOk E P ih){rd rd':Option Nat}{many:Nat}{ops:Array Oper}{d:List Deferred}{e:Ex}{t':T Value}{d':List Deferred}{h':T Blk}{n':Nat}
 (hx:regM E ih rd many ops.toList t d h n= .ok e t' d' h' n') (hg:E.glob≤G.ng) (H:St G ρ0 h n w) (ha:AOk ρ0 t many d a) (hrd:RdRel ρ0 rd rd') {id:Nat} :
 (Code.region id ops true).wpIn (Fr rd') 0 P (Post G ρ0 h n many e t' d' h' n') a w:=by
 have HC:=callF_sim K hRun;have HR:=roundF_sim (E:=E) (P:=P) hRun;unfold regM at hx;split at hx
 ·rename_i o rest hops;split at hx
  ·rename_i mt m hop hdst;rw[biE] at hx;split at hx
   ·rename_i hc;simp only[baT,Option.isNone_iff_eq_none,List.isEmpty_iff] at hc;obtain⟨hog,hoa⟩:=hc;split at hx
    ·rename_i l tl ti hpairs hti;split at hx
     ·rename_i kt vt hd;split at hx
      ·rename_i kk hkk;rw[biE] at hx;split at hx
       ·rename_i hcond;simp only[baT,List.all_eq_true,bltT] at hcond;obtain⟨⟨hall,hmm⟩,hka⟩:=hcond;obtain⟨hP,htl,htail,hap⟩:=pairs_spec rest.length (nlR _) hpairs;have hlt:∀ x∈l,x.1<many:=fun x hx=>(hall x hx).1
        have hfit:∀ x∈l,fitKK kk x.2.1=true:=fun x hx=>(hall x hx).2
        have hne:∀ x∈l,x.1≠m:=fun x hx=>by obtain⟨p,hp⟩:=List.getElem?_of_mem hx;obtain⟨b,s,_,_,hb⟩:=hP p x hp;exact hb.ne
        have hsz:ops.size=1+rest.length:=by rw[←Array.length_toList,hops,List.length_cons];omega
        have hlen2:2 * l.length≤rest.length:=by
         rcases Nat.eq_zero_or_pos l.length with h0|h0
         ·omega
         ·obtain⟨b,s,_,hs,_⟩:=hP (l.length-1) l[l.length-1] (ggE (by omega));have:=(gsI hs).1;omega
        have hat0:ops[0]? =some o:=by rw[←Array.getElem?_toList,hops];rfl
        have hat:∀ j,ops[j+1]? =rest[j]? :=fun j=>by rw[←Array.getElem?_toList,hops];rfl
        have hdrop:ops.toList.drop (1+2 * l.length)=tl:=by rw[hops,Nat.add_comm,List.drop_succ_cons];exact htl
        have key:∀ (fuel:Nat) (listed:Array Bool) (a:Act) (w:World),listed.size=ops.size→listed.toList.count false≤fuel→(∀ (p:Nat),p<l.length→listed[2 * p+2]? =some true→listed[0]? =some true∧listed[2 * p+1]? =some true) →
         (∀ (j:Nat),1+2 * l.length≤j→j<ops.size→listed[j]? =some false)→RdRel ρ0 rd rd'→DsR ρ0 d a.defers→(∀ ds,ds=a.defers→MInv G ρ0 h n many m l t ds (fun j=>listed[j]? =some true) a w) →
         wpAnyIn (Fr rd') 0 P .any ops (Post G ρ0 h n many e t' d' h' n') fuel listed a w:=by
         intro fuel
         induction fuel with
         | zero =>
           intro listed a w hs hcnt hcl htf hrd hds I;have I:=I _ rfl;have hallT:∀ j,j<listed.size→listed[j]? =some true:=by
            intro j hj;cases hv:listed[j]? with
            | none=>rw[Array.getElem?_eq_none_iff] at hv;omega
            | some b =>
              cases b with
              | true=>rfl
              | false =>
                have:false∈listed.toList:=by rw[←Array.getElem?_toList] at hv;exact List.mem_of_getElem? hv
                have:=List.count_pos_iff.2 this;omega
           obtain⟨ρ,q1,q2,q3,q4⟩:=minv_end hap hka (fun j hj=>hallT j (by omega)) I;have htc:=count_tail (fun j h1 h2=>htf j h1 (by omega)) hcnt;refine tail_sim K hg HC HR tl (1+2 * l.length) _ d _ (n+1) ρ a w listed 0 hdrop htail (fun j=>?_) hs ?_ hx q4 ⟨q3,q1,hds.mono q4.ext⟩ (hrd.mono q4.ext)
           ·constructor
            ·intro h1;have h1:=listed_false h1;have h2:=(Array.getElem?_eq_some_iff.1 h1).1;rw[hallT j h2] at h1;cases h1
            ·intro h1;omega
           ·have:=congrArg List.length hdrop;rw[List.length_drop,Array.length_toList] at this;omega
         | succ fuel ihf =>
           intro listed a w hs hcnt hcl htf hrd hds I;by_cases hallT:∀ j,j<1+2 * l.length→listed[j]? =some true
           ·obtain⟨ρ,q1,q2,q3,q4⟩:=minv_end hap hka hallT (I _ rfl);have htc:=count_tail (fun j h1 h2=>htf j h1 (by omega)) hcnt;refine tail_sim K hg HC HR tl (1+2 * l.length) _ d _ (n+1) ρ a w listed (fuel+1) hdrop htail (fun j=>?_) hs ?_ hx q4 ⟨q3,q1,hds.mono q4.ext⟩ (hrd.mono q4.ext)
            ·constructor
             ·intro h1;have h1:=listed_false h1;have h2:=(Array.getElem?_eq_some_iff.1 h1).1;rcases Nat.lt_or_ge j (1+2 * l.length) with h3|h3
              ·rw[hallT j h3] at h1;cases h1
              ·omega
             ·rintro⟨h1,h2⟩;simp[Array.getD_eq_getD_getElem?,htf j h1 h2]
            ·have:=congrArg List.length hdrop;rw[List.length_drop,Array.length_toList] at this;omega
           ·have hready:∀ j,j<1+2 * l.length→listed[j]? =some false→(∀ o,ops[j]? =some o→∀ ed∈o.after.toList,bindsA ed=true→listed[ed.on]? =some true)→j∈Region.ready .any ops listed:=by
             intro j hj hf hed;have hjs:j<ops.size:=by omega
             refine mem_ready.2 ⟨by simp[Array.getD_eq_getD_getElem?,hf],ops[j],Array.getElem?_eq_getElem hjs,fun ed he hb=>?_⟩;have:=hed _ (Array.getElem?_eq_getElem hjs) ed (by simpa using he) (by rw[bindsA_eq];exact hb);simp[Array.getD_eq_getD_getElem?,this]
            refine⟨fun hr=>absurd ?_ hallT,fun i hi=>?_⟩
            ·
             have tf:∀ j,j<1+2 * l.length→listed[j]? =some true∨listed[j]? =some false:=by
              intro j hj;cases hv:listed[j]? with
              | none=>rw[Array.getElem?_eq_none_iff] at hv;omega
              | some b=>cases b<;>simp
             have c0:listed[0]? =some true:=by
              refine(tf 0 (by omega)).resolve_right fun hf=>?_
              have:=hready 0 (by omega) hf (fun o' ho' ed he=>by rw[hat0] at ho';cases ho';rw[hoa] at he;cases he);rw[hr] at this;cases this
             have c1:∀ p,p<l.length→listed[2 * p+1]? =some true:=by
              intro p hp;refine(tf _ (by omega)).resolve_right fun hf=>?_
              obtain⟨b,s,g1,g2,g3⟩:=hP p l[p] (ggE hp);have:=hready (2 * p+1) (by omega) hf (fun o' ho' ed he=>by rw[hat,g1] at ho';cases ho';rw[g3.baf] at he;cases he);rw[hr] at this;cases this
             intro j hj;rcases Nat.eq_zero_or_pos j with rfl|hjp
             ·exact c0
             ·rcases Nat.mod_two_eq_zero_or_one j with hmod|hmod
              ·obtain⟨p,hp⟩:∃ p,j=2 * p+2:=⟨j / 2-1,by omega⟩
               subst hp;refine(tf _ (by omega)).resolve_right fun hf=>?_
               obtain⟨b,s,g1,g2,g3⟩:=hP p l[p] (ggE (by omega));have:=hready (2 * p+2) (by omega) hf (fun o' ho' ed he _=>by
                rw[hat,g2] at ho';cases ho';rcases (g3.saf ed he).2 with h1|h1
                ·rw[h1];exact c0
                ·rw[h1,Nat.add_comm];exact c1 p (by omega))
               rw[hr] at this;cases this
              ·obtain⟨p,hp⟩:∃ p,j=2 * p+1:=⟨j / 2,by omega⟩
               subst hp;exact c1 p (by omega)
            ·obtain⟨h1,oi,h2,h3⟩:=mem_ready.1 hi;have hf:=listed_false h1;have hisz:i<listed.size:=(Array.getElem?_eq_some_iff.1 hf).1;have hdone:∀ ed∈oi.after.toList,bindsA ed=true→listed[ed.on]? =some true:=fun ed he hb=>listed_true (h3 ed (by simpa using he) (by rw[←bindsA_eq];exact hb))
             have hi1:i<1+2 * l.length:=by
              rcases Nat.lt_or_ge i (1+2 * l.length) with h4|h4
              ·exact h4
              ·exfalso;refine hallT fun j hj=>?_
               have ht:tl[i-(1+2 * l.length)]? =some oi:=by rw[←hdrop,List.getElem?_drop,show 1+2 * l.length+(i-(1+2 * l.length))=i by omega,Array.getElem?_toList];exact h2
               obtain⟨_,hb,_⟩:=tail_spec htail _ oi ht;obtain⟨ed,he,e1,e2⟩:=hb j (by omega);have:=hdone ed he e1;rw[e2] at this;exact this
             have next:∀ a' w',(∀ ds,ds=a.defers→MInv G ρ0 h n many m l t ds (fun j=>listed[j]? =some true∨j=i) a' w')→a'.defers=a.defers→(∀ p,p<l.length→i=2 * p+2→listed[0]? =some true∧listed[2 * p+1]? =some true) →
              wpAnyIn (Fr rd') 0 P .any ops (Post G ρ0 h n many e t' d' h' n') fuel (listed.setIfInBounds i true) a' w':=by
              intro a' w' I' hd' hcli;refine ihf (listed.setIfInBounds i true) a' w' (by simp[hs]) (count_step hf hcnt) (fun p hp hl=>?_) (fun j hj1 hj2=>?_) hrd (by rw[hd'];exact hds) (fun ds hds'=>?_)
              ·rw[listed_set hisz] at hl;have:listed[0]? =some true∧listed[2 * p+1]? =some true:=by
                rcases hl with hl|hl
                ·exact hcl p hp hl
                ·exact hcli p hp hl.symm
               exact⟨(listed_set hisz _).2 (.inl this.1),(listed_set hisz _).2 (.inl this.2)⟩
              ·rw[Array.getElem?_setIfInBounds_ne (by omega)];exact htf j hj1 hj2
              ·have e:(fun j=>(listed.setIfInBounds i true)[j]? =some true)=fun j=>listed[j]? =some true∨j=i:=funext fun j=>propext (listed_set hisz j)
               rw[e];exact I' ds (hds'.trans hd')
             have wd:∀ {o':Oper},o'.guard=none→Region.wanted o' (yielded ops a.tmps)=true:=by intro o' hg';unfold Region.wanted;rw[hg']
             unfold wpOpIn;rw[h2];have keep:∀ {a' w'},MInv G ρ0 h n many m l t a.defers (fun j=>listed[j]? =some true∨j=i) a' w'→a'.defers=a.defers:=fun⟨_,_,_,_,hd,_⟩=>hd
             have hnot:¬ listed[i]? =some true:=by rw[hf];simp
             rcases Nat.eq_zero_or_pos i with rfl|hip
             ·rw[hat0] at h2;cases h2;simp only[wd hog,if_true];refine minv_make K hg HC HR hmm hne hnot (fun p x hx hl=>?_) (I _ rfl) hop hdst fun a' w' I'=>next a' w' (fun ds hds'=>hds'▸I') (keep I') (fun p hp he=>by omega)
              have:=hcl p (gsI hx).1 hl;exact hnot this.1
             ·rcases Nat.mod_two_eq_zero_or_one i with hmod|hmod
              ·obtain⟨p,hp⟩:∃ p,i=2 * p+2:=⟨i / 2-1,by omega⟩
               subst hp;obtain⟨b,s,g1,g2,g3⟩:=hP p l[p] (ggE (by omega));rw[hat,g2] at h2;cases h2;simp only[wd g3.sg,if_true];have c0:listed[0]? =some true:=by obtain⟨ed,he,hon⟩:=g3.s0;have:=hdone ed he (g3.saf ed he).1;rw[hon] at this;exact this
               have c1:listed[2 * p+1]? =some true:=by obtain⟨ed,he,hon⟩:=g3.si;have:=hdone ed he (g3.saf ed he).1;rw[hon,Nat.add_comm] at this;exact this
               exact minv_insert K hg HC HR hti hd hkk hfit hka (ggE (by omega)) g3 c0 c1 hnot (I _ rfl) fun a' w' I'=>next a' w' (fun ds hds'=>hds'▸I') (keep I') (fun q hq he=>by
                have:q=p:=by omega
                subst this;exact⟨c0,c1⟩)
              ·obtain⟨p,hp⟩:∃ p,i=2 * p+1:=⟨i / 2,by omega⟩
               subst hp;obtain⟨b,s,g1,g2,g3⟩:=hP p l[p] (ggE (by omega));rw[hat,g1] at h2;cases h2;simp only[wd g3.bg,if_true];exact minv_build K hg HC HR hlt hap (ggE (by omega)) g3 (I _ rfl) fun a' w' I'=>next a' w' (fun ds hds'=>hds'▸I') (keep I') (fun q hq he=>by omega)
        refine wpIn_region_any hm (key ops.size _ a _ (by simp) (by simp) (fun p hp hl=>?_) (fun j hj1 hj2=>by simp[hj2]) hrd ha.defs fun ds hds=>?_)
        ·rw[Array.getElem?_replicate] at hl;split at hl<;>cases hl
        ·subst hds;have nf:∀ (j:Nat),¬ (Array.replicate ops.size false)[j]? =some true:=by
          intro j hl;rw[Array.getElem?_replicate] at hl;split at hl<;>cases hl
         exact⟨ρ0,h,n,ha.size,rfl,.refl (H.same ⟨rfl,rfl⟩),fun k v hv _ _=>ha.tr k v hv,fun p x _ hD=>absurd hD (nf _),.inl ⟨nf 0,rfl,rfl⟩⟩
       ·cases hx
      ·cases hx
     ·cases hx
    ·cases hx
   ·cases hx
  ·cases hx
 ·cases hx
end
section
variable {E:Env}{P:Program}{w:World}{G:Gh}{ρ:Ren}{h hh h1 h2:T Blk}{n:Nat}{t:T Value}{a:Act}{ih:Run}
theorem storeA_spec{ty:TypeId}{p v:Value}(hs:storeA E h ty p v=some h1):∃ b o cs',p= .pointer (some ⟨b,o,none⟩)∧(∃ cs,h.get b=some (.cells cs))∧h1=h.upd (some (.cells cs')) b ∧
 ∀ h2:T Blk,h2.get b=h.get b→storeA E h2 ty p v=some (h2.upd (some (.cells cs')) b):=by
 unfold storeA at hs;split at hs
 ·rename_i b o;split at hs
  ·rename_i i hi;simp only[biE] at hs;split at hs
   ·rename_i hlen;unfold putA at hs;split at hs
    ·rename_i cs hcs;simp only[biE] at hs;split at hs
     ·rename_i hall;split at hs
      ·rename_i cs' hov;cases hs;refine⟨b,o,cs',rfl,⟨cs,hcs⟩,rfl,fun h2 e=>?_⟩;unfold storeA putA;simp only[hi,biE,hlen,e,hcs,hall,hov,if_true]
      ·cases hs
     ·cases hs
    ·cases hs
   ·cases hs
  ·cases hs
 ·cases hs
theorem loadA_congr{ty:TypeId}{p:Value}{c:Nat}(hp:blockOf p=some c)(e:h2.get c=h.get c):loadA E h2 ty p=loadA E h ty p:=by
 unfold blockOf at hp;split at hp
 ·cases hp;simp only[loadA,cellsOf,e]
 ·cases hp
noncomputable def onlyB(h:T Blk):Nat→T Blk
 | 0=> .leaf
 | n+1=>(onlyB h n).upd (h.get n) n
theorem onlyB_get(h:T Blk):∀ (n b:Nat),(onlyB h n).get b=if b<n then h.get b else none
 | 0,b=>by simp[onlyB,T.get_leaf]
 | n+1,b=>by
   rw[onlyB,T.get_upd,onlyB_get h n b];by_cases h1:b=n
   ·subst h1;simp
   ·rw[if_neg h1];by_cases h2:b<n
    ·rw[if_pos h2,if_pos (by omega)]
    ·rw[if_neg h2,if_neg (by omega)]
theorem store_any(K:EOk E P)(hg:E.glob≤G.ng)(HC:CallOk E P (callF E ih))(HR:RoundOk E P (roundF E ih))(H:WRel G ρ hh w){n':Nat}(hfr:∀ b,n'≤b→ρ b=none){o:Oper}{ty:TypeId}{ax xx:Operand}(ho:o.op= .store ty ax xx)
 (ht:∀ k∈opTmps o,∀ x,t.get k=some x→∃ y,a.tmps[k]? =some y∧VRel ρ x y) {p v:Value} (hp:evA E t ax=some p) (hv:evA E t xx=some v) {b:Nat} {L:Pl} (hb:blockOf p=some b) (hL:ρ b=some L)
 (hs:storeA E h ty p v=some h1) (he:hh.get b=h.get b) {rd':Option Nat} {next:Act→World→Prop} {Q:Exit→Act→World→Prop}
 (hn:∀ y w',VRel ρ undefV y→WRel G ρ (hh.upd (h1.get b) b) w'→next (a.put o.dst y) w'):o.wpIn (Fr rd') 0 P a w next Q:=by
 obtain⟨b',off,cs',e1,⟨cs,e2⟩,e3,e4⟩:=storeA_spec hs;subst e1;have hbb:b'=b:=by simpa [blockOf] using hb
 subst hbb;have hbn:b'<n':=by
  rcases Nat.lt_or_ge b' n' with h3|h3
  ·exact h3
  ·rw[hfr b' h3] at hL;cases hL
 have S:St G ρ (onlyB hh n') n' w:=by
  refine⟨H.agree fun c M hc=>?_,hfr,fun c hc=>?_⟩
  ·rw[onlyB_get,if_pos];rcases Nat.lt_or_ge c n' with h3|h3
   ·exact h3
   ·rw[hfr c h3] at hc;cases hc
  ·rw[onlyB_get,if_neg (by omega)]
 have hT:TR ρ (only t (opTmps o)) a.tmps:=by intro k x hx;obtain⟨q1,q2⟩:=only_some t hx;exact ht k q1 x q2
 have hst:=e4 (onlyB hh n') (by rw[onlyB_get,if_pos hbn,he]);have ev:∀ x∈o.op.operands.toList,evA E (only t (opTmps o)) x=evA E t x:=fun x hx=>evA_congr fun k e=>only_get t (mem_opTmps (e▸hx))
 have hop:opN E ih (only t (opTmps o)) (onlyB hh n') n' o= .inl (undefV,(onlyB hh n').upd (some (.cells cs')) b',n'):=by rw[ho] at ev;unfold opN opA;rw[ho];simp only[ev ax (by simp[Op.operands]),ev xx (by simp[Op.operands]),hp,hv,hst]
 refine opN_sim K hg HC HR S hT hop fun y ρ' w' r2 r3=>?_
 have hρ:ρ'=ρ:=by
  funext c
  cases hc:ρ c with
  | some M=>exact r3.ext c M hc
  | none =>
    rcases Nat.lt_or_ge c n' with h3|h3
    ·exact r3.new c h3 hc
    ·exact r3.st.fr c h3
 rw[hρ] at r2 r3;refine hn y w' r2 (r3.st.wr.agree fun c M hc=>?_);have hcn:c<n':=by
  rcases Nat.lt_or_ge c n' with h3|h3
  ·exact h3
  ·rw[hfr c h3] at hc;cases hc
 rw[e3,T.gsE,T.get_upd,T.get_upd];split
 ·rfl
 ·rw[onlyB_get,if_pos hcn]
end
theorem farAll_spec{E:Env}{b m:Nat}:∀ {os:List Oper}{log:List Ent}{i:Nat},farAll E b m i os log=true→∀ p o x,os[p]? =some o→log[p]? =some x→Nat.testBit m (i+p)=true∨(o.guard=none∧farOK E b o x=true)
 | [],_,_,_,p,o,x,ho,_=>by simp at ho
 | _ :: _,[],_,_,p,o,x,_,hx=>by simp at hx
 | o' :: os,x' :: log,i,h,0,o,x,ho,hx=>by simp at ho hx;subst ho;subst hx;simp only[farAll,baT,Bool.or_eq_true,Option.isNone_iff_eq_none] at h;exact h.1
 | o' :: os,x' :: log,i,h,p+1,o,x,ho,hx=>by
   simp only[farAll,baT] at h;have:=farAll_spec h.2 p o x (by simpa using ho) (by simpa using hx)
   rwa [show i+1+p=i+(p+1) by omega] at this
theorem laterOK1_spec{ops:List Oper}{o:Oper}:∀ {as:List Oper}{m i:Nat},regL.laterOK1 ops o as m i=true→∀ (p:Nat)(b:Oper),as[p]? =some b→Nat.testBit m (i+p)=true∨clash ops b o=false
 | [],_,_,_,p,b,hb=>by simp at hb
 | a :: as,m,i,h,0,b,hb=>by simp at hb;subst hb;simp only[regL.laterOK1,baT,Bool.or_eq_true,Bool.not_eq_true'] at h;exact h.1
 | a :: as,m,i,h,p+1,b,hb=>by
   simp only[regL.laterOK1,baT] at h;have:=laterOK1_spec h.2 p b (by simpa using hb)
   rwa [show i+1+p=i+(p+1) by omega] at this
theorem cutLast_spec{α:Type}:∀ {l os:List α}{o:α},cutLast l=some (os,o)→l=os ++ [o]
 | [],_,_,h=>by simp[cutLast] at h
 | [a],_,_,h=>by simp[cutLast] at h;obtain⟨rfl,rfl⟩:=h;rfl
 | a :: b :: l,os,o,h=>by
   unfold cutLast at h;split at h
   ·rename_i m c hm;cases h;rw[cutLast_spec hm];rfl
   ·cases h
structure Late(E:Env)(all os:List Oper)(log:List Ent)(t':T Value)(h':T Blk)(o:Oper)(ty:TypeId)(ax xx:Operand)(p v:Value)(B:Nat)(h2:T Blk):Prop where
 op:o.op= .store ty ax xx
 hg:o.guard=none
 hd:o.dst=none
 edges:∀ e∈o.after.toList,bindsA e=true→e.on<os.length
 later:∀ (j:Nat) (b:Oper),os[j]? =some b→Nat.testBit (anc1 (ancs os []) o.after.toList) j=true∨clash all b o=false
 evp:evA E t' ax=some p
 evv:evA E t' xx=some v
 hB:blockOf p=some B
 st:storeA E h' ty p v=some h2
 far:∀ (j:Nat) (b:Oper) (x:Ent),os[j]? =some b→log[j]? =some x→Nat.testBit (anc1 (ancs os []) o.after.toList) j=true∨(b.guard=none∧farOK E B b x=true)
section
variable {E:Env}{P:Program}{ih:Run}{many:Nat}{G:Gh}{ρ0:Ren}{h0:T Blk}{n0:Nat}{t0:T Value}{all os:List Oper}{log:List Ent}{t':T Value}{h':T Blk}{n':Nat}
variable {D:Nat→Prop}{p:Nat}{ρ:Ren}{hh:T Blk}{a:Act}{w:World}{ds:List Deferred}
variable {o:Oper}{ty:TypeId}{ax xx:Operand}{pv vv:Value}{B:Nat}{h2:T Blk}
theorem late_anc(X:Ctx E P ih many G ρ0 h0 n0 t0 all os log t' h' n')(Z:Late E all os log t' h' o ty ax xx pv vv B h2)(hD:∀ (j:Nat)(o:Oper),os[j]? =some o→D j→∀ e∈o.after.toList,bindsA e=true→D e.on)
 (hr:∀ e∈o.after.toList,bindsA e=true→D e.on):∀ j,Nat.testBit (anc1 (ancs os []) o.after.toList) j=true→D j:=by
 intro j hj;obtain⟨e,he,hb,hj⟩:=anc1_bit.1 hj;rcases hj with rfl|hj
 ·exact hr e he hb
 ·have hlt:=Z.edges e he hb;have ho':os[e.on]? =some os[e.on]:=ggE hlt;exact(anc_done (regOK_spec X.hR).1 hD e.on _ ho' (hD e.on _ ho' (hr e he hb)) j hj).1
theorem opN_store{h:T Blk}{n:Nat}{t:T Value}{b:Oper}{ty:TypeId}{ax xx:Operand}(hop:b.op= .store ty ax xx){v:Value}{h1:T Blk}{n1:Nat}(hx:opN E ih t h n b= .inl (v,h1,n1)) :
 ∃ p u,evA E t ax=some p∧evA E t xx=some u∧storeA E h ty p u=some h1∧n1=n∧v=undefV:=by
 unfold opN opA at hx;rw[hop] at hx;simp only at hx;cases e1:evA E t ax with
 | none=>simp[e1] at hx
 | some p =>
   cases e2:evA E t xx with
   | none=>simp[e1,e2] at hx
   | some u =>
     cases e3:storeA E h ty p u with
     | none=>simp[e1,e2,e3] at hx
     | some h' =>
       simp[e1,e2,e3] at hx;obtain⟨rfl,rfl,rfl⟩:=hx;exact⟨p,u,rfl,rfl,e3,rfl,rfl⟩
theorem farOK_cases{b:Oper}{x:Ent}(hf:farOK E B b x=true):kindOf b= .pure∨kindOf b= .alloc∨(∃ ty a p c,b.op= .load ty a∧kindOf b= .read∧evA E x.t a=some p∧blockOf p=some c∧c≠B) ∨
 ∃ ty a u p c,b.op= .store ty a u∧kindOf b= .loud∧evA E x.t a=some p∧blockOf p=some c∧c≠B:=by
 unfold farOK at hf;split at hf
 ·rename_i hk;exact .inl hk
 ·rename_i hk;exact .inr (.inl hk)
 ·split at hf
  ·rename_i ty1 a1 hop;split at hf
   ·rename_i p hp;split at hf
    ·rename_i c hc;refine .inr (.inr (.inl ⟨ty1,a1,p,c,hop,by simp[kindOf,hop],hp,hc,fun e=>?_⟩));subst e;simp[Nat.beq_refl] at hf
    ·cases hf
   ·cases hf
  ·rename_i ty1 a1 u hop;split at hf
   ·rename_i p hp;split at hf
    ·rename_i c hc;refine .inr (.inr (.inr ⟨ty1,a1,u,p,c,hop,by simp[kindOf,hop],hp,hc,fun e=>?_⟩));subst e;simp[Nat.beq_refl] at hf
    ·cases hf
   ·cases hf
  ·cases hf
theorem far_step(X:Ctx E P ih many G ρ0 h0 n0 t0 all os log t' h' n'){i:Nat}{b:Oper}{x:Ent}(hi:os[i]? =some b)(hx:log[i]? =some x)(hf:isLoud b=true→farOK E B b x=true)(hlt:B<nAt log n' i) :
 (hAt log h' (i+1)).get B=(hAt log h' i).get B:=by
 obtain⟨x',e1,_,c1,c2,_,hxt,_,_⟩:=chain_at X.hc i b hi;rw[hx] at e1;cases e1;cases hl:isLoud b with
 | false =>
   have hq:Quiet os i (i+1):=fun j o' h1 h2 ho'=>by
    have:j=i:=by omega
    subst this;rw[hi] at ho';cases ho';exact hl
   exact quiet_old X.hc X.hM (Nat.le_succ i) (gsI hi).1 hq hlt
 | true =>
   cases hd:x.did with
   | false=>rw[(c2 hd).2.1]
   | true =>
     obtain⟨d1,_⟩:=c1 hd;rcases farOK_cases (hf hl) with hk|hk|⟨_,_,_,_,_,hk,_⟩|⟨ty1,a1,u,p1,c,hop,_,hp1,hc1,hne⟩
     ·simp[isLoud,hk] at hl
     ·simp[isLoud,hk] at hl
     ·simp[isLoud,hk] at hl
     ·obtain⟨p2,u2,q1,q2,q3,_⟩:=opN_store hop d1;rw[hxt,q1] at hp1;cases hp1;obtain⟨b',off,cs',r1,_,r3,_⟩:=storeA_spec q3;subst r1;have:b'=c:=by simpa [blockOf] using hc1
      subst this;rw[r3,T.gnE _ _ (Ne.symm hne)]
theorem late_const(X:Ctx E P ih many G ρ0 h0 n0 t0 all os log t' h' n'){i:Nat}:∀ (m:Nat),i+m≤os.length→(∀ j b x,i≤j→os[j]? =some b→log[j]? =some x→isLoud b=true→farOK E B b x=true)→B<nAt log n' i →
 (hAt log h' (i+m)).get B=(hAt log h' i).get B
 | 0,_,_,_=>rfl
 | m+1,hm,hf,hb=>by
   have hlt:i+m<os.length:=by omega
   obtain⟨x,hx,_⟩:=chain_at X.hc (i+m) os[i+m] (ggE hlt);rw[show i+(m+1)=i+m+1 by omega,far_step X (ggE hlt) hx (hf _ _ _ (by omega) (ggE hlt) hx) (Nat.lt_of_lt_of_le hb (X.hM.le m))];exact late_const X m (by omega) hf hb
theorem ends(X:Ctx E P ih many G ρ0 h0 n0 t0 all os log t' h' n'):tAt log t' os.length=t'∧hAt log h' os.length=h'∧nAt log n' os.length=n':=by
 have hlog:=chain_len X.hc;have hnone:log[os.length]? =none:=by rw[List.getElem?_eq_none_iff];omega
 refine⟨?_,?_,?_⟩
 ·unfold tAt;rw[hnone]
 ·unfold hAt;rw[hnone]
 ·unfold nAt;rw[hnone]
theorem core_fr(X:Ctx E P ih many G ρ0 h0 n0 t0 all os log t' h' n')(C:Core G ρ0 n0 os log h' n' D p ρ hh):∀ b,n'≤b→ρ b=none:=by
 intro b hb;cases hbv:ρ b with
 | none=>rfl
 | some L =>
   have h1:=X.hM.upto C.ple;rw[(ends X).2.2] at h1;obtain⟨j,q1,_,_,q4,_⟩:=C.hi b L hbv (by omega);have h2:=(al_step X.hc q1).1;have h3:=X.hM.upto (show j+1≤os.length from al_len q1);rw[(ends X).2.2] at h3;omega
theorem late_agree(X:Ctx E P ih many G ρ0 h0 n0 t0 all os log t' h' n')(Z:Late E all os log t' h' o ty ax xx pv vv B h2)(C:Core G ρ0 n0 os log h' n' D p ρ hh)(hanc:∀ j,Nat.testBit (anc1 (ancs os []) o.after.toList) j=true→D j)
 {L:Pl} (hL:ρ B=some L):hh.get B=h'.get B:=by
 have far:∀ i,p≤i→∀ j b x,i≤j→os[j]? =some b→log[j]? =some x→isLoud b=true→farOK E B b x=true:=by
  intro i hpi j b x hij hb hx hl;rcases Z.far j b x hb hx with h1|h1
  ·have:=(C.loud j b hb hl).1 (hanc j h1);omega
  ·exact h1.2
 have hN:=(ends X).2.1;rcases Nat.lt_or_ge B (nAt log n' p) with h1|h1
 ·rw[C.lo B L hL h1];have:=late_const X (i:=p) (os.length-p) (by have:=C.ple;omega) (far p (nlR _)) h1;rw[show p+(os.length-p)=os.length by have:=C.ple;omega,hN] at this;exact this.symm
 ·obtain⟨j,q1,q2,_,q4,q5⟩:=C.hi B L hL h1;have hj:=al_len q1;have h3:=(al_step X.hc q1).1;have:=late_const X (i:=j+1) (os.length-(j+1)) (by omega) (far (j+1) (by omega)) (by omega);rw[show j+1+(os.length-(j+1))=os.length by omega,hN] at this;rw[q5,this]
def Inv2(many:Nat)(G:Gh)(ρ0:Ren)(n0:Nat)(os:List Oper)(log:List Ent)(t':T Value)(h':T Blk)(n':Nat)(ds:List Deferred)(B:Nat)(h2:T Blk)(D:Nat→Prop)(a:Act)(w:World):Prop :=
 ∃ (p:Nat) (ρ:Ren) (hh:T Blk),Core G ρ0 n0 os log h' n' D p ρ hh∧WRel G ρ (hh.upd (h2.get B) B) w∧(p=0∨∃ q o,p=q+1∧os[q]? =some o∧isLoud o=true)∧TI os log t' ρ D a.tmps∧a.tmps.size=many∧a.defers=ds∧∃ L,ρ B=some L
theorem late_step(X:Ctx E P ih many G ρ0 h0 n0 t0 all os log t' h' n')(Z:Late E all os log t' h' o ty ax xx pv vv B h2)(hD:∀ (j:Nat)(o:Oper),os[j]? =some o→D j→∀ e∈o.after.toList,bindsA e=true→D e.on)
 (hr:∀ e∈o.after.toList,bindsA e=true→D e.on) (I:Inv many G ρ0 n0 os log t' h' n' ds D a w) {rd':Option Nat} {next:Act→World→Prop} {Q:Exit→Act→World→Prop}
 (hn:∀ a' w',Inv2 many G ρ0 n0 os log t' h' n' ds B h2 D a' w'→next a' w') {ops:Array Oper} (hops:ops[os.length]? =some o):wpOpIn (Fr rd') 0 P ops Q os.length next a w:=by
 obtain⟨p,ρ,hh,C,HW,hp,hT,hsz,hds⟩:=I;have hanc:=late_anc X Z hD hr;unfold wpOpIn;rw[hops];have hw:Region.wanted o (yielded ops a.tmps)=true:=by unfold Region.wanted;rw[Z.hg]
 simp only[hw,if_true];have ht:∀ k∈opTmps o,∀ x,t'.get k=some x→∃ y,a.tmps[k]? =some y∧VRel ρ x y:=by
  intro k hk x hx;refine hT k os.length ⟨nlR _,?_,fun j h1 ⟨_,h2,_⟩=>by have:=(gsI h2).1;omega⟩ x (by rw[(ends X).1];exact hx);rintro j _ ⟨b,hb,hbk⟩;rcases Z.later j b hb with h3|h3
  ·exact hanc j h3
  ·have:clash all b o=true:=by
    unfold clash;rw[hbk,Z.hd];exact memN_iff.2 (List.mem_append_left _ hk)
   rw[this] at h3;cases h3
 have hTR:TR ρ (only t' (opTmps o)) a.tmps:=by intro k x hx;obtain⟨e1,e2⟩:=only_some _ hx;exact ht k e1 x e2
 have hev:VRel ρ pv (a.eval ax):=by
  refine ev_sim HW X.hg hTR (x:=ax) ?_;rw[←Z.evp];refine evA_congr fun k e=>only_get t' (mem_opTmps ?_)
  rw[Z.op,← e];simp[Op.operands]
 obtain⟨L,hL⟩:∃ L,ρ B=some L:=by
  generalize a.eval ax=q at hev;have:=Z.hB;unfold blockOf at this;split at this
  ·cases this;cases hev with
   | ptr hL=>exact⟨_,hL⟩
  ·cases this
 refine store_any X.K X.hg X.HC X.HR HW (core_fr X C) Z.op ht Z.evp Z.evv Z.hB hL Z.st (late_agree X Z C hanc hL) fun y w' _ hw'=>hn _ _ ?_
 rw[Z.hd,put_none];exact⟨p,ρ,hh,C,hw',hp,hT,hsz,hds,L,hL⟩
theorem far_any(X:Ctx E P ih many G ρ0 h0 n0 t0 all os log t' h' n')(Z:Late E all os log t' h' o ty ax xx pv vv B h2)(hanc:∀ j,Nat.testBit (anc1 (ancs os []) o.after.toList) j=true→D j)
 (hD:∀ (j:Nat) (o:Oper),os[j]? =some o→D j→∀ e∈o.after.toList,bindsA e=true→D e.on) {i:Nat} {b:Oper} (hi:os[i]? =some b) (hni:¬ D i)
 (hr:∀ e∈b.after.toList,bindsA e=true→D e.on) (I:Inv2 many G ρ0 n0 os log t' h' n' ds B h2 D a w) {rd':Option Nat} {next:Act→World→Prop} {Q:Exit→Act→World→Prop}
 (hn:∀ a' w',Inv2 many G ρ0 n0 os log t' h' n' ds B h2 (fun j=>D j∨j=i) a' w'→next a' w') {ops:Array Oper} (hops:ops.toList=all):wpOpIn (Fr rd') 0 P ops Q i next a w:=by
 obtain⟨p,ρ,hh,C,HW,hp,hT,hsz,hds,L,hL⟩:=I;have hlen:=(gsI hi).1;have hio:ops[i]? =some b:=by have h1:=X.pre i hlen;rw[hi,← hops] at h1;simpa using h1
 obtain⟨x,hx,hw,c1,c2,hput,hxt,_,_⟩:=chain_at X.hc i b hi;obtain⟨hgd,hfar⟩:=(Z.far i b x hi hx).resolve_left fun h=>hni (hanc i h)
 have hd:x.did=true:=by unfold wantedA at hw;rw[hgd] at hw;exact(Option.some.inj hw).symm
 obtain⟨d1,d2⟩:=c1 hd;have hopt:∀ k∈opTmps b,∀ v,(tAt log t' i).get k=some v→∃ y,a.tmps[k]? =some y∧VRel ρ v y:=fun k hk v hv=>hT k i (looks_at X.hR hD hi hni hr (List.mem_append_left _ hk)) v hv
 have hTR:TR ρ (only (tAt log t' i) (opTmps b)) a.tmps:=by intro k x hx;obtain⟨e1,e2⟩:=only_some _ hx;exact hopt k e1 x e2
 have put:∀ {p2:Nat} {ρ2:Ren} {hh2:T Blk} {y:Value} {w2:World},Ext ρ ρ2→VRel ρ2 x.v y→Core G ρ0 n0 os log h' n' (fun j=>D j∨j=i) p2 ρ2 hh2→WRel G ρ2 (hh2.upd (h2.get B) B) w2 →
  (p2=0∨∃ q o,p2=q+1∧os[q]? =some o∧isLoud o=true)→next (a.put b.dst y) w2:=by
  intro p2 ρ2 hh2 y w2 he hv C' hw2 hp';exact hn _ _ ⟨p2,ρ2,hh2,C',hw2,hp',TI_put X.hc X.hR hD hi hni hsz (hT.mono he) hx hv,by rw[put_size];exact hsz,by rw[put_defers];exact hds,L,he _ _ hL⟩
 have hn0:n0≤nAt log n' 0:=X.n0_le 0;have hgl:∀ g,g<G.ng→g<nAt log n' i:=fun g hg=>Nat.lt_of_lt_of_le (X.hgl g hg) (X.n0_le i)
 unfold wpOpIn;rw[hio];have hwant:Region.wanted b (yielded ops a.tmps)=true:=by unfold Region.wanted;rw[hgd]
 simp only[hwant,if_true];rcases farOK_cases hfar with hk|hk|⟨ty1,a1,p1,c,hop,hk,hp1,hc1,hne⟩|⟨ty1,a1,u1,p1,c,hop,hk,hp1,hc1,hne⟩
 ·have hl:isLoud b=false:=by simp[isLoud,hk]
  have hnA:¬ Al os log i:=by rintro⟨o',_,ho',_,hk',_⟩;rw[hi] at ho';cases ho';rw[hk] at hk';cases hk'
  obtain⟨y,w2,r1,r2,r3⟩:=pure_any X.K X.hg HW hgl d2 hopt hk (quiet_opN hl d1);exact val_wpIn (quiet_opN hl d1) r1 (put (Ext.refl _) r2 (C.quiet hi hl hnA) r3 hp)
 ·have hl:isLoud b=false:=by simp[isLoud,hk]
  have hA:Al os log i:=⟨b,x,hi,hx,hk,hd⟩
  have hu:=C.und i hA hni;obtain⟨q1,k,M,y,w2,q2,q3,q4,q5,q6,q7⟩:=alloc_any X.K X.hg HW hu hgl d2 hopt hk (quiet_opN hl d1);have hBi:B≠nAt log n' i:=fun e=>by rw[←e,hL] at hu;cases hu
  refine val_wpIn (quiet_opN hl d1) q5 (put (Ext.add M hu) q6 (C.lay X.hc X.hM hn0 hA hni (Nat.le_trans HW.size q3) (by rw[q4,T.gsE])) (q7.agree fun c N _=>?_) hp);by_cases h3:c=B
  ·subst h3;rw[T.gnE _ _ hBi,T.gsE,T.gsE]
  ·by_cases h4:c=nAt log n' i
   ·subst h4;rw[T.gsE,T.gnE _ _ h3,T.gsE]
   ·rw[T.gnE _ _ h4,T.gnE _ _ h3,T.gnE _ _ h3,T.gnE _ _ h4]
 ·have hl:isLoud b=false:=by simp[isLoud,hk]
  have hnA:¬ Al os log i:=by rintro⟨o',_,ho',_,hk',_⟩;rw[hi] at ho';cases ho';rw[hk] at hk';cases hk'
  obtain⟨hq,nq,h3,n3,q1,q2⟩:=read_heap_at X hD C hp hi hk hni hr hx hd hxt (quiet_opN hl d1);rw[hxt] at hp1;have q3:opA E (tAt log t' i) (hq.upd (h2.get B) B) nq b= .val x.v (hq.upd (h2.get B) B) nq:=by unfold opA at q2 ⊢;rw[hop] at q2 ⊢;simp only[hp1] at q2 ⊢;rw[loadA_congr hc1 (h:=hq) (T.gnE _ _ hne),(valq q2).1];rfl
  obtain⟨y,r1,r2⟩:=read_any X.K X.hg HW (h:=hq.upd (h2.get B) B) (fun b' L' k e1 e2=>by
   by_cases h4:b'=B
   ·subst h4;rw[T.gsE] at e2 ⊢;exact e2
   ·rw[T.gnE _ _ h4] at e2 ⊢;exact q1 b' L' k e1 e2) hopt hk q3
  exact val_wpIn (quiet_opN hl d1) r1 (put (Ext.refl _) r2 (C.quiet hi hl hnA) HW hp)
 ·have hl:isLoud b=true:=by simp[isLoud,hk]
  obtain⟨h3,h4⟩:=at_loud X.hR hD C hi hl hni hr;have C':=C.shift X.hc X.hM h3 (by omega) h4;obtain⟨p2,u2,e1,e2,e3,e4,e5⟩:=opN_store hop d1;rw[hxt,e1] at hp1;cases hp1;obtain⟨b',off,cs',r1,⟨cs,r2⟩,r3,r4⟩:=storeA_spec e3;subst r1;have hbc:b'=c:=by simpa [blockOf] using hc1
  subst hbc;have hev:VRel ρ (.pointer (some ⟨b',off,none⟩)) (a.eval a1):=by
   refine ev_sim HW X.hg hTR (x:=a1) ?_;rw[←e1];refine evA_congr fun k e=>only_get _ (mem_opTmps ?_)
   rw[hop,← e];simp[Op.operands]
  obtain⟨M,hM⟩:∃ M,ρ b'=some M:=by
   generalize a.eval a1=q at hev;cases hev with
   | ptr hM=>exact⟨_,hM⟩
  have hlt:b'<nAt log n' i:=by
   rcases Nat.lt_or_ge b' (nAt log n' i) with h5|h5
   ·exact h5
   ·rw[X.none h5] at r2;cases r2
  have hids:∀ c∈((List.range os.length).map (nAt log n')).filter (fun b=>decide (nAt log n' (i+1)≤b)),nAt log n' (i+1)≤c:=by intro c hc;simpa using (List.mem_filter.1 hc).2
  have hall:∀ c N,nAt log n' (i+1)≤c→ρ c=some N→c∈((List.range os.length).map (nAt log n')).filter (fun b=>decide (nAt log n' (i+1)≤b)):=by intro c N f1 f2;obtain⟨j,q1,_,_,q4,_⟩:=C'.hi c N f2 (Nat.le_trans (X.hM i) f1);exact List.mem_filter.2 ⟨List.mem_map.2 ⟨j,List.mem_range.2 (al_len q1),q4.symm⟩,by simpa using f1⟩
  have hne2:∀ c,ρ c=none→c≠b':=fun c hc e=>by rw[e,hM] at hc;cases hc
  refine store_any X.K X.hg X.HC X.HR HW (core_fr X C) hop hopt e1 e2 hc1 hM e3 (by rw[T.gnE _ _ hne,C'.lo b' M hM hlt]) fun y w' q1 q2=>?_
  refine put (p2:=i+1) (hh2:=merge (hAt log h' (i+1)) hh (((List.range os.length).map (nAt log n')).filter (fun b=>decide (nAt log n' (i+1)≤b)))) (Ext.refl _) (by rw[e5];exact q1)
   (C'.act X.hc X.hM hn0 hi hl hids hall (Ext.refl _) (fun _ _=>rfl) (fun c _ hc=>⟨hc,by rw[r3,T.gnE _ _ (hne2 c hc)]⟩) (fun c N f1 f2=>by rw[f1] at f2;cases f2) (fun c _ hc=>?_) (fun c k f1 f2=>by omega)) (q2.agree fun c N hc=>?_) (.inr ⟨i,b,rfl,hi,hl⟩)
  ·rw[r3,T.get_upd];split
   ·rename_i h5;rw[h5,r2] at hc;cases hc
   ·exact hc
  ·by_cases h5:c=B
   ·subst h5;rw[T.gnE _ _ (Ne.symm hne),T.gsE,T.gsE]
   ·rw[T.gnE (n:=B) _ _ h5];by_cases h6:c=b'
    ·subst h6;rw[T.gsE,merge_out fun hm=>by have:=hids _ hm;omega]
    ·rw[T.gnE _ _ h6,T.gnE _ _ h5];rcases Nat.lt_or_ge c (nAt log n' (i+1)) with h7|h7
     ·rw[merge_out fun hm=>by have:=hids _ hm;omega,r3,T.gnE _ _ h6];exact C'.lo c N hc (by omega)
     ·rw[merge_in (hall c N h7 hc)]
theorem inv2_end(X:Ctx E P ih many G ρ0 h0 n0 t0 all os log t' h' n')(Z:Late E all os log t' h' o ty ax xx pv vv B h2)(hAll:∀ j,j<os.length→D j)(I:Inv2 many G ρ0 n0 os log t' h' n' ds B h2 D a w) :
 ∃ ρ,TR ρ t' a.tmps∧a.tmps.size=many∧a.defers=ds∧Stp G ρ0 h0 n0 ρ h2 n' w:=by
 obtain⟨p,ρ,hh,C,HW,hp,hT,hsz,hds,L,hL⟩:=I;obtain⟨et,eh,en⟩:=ends X;have hQ:Quiet os p os.length:=by
  intro j o h1 h2 ho;cases hl:isLoud o with
  | false=>rfl
  | true=>have:=(C.loud j o ho hl).1 (hAll j h2);omega
 have C':=C.shift X.hc X.hM C.ple (nlR _) hQ;obtain⟨ρc,wc,S⟩:=X.hW os.length;rw[eh,en] at S;have fr:=core_fr X C;obtain⟨b',off,cs',r1,⟨cs,r2⟩,r3,r4⟩:=storeA_spec Z.st;have hb':b'=B:=by have:=Z.hB;rw[r1] at this;simpa [blockOf] using this
 subst hb';have oth:∀ c,c≠b'→h2.get c=h'.get c:=fun c hc=>by rw[r3,T.gnE _ _ hc]
 have hbn:b'<n':=by
  rcases Nat.lt_or_ge b' n' with h1|h1
  ·exact h1
  ·rw[fr b' h1] at hL;cases hL
 refine⟨ρ,?_,hsz,hds,⟨⟨HW.agree ?_,fr,?_⟩,C.ext,C.old,C.own,?_,?_,?_,S.le⟩⟩
 ·intro k v hv;exact hT k os.length ⟨nlR _,fun j h1 _=>hAll j h1,fun j h1 ⟨o,h2,_⟩=>by have:=(gsI h2).1;omega⟩ v (by rw[et];exact hv)
 ·intro c N hc;by_cases h1:c=b'
  ·subst h1;rw[T.gsE]
  ·rw[T.gnE _ _ h1,oth c h1];rcases Nat.lt_or_ge c n' with h3|h3
   ·rw[C'.lo c N hc (by rw[en];exact h3),eh]
   ·rw[fr c h3] at hc;cases hc
 ·intro c hc;rw[oth c (by omega)];exact S.st.hb c hc
 ·intro c h1 h3;have:=S.dead c h1 h3;rw[oth c (fun e=>by rw[e,r2] at this;cases this)];exact this
 ·intro c k h1 h3;by_cases h4:c=b'
  ·subst h4;exact⟨L,hL⟩
  ·rw[oth c h4] at h3;have hb:c<n':=by
    rcases Nat.lt_or_ge c n' with h5|h5
    ·exact h5
    ·rw[S.st.hb c h5] at h3;cases h3
   rcases C'.tot c k h1 (by rw[en];exact hb) (by rw[eh];exact h3) with h5|⟨j,h5,h6⟩
   ·exact h5
   ·obtain⟨M,hM⟩:=C.don j h5 (hAll j (al_len h5));exact⟨M,by rw[h6];exact hM⟩
 ·intro c h1 h3;rw[oth c (fun e=>by rw[←e,C.old c h1 h3] at hL;cases hL)];exact S.afr c h1 h3
end
theorem done_all{ops:Array Oper}(hE:∀ (i:Nat)(o:Oper),ops[i]? =some o→∀ e∈o.after.toList,bindsA e=true→e.on<i){listed:Array Bool}(hs:listed.size=ops.size)(hr:Region.ready .any ops listed=[]) :
 ∀ j,j<ops.size→listed[j]? =some true:=by
 intro j
 induction j using Nat.strongRecOn with
 | _ j ihj =>
   intro hj;cases hv:listed[j]? with
   | none=>rw[Array.getElem?_eq_none_iff] at hv;omega
   | some b =>
     cases b with
     | true=>rfl
     | false =>
       exfalso;have ho:ops[j]? =some ops[j]:=Array.getElem?_eq_getElem hj;have:j∈Region.ready .any ops listed:=by rw[mem_ready];refine⟨by simp[Array.getD_eq_getD_getElem?,hv],ops[j],ho,fun e he hb=>?_⟩;have hlt:=hE j _ ho e (by simpa using he) (by rw[bindsA_eq];exact hb);have:=ihj e.on hlt (by omega);simp[Array.getD_eq_getD_getElem?,this]
       rw[hr] at this;cases this
section
variable {E:Env}{P:Program}{ih:Run}{many:Nat}{G:Gh}{ρ0:Ren}{h0:T Blk}{n0:Nat}{t0:T Value}{all os:List Oper}{log:List Ent}{t':T Value}{h':T Blk}{n':Nat}
variable {a:Act}{w:World}{ds:List Deferred}
variable {o:Oper}{ty:TypeId}{ax xx:Operand}{pv vv:Value}{B:Nat}{h2:T Blk}
theorem late_all(X:Ctx E P ih many G ρ0 h0 n0 t0 all os log t' h' n')(Z:Late E all os log t' h' o ty ax xx pv vv B h2){ops:Array Oper}(hops:ops.toList=all)(hcut:all=os ++ [o]){rd':Option Nat}{Q:Exit→Act→World→Prop}
 (hQ:∀ a w,(∃ ρ,TR ρ t' a.tmps∧a.tmps.size=many∧a.defers=ds∧Stp G ρ0 h0 n0 ρ h2 n' w)→Q .normal a w) :
 ∀ (fuel:Nat) (listed:Array Bool) (a:Act) (w:World),listed.size=ops.size→(∀ (j:Nat) (o:Oper),os[j]? =some o→listed[j]? =some true→∀ e∈o.after.toList,bindsA e=true→listed[e.on]? =some true) →
   listed.toList.count false≤fuel →
   ((listed[os.length]? =some false∧Inv many G ρ0 n0 os log t' h' n' ds (fun j=>j<os.length∧listed[j]? =some true) a w) ∨
    (listed[os.length]? =some true∧Inv2 many G ρ0 n0 os log t' h' n' ds B h2 (fun j=>j<os.length∧listed[j]? =some true) a w∧∀ j,Nat.testBit (anc1 (ancs os []) o.after.toList) j=true→j<os.length∧listed[j]? =some true)) →
   wpAnyIn (Fr rd') 0 P .any ops Q fuel listed a w:=by
 have hsz:ops.size=os.length+1:=by rw[←Array.length_toList,hops,hcut];simp
 have hat:∀ j,ops[j]? =(os ++ [o])[j]? :=fun j=>by rw[←Array.getElem?_toList,hops,hcut]
 have hlast:ops[os.length]? =some o:=by rw[hat];simp
 have hE':=(regOK_spec X.hR).1;have hE:∀ (i:Nat) (b:Oper),ops[i]? =some b→∀ e∈b.after.toList,bindsA e=true→e.on<i:=by
  intro i b hb e he hbd;rcases Nat.lt_or_ge i os.length with h1|h1
  ·rw[hat,List.getElem?_append_left h1] at hb;exact hE' i b hb e he hbd
  ·have h2:=(Array.getElem?_eq_some_iff.1 hb).1;have:i=os.length:=by omega
   subst this;rw[hlast] at hb;cases hb;exact Z.edges e he hbd
 have fin:∀ {listed:Array Bool} {a:Act} {w:World},listed.size=ops.size→Region.ready .any ops listed=[] →
  ((listed[os.length]? =some false∧Inv many G ρ0 n0 os log t' h' n' ds (fun j=>j<os.length∧listed[j]? =some true) a w) ∨
   (listed[os.length]? =some true∧Inv2 many G ρ0 n0 os log t' h' n' ds B h2 (fun j=>j<os.length∧listed[j]? =some true) a w∧∀ j,Nat.testBit (anc1 (ancs os []) o.after.toList) j=true→j<os.length∧listed[j]? =some true))→Q .normal a w:=by
  intro listed a w hs hr hI;have hd:=done_all hE hs hr;rcases hI with⟨h1,_⟩|⟨_,I,_⟩
  ·rw[hd os.length (by omega)] at h1;cases h1
  ·exact hQ a w (inv2_end X Z (fun j hj=>⟨hj,hd j (by omega)⟩) I)
 intro fuel
 induction fuel with
 | zero =>
   intro listed a w hs hD hcnt hI;have hr:Region.ready .any ops listed=[]:=by
    rw[List.eq_nil_iff_forall_not_mem];intro j hj;obtain⟨h1,b,h2,_⟩:=mem_ready.1 hj;have hf:=listed_false h1;have:false∈listed.toList:=by rw[←Array.getElem?_toList] at hf;exact List.mem_of_getElem? hf
    have:=List.count_pos_iff.2 this;omega
   exact⟨hr,fin hs hr hI⟩
 | succ fuel ihf =>
   intro listed a w hs hD hcnt hI;refine⟨fun hr=>fin hs hr hI,fun i hmem=>?_⟩;obtain⟨h1,b,h2',h3⟩:=mem_ready.1 hmem;have hf:=listed_false h1;have hisz:i<listed.size:=(Array.getElem?_eq_some_iff.1 hf).1;have hdone:∀ ed∈b.after.toList,bindsA ed=true→listed[ed.on]? =some true:=fun ed he hb=>listed_true (h3 ed (by simpa using he) (by rw[←bindsA_eq];exact hb))
   have hnot:¬ listed[i]? =some true:=by rw[hf];simp
   have hD':∀ (j:Nat) (o:Oper),os[j]? =some o→(j<os.length∧listed[j]? =some true)→∀ e∈o.after.toList,bindsA e=true→(e.on<os.length∧listed[e.on]? =some true):=by intro j oj hj hDj e he hb;have:=hE' j oj hj e he hb;exact⟨by omega,hD j oj hj hDj.2 e he hb⟩
   have hclosed:∀ (j:Nat) (oj:Oper),os[j]? =some oj→(listed.setIfInBounds i true)[j]? =some true→∀ e∈oj.after.toList,bindsA e=true→(listed.setIfInBounds i true)[e.on]? =some true:=by
    intro j oj hj hDj e he hb;rw[listed_set hisz] at hDj ⊢;rcases hDj with h4|rfl
    ·exact .inl (hD j oj hj h4 e he hb)
    ·have hjl:=(gsI hj).1;rw[hat,List.getElem?_append_left hjl,hj] at h2';cases h2';exact .inl (hdone e he hb)
   rcases Nat.lt_or_ge i os.length with hi|hi
   ·have hib:os[i]? =some b:=by
     rw[hat,List.getElem?_append_left hi] at h2';exact h2'
    have hr:∀ e∈b.after.toList,bindsA e=true→(e.on<os.length∧listed[e.on]? =some true):=fun e he hb=>⟨by have:=hE' i b hib e he hb;omega,hdone e he hb⟩
    have hlst:(listed.setIfInBounds i true)[os.length]? =listed[os.length]? :=Array.getElem?_setIfInBounds_ne (by omega);have heq:(fun j=>j<os.length∧(listed.setIfInBounds i true)[j]? =some true)=fun j=>(j<os.length∧listed[j]? =some true)∨j=i:=by
     funext j
     rw[listed_set hisz j];refine propext ⟨fun⟨q1,q2⟩=>q2.imp (fun q=>⟨q1,q⟩) id,?_⟩;rintro (⟨q1,q2⟩|rfl)
     ·exact⟨q1,.inl q2⟩
     ·exact⟨hi,.inr rfl⟩
    rcases hI with⟨hl,I⟩|⟨hl,I,hanc⟩
    ·refine step_any X hD' hib (fun h=>hnot h.2) hr I (fun a' w' I'=>ihf (listed.setIfInBounds i true) a' w' (by simp[hs]) hclosed (count_step hf hcnt) (.inl ⟨by rw[hlst];exact hl,?_⟩)) hops;rw[heq];exact I'
    ·refine far_any X Z hanc hD' hib (fun h=>hnot h.2) hr I (fun a' w' I'=>ihf (listed.setIfInBounds i true) a' w' (by simp[hs]) hclosed (count_step hf hcnt) (.inr ⟨by rw[hlst];exact hl,?_,fun j hj=>?_⟩)) hops
     ·rw[heq];exact I'
     ·obtain⟨q1,q2⟩:=hanc j hj;exact⟨q1,(listed_set hisz j).2 (.inl q2)⟩
   ·have:i=os.length:=by omega
    subst this;rw[hlast] at h2';cases h2';have heq:(fun j=>j<os.length∧(listed.setIfInBounds os.length true)[j]? =some true)=fun j=>j<os.length∧listed[j]? =some true:=by
     funext j
     rw[listed_set hisz j];exact propext ⟨fun⟨q1,q2⟩=>⟨q1,q2.resolve_right (by omega)⟩,fun⟨q1,q2⟩=>⟨q1,.inl q2⟩⟩
    have hr:∀ e∈o.after.toList,bindsA e=true→(e.on<os.length∧listed[e.on]? =some true):=fun e he hb=>⟨Z.edges e he hb,hdone e he hb⟩
    rcases hI with⟨hl,I⟩|⟨hl,I,hanc⟩
    ·refine late_step X Z hD' hr I (fun a' w' I'=>ihf (listed.setIfInBounds os.length true) a' w' (by simp[hs]) hclosed (count_step hf hcnt) (.inr ⟨by simp[hisz],?_,fun j hj=>?_⟩)) hlast
     ·rw[heq];exact I'
     ·obtain⟨q1,q2⟩:=late_anc X Z hD' hr j hj;exact⟨q1,(listed_set hisz j).2 (.inl q2)⟩
    ·rw[hl] at hnot;exact absurd rfl hnot
end
theorem draw_late{E:Env}{P:Program}{ih:Run}(K:EOk E P)(hm:P.follows .mixedOrders=true)(hRun:RunOk E P ih){rd rd':Option Nat}{many:Nat}{ops:Array Oper}{os:List Oper}{o:Oper}(hcut:ops.toList=os ++ [o]){t:T Value}{d:List Deferred}
 {h:T Blk} {n:Nat} {e:Ex} {t':T Value} {d':List Deferred} {h':T Blk} {n':Nat} (hx:regL E ih rd many ops.toList os o t d h n= .ok e t' d' h' n') {G:Gh} {ρ:Ren} {a:Act} {w:World} {id:Nat} (hg:E.glob≤G.ng) (H:St G ρ h n w)
 (ha:AOk ρ t many d a):(Code.region id ops true).wpIn (Fr rd') 0 P (Post G ρ h n many e t' d' h' n') a w:=by
 have HC:=callF_sim K hRun;have HR:=roundF_sim (E:=E) (P:=P) hRun;unfold regL at hx;rw[biE] at hx;split at hx
 ·rename_i hc;simp only[baT,Option.isNone_iff_eq_none,List.all_eq_true,Bool.or_eq_true,Bool.not_eq_true',bltT] at hc;obtain⟨⟨⟨⟨hR,hgd⟩,hdst⟩,hlater⟩,hedge⟩:=hc;split at hx
  ·rename_i ty ax xx hop;split at hx
   ·rename_i log t1 h1 n1 hO;split at hx
    ·rename_i p v hp hv;split at hx
     ·rename_i B h2 hB hst;rw[biE] at hx;split at hx
      ·rename_i hfl;cases hx;simp only[baT] at hfl;obtain⟨hF,hfar⟩:=hfl;obtain⟨log',e1,hc⟩:=opsD_chain hO;rw[List.nil_append] at e1;subst e1;have hM:=chain_mono K hg HC HR hc H ha.tr ha.size;have X:Ctx E P ih many G ρ h n t ops.toList os log t' h1 n':=⟨K,hg,HC,HR,hc,fun j hj=>by rw[hcut,List.getElem?_append_left hj],hM,chain_W K hg HC HR hc H ha.tr ha.size,(fun g hg'=>by
        obtain⟨s,hs⟩:=H.wr.glob g hg';rcases Nat.lt_or_ge g n with h1|h1
        ·exact h1
        ·rw[H.fr g h1] at hs;cases hs),hR,hF⟩
       have Z:Late E ops.toList os log t' h1 o ty ax xx p v B h':=⟨hop,hgd,hdst,(fun e he hb=>by
        rcases hedge e he with h3|h3
        ·rw[h3] at hb;cases hb
        ·exact h3),fun j b hb=>by simpa using laterOK1_spec hlater j b hb,hp,hv,hB,hst,fun j b x hb hx=>by simpa using farAll_spec hfar j b x hb hx⟩
       have H':St G ρ h n {w with drawn:=w.drawn+1}:=H.same ⟨rfl,rfl⟩;have nf:∀ (j:Nat),¬ (Array.replicate ops.size false)[j]? =some true:=by intro j hl;rw[Array.getElem?_replicate] at hl;split at hl<;>cases hl
       have hsz:ops.size=os.length+1:=by rw[←Array.length_toList,hcut];simp
       refine wpIn_region_any hm (late_all X Z rfl hcut (ds:=a.defers) (fun a' w' hq=>?_) ops.size _ a _ (by simp) (fun j o _ hj=>absurd hj (nf j)) (by simp) (.inl ⟨by simp[hsz],inv_start X H' ha.tr ha.size fun j hj=>nf j hj.2⟩));obtain⟨ρ',q1,q2,q3,q4⟩:=hq;exact⟨trivial,ρ',⟨q1,q2,by rw[q3];exact ha.defs.mono q4.ext⟩,q4⟩
      ·cases hx
     ·cases hx
    ·cases hx
   ·cases hx
  ·cases hx
 ·cases hx
theorem draw_ok{E:Env}{P:Program}(K:EOk E P)(hm:P.follows .mixedOrders=true){ih:Run}(hRun:RunOk E P ih):DrawOk E P ih:=by
 intro rd many ops t d h n e t' d' h' n' hx G ρ rd' a w id hg H ha hrd;unfold regD at hx;rw[biE] at hx;split at hx
 ·rename_i hR;split at hx
  ·rename_i log t1 h1 n1 hO;rw[biE] at hx;split at hx
   ·rename_i hF;cases hx;exact draw_reg K hm hRun hR hO hF hg H ha
   ·cases hx
  ·cases hx
 ·split at hx
  ·rename_i os o hcut;split at hx
   ·exact draw_late K hm hRun (cutLast_spec hcut) hx hg H ha
   ·exact draw_map K hm hRun hx hg H ha hrd
  ·cases hx
theorem sx_sim{E:Env}{P:Program}(K:EOk E P)(hm:P.follows .mixedOrders=true)(f:Nat):RunOk E P (exec E f):=(exec_sim K (fun _ h=>draw_ok K hm h) f).1
end Go.Sx
