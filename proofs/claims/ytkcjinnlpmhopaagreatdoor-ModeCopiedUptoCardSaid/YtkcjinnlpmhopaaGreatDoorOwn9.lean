/- RvA: the seat's term.walk, for whatever is done at each node. -/
import Derived.Test.YtkcjinnlpmhopaaGreatDoorOwn8
import Derived.OpenShut
namespace Go.Sx
open Go.Proofs
set_option maxRecDepth 100000
set_option maxHeartbeats 2000000
noncomputable abbrev EV:Env:=EE []
abbrev nodeV(a x:Int)(s:ByteArray)(b:Option Addr)(l c:Nat):Value:= .agg ⟨[.int .i64 a,.int .i64 x,.string s,.slice b l c]⟩
structure TL(lim:Nat)(h:T Blk)(b:Option Addr)(len:Nat)(w:Nat→Nat):Prop where
 at_:∀ i,i<len→∃ d o cs,b=some ⟨d,o,none⟩∧cellsOf h d=some cs∧∃ a x s e l c,cs[o+i * 4]? =some (.int .i64 a)∧cs[o+i * 4+1]? =some (.int .i64 x)∧cs[o+i * 4+2]? =some (.string s)∧cs[o+i * 4+3]? =some (.slice e l c) ∧
  R64 a∧R64 x∧s.size≤16000000∧Az.D Az.Γ0 lim h (w i) (.sl 2) (.slice e l c)
def sumW(w:Nat→Nat):Nat→Nat
 | 0=>0
 | n+1=>sumW w n+(w n+1)
theorem sumW_le(w:Nat→Nat){i n:Nat}(h:i≤n):sumW w i≤sumW w n:=by
 induction n with
 | zero=>have:i=0:=by omega
         subst this;exact nlR _
 | succ n ih =>
   rcases Nat.lt_or_ge i (n+1) with h1|h1
   ·have:=ih (by omega);show _≤sumW w n+(w n+1);omega
   ·have:i=n+1:=by omega
    subst this;exact nlR _
theorem sumW_ge(w:Nat→Nat):∀ n,n≤sumW w n
 | 0=>Nat.zero_le _
 | n+1=>by have:=sumW_ge w n;show n+1≤sumW w n+(w n+1);omega
theorem sum4(f:Nat→Nat):∀ n,sumW (fun i=>f (i * 4+3)) n≤Az.sumF f (n * 4)+n
 | 0=>Nat.zero_le _
 | n+1=>by
   have:=sum4 f n;have e:Az.sumF f ((n+1) * 4)=Az.sumF f (n * 4)+f (n * 4)+f (n * 4+1)+f (n * 4+2)+f (n * 4+3):=by rw[show(n+1) * 4=n * 4+1+1+1+1 by omega];rfl
   rw[e];show sumW _ n+(f (n * 4+3)+1)≤_;omega
theorem D_slice{lim:Nat}{h:T Blk}{r q:Nat}{v:Value}(hd:Az.D Az.Γ0 lim h r (.sl q) v):∃ b l c,v= .slice b l c:=by
 cases hd with
 | nil=>exact⟨_,_,_,rfl⟩
 | sl=>exact⟨_,_,_,rfl⟩
theorem D_int{lim:Nat}{h:T Blk}{r:Nat}{v:Value}(hd:Az.D Az.Γ0 lim h r (.int .i64) v):∃ x,v= .int .i64 x∧R64 x:=by
 cases hd with
 | int h1 h2=>exact⟨_,rfl,h1,h2⟩
theorem D_str{lim:Nat}{h:T Blk}{r:Nat}{v:Value}(hd:Az.D Az.Γ0 lim h r .str v):∃ s,v= .string s∧s.size≤16000000:=by
 cases hd with
 | str h1=>exact⟨_,rfl,h1⟩
theorem TL.of_cells{lim:Nat}{h:T Blk}{d o len:Nat}{cs:List Value}(hc:cellsOf h d=some cs)(hl:o+len * 4≤cs.length)(w:Nat→Nat)(hr:∀ i x ct,i<len * 4→cs[o+i]? =some x→nth [Az.CT.int .i64,.int .i64,.str,.sl 2] (i % 4)=some ct→Az.D Az.Γ0 lim h (w i) ct x) :
 TL lim h (some ⟨d,o,none⟩) len (fun i=>w (i * 4+3)):=by
 refine⟨fun i hi=>⟨d,o,cs,rfl,hc,?_⟩⟩;have hb:i * 4+4≤len * 4:=by omega
 have get:∀ k,k<4→∃ x,cs[o+i * 4+k]? =some x:=fun k hk=>⟨_,ggE (by omega)⟩
 have typ:∀ k x ct,k<4→cs[o+i * 4+k]? =some x→nth [Az.CT.int .i64,.int .i64,.str,.sl 2] k=some ct→Az.D Az.Γ0 lim h (w (i * 4+k)) ct x:=fun k x ct hk hx hct=>by refine hr (i * 4+k) x ct (by omega) (by rw[←Nat.add_assoc];exact hx) ?_;rw[show(i * 4+k) % 4=k by omega];exact hct
 obtain⟨x0,h0⟩:=get 0 (by omega);obtain⟨x1,h1⟩:=get 1 (by omega);obtain⟨x2,h2⟩:=get 2 (by omega);obtain⟨x3,h3⟩:=get 3 (by omega);obtain⟨a,rfl,ha⟩:=D_int (typ 0 x0 _ (by omega) h0 rfl);obtain⟨x,rfl,hx⟩:=D_int (typ 1 x1 _ (by omega) h1 rfl);obtain⟨s,rfl,hs⟩:=D_str (typ 2 x2 _ (by omega) h2 rfl);have d3:=typ 3 x3 _ (by omega) h3 rfl;obtain⟨e,l,c,rfl⟩:=D_slice d3;exact⟨a,x,s,e,l,c,h0,h1,h2,h3,ha,hx,hs,d3⟩
theorem TL.of_D{lim:Nat}{h:T Blk}{r:Nat}{b:Option Addr}{len c:Nat}(hd:Az.D Az.Γ0 lim h r (.sl 2) (.slice b len c)):∃ w,TL lim h b len w∧sumW w len≤r∧(∀ d o s,b=some ⟨d,o,s⟩→∃ cs,h.get d=some (.ro cs))∧∀ i,i<len→w i<r:=by
 cases hd with
 | nil=>exact⟨fun _=>0,⟨fun i hi=>absurd hi (Nat.not_lt_zero i)⟩,Nat.zero_le _,fun _ _ _ e=>(by cases e),fun i hi=>absurd hi (Nat.not_lt_zero i)⟩
 | @sl _ _ d o _ _ cs cts f hb hq hp ho hs hl hc =>
   cases hq;have hs:Az.sumF f (len * 4)+len≤r:=hs;have ho:o+len * 4≤cs.length:=ho;refine⟨_,TL.of_cells (cells_ro hb) ho f fun i x ct hi hx hct=>hc i x ct hi (by rw[nth_eq];exact hx) hct,Nat.le_trans (sum4 f len) hs,fun _ _ _ e=>(by cases e;exact⟨_,hb⟩),fun i hi=>?_⟩;have:=Az.sumF_le f (show i * 4+3<len * 4 by omega);show f (i * 4+3)<r;omega
structure YOK(l K:Nat)(Y:Nat→(Nat→Prop)→T Blk→Nat→Prop):Prop where
 fresh:∀ {k O h n},Y k O h n→Fresh h n
 lt:∀ {k O h n},Y k O h n→∀ b,O b→b<n
 nro:∀ {k O h n},Y k O h n→∀ b cs,O b→h.get b≠some (.ro cs)
 frame:∀ {k O h n h' n'},Y k O h n→n≤n'→Fresh h' n'→(∀ b,O b→h'.get b=h.get b)→Y k O h' n'
 round:∀ {k O h n a x s b len c},Y k O h n→k<K→R64 x→∃ O' h' n',Rd EV l [nodeV a x s b len c] h n (.ret (.bool true) h' n')∧Y (k+1) O' h' n'∧n≤n'∧(∀ b,O' b→O b∨n≤b)∧∀ b,b<n→¬ O b→h'.get b=h.get b
def Moves(Y:Nat→(Nat→Prop)→T Blk→Nat→Prop)(O:Nat→Prop)(h:T Blk)(n k2:Nat)(O':Nat→Prop)(h':T Blk)(n':Nat):Prop :=
 (∃ k',k'≤k2∧Y k' O' h' n')∧n≤n'∧(∀ b,O' b→O b∨n≤b)∧∀ b,b<n→¬ O b→h'.get b=h.get b
theorem Moves.trans{Y:Nat→(Nat→Prop)→T Blk→Nat→Prop}{O O1 O2:Nat→Prop}{h h1 h2:T Blk}{n n1 n2 k1 k2:Nat}(a:Moves Y O h n k1 O1 h1 n1)(b:Moves Y O1 h1 n1 k2 O2 h2 n2):Moves Y O h n k2 O2 h2 n2:=by
 obtain⟨_,a2,a3,a4⟩:=a;obtain⟨b1,b2,b3,b4⟩:=b;refine⟨b1,by omega,fun c hc=>?_,fun c hc ho=>?_⟩
 ·rcases b3 c hc with h1|h1
  ·exact a3 c h1
  ·exact .inr (by omega)
 ·rw[b4 c (by omega) fun h1=>(a3 c h1).elim ho (by omega),a4 c hc ho]
theorem Moves.weak{Y:Nat→(Nat→Prop)→T Blk→Nat→Prop}{O O1:Nat→Prop}{h h1:T Blk}{n n1 k1 k2:Nat}(a:Moves Y O h n k1 O1 h1 n1)(hk:k1≤k2):Moves Y O h n k2 O1 h1 n1:=by obtain⟨⟨k',a0,a1⟩,a2⟩:=a;exact⟨⟨k',by omega,a1⟩,a2⟩
theorem TL.keep{lim:Nat}{h h':T Blk}{b:Option Addr}{len:Nat}{w:Nat→Nat}(t:TL lim h b len w)(hb:∀ d o s,b=some ⟨d,o,s⟩→h'.get d=h.get d)(hro:∀ b cs,h.get b=some (.ro cs)→h'.get b=some (.ro cs)):TL lim h' b len w:=by refine⟨fun i hi=>?_⟩;obtain⟨d,o,cs,rfl,h1,a,x,s,e,l,c,k0,k1,k2,k3,k4,k5,k6,k7⟩:=t.at_ i hi;exact⟨d,o,cs,rfl,by unfold cellsOf at h1 ⊢;rw[hb d o _ rfl];exact h1,a,x,s,e,l,c,k0,k1,k2,k3,k4,k5,k6,k7.mono hro⟩
theorem ro_keep{O:Nat→Prop}{h h':T Blk}{n:Nat}(hf:Fresh h n)(hn:∀ b cs,O b→h.get b≠some (.ro cs))(hk:∀ b,b<n→¬ O b→h'.get b=h.get b):∀ b cs,h.get b=some (.ro cs)→h'.get b=some (.ro cs):=fun b cs hb=>by rw[hk b (hf.lt hb) fun ho=>hn b cs ho hb];exact hb
theorem TL.load{lim:Nat}{h:T Blk}{b:Option Addr}{len c i:Nat}{w:Nat→Nat}(t:TL lim h b len w)(hi:i<len):∃ p a x s e l c',idxA EV 25 (.slice b len c) (.int .i64 (i:Int))=some (.pointer (some p))∧loadA EV h 63 (.pointer (some p))=some (nodeV a x s e l c')∧R64 a∧R64 x∧s.size≤16000000∧Az.D Az.Γ0 lim h (w i) (.sl 2) (.slice e l c'):=by obtain⟨d,o,cs,rfl,h1,a,x,s,e,l,c',k0,k1,k2,k3,k4,k5,k6,k7⟩:=t.at_ i hi;exact⟨⟨d,o+i * tTerm.size,none⟩,a,x,s,e,l,c',idx_slice ty25 ty63 hi,loadN ty63 rfl h1 (seg4 k0 k1 k2 k3),k4,k5,k6,k7⟩
theorem fn257:EV.fn.get 257=some Tryz.f257:=by kernel_rfl
theorem walk_cl{lim l K:Nat}{Y:Nat→(Nat→Prop)→T Blk→Nat→Prop}(hY:YOK l K Y)(hKb:K≤1000000000):∀ (r:Nat){a x:Int}{s:ByteArray}{b:Option Addr}{len c k:Nat}{O:Nat→Prop}{h:T Blk}{n:Nat},Y k O h n→R64 x→Az.D Az.Γ0 lim h r (.sl 2) (.slice b len c)→k+r+1≤K →
 ∃ O' h' n',Cl EV 257 [nodeV a x s b len c,.func (.yield l) #[] #[]] h n (.ret (.bool true) h' n')∧Moves Y O h n (k+r+1) O' h' n':=by
 intro r
 induction r using Nat.strongRecOn with
 | ind r ih =>
 intro a x s b len c k O h n y hx hd hK;have key:∃ v h' n',Cl EV 257 [nodeV a x s b len c,.func (.yield l) #[] #[]] h n (.ret v h' n')∧v= .bool true∧∃ O',Moves Y O h n (k+r+1) O' h' n':=by
  refine Cl.wl (many:=23) rfl rfl fn257 rfl rfl rfl rfl ?_;refine WL.seq (WL.reg ?_);refine OL.bx ?_;refine OL.asg ?_;have f0:=hY.fresh y;have y1:=hY.frame y (Nat.le_succ n) (f0.upd (some (.cells [.int .i64 a,.int .i64 x,.string s,.slice b len c]))) fun b hb=>T.gnE _ _ (Nat.ne_of_lt (hY.lt y b hb))
  obtain⟨O1,h1,n1,r1,y2,r2,r3,r4⟩:=hY.round (a:=a) (s:=s) (b:=b) (len:=len) (c:=c) y1 (by omega) hx;have hno:¬ O n:=fun ho=>by have:=hY.lt y n ho;omega
  have hn1:h1.get n=some (.cells [.int .i64 a,.int .i64 x,.string s,.slice b len c]):=by rw[r4 n (Nat.lt_succ_self n) hno];exact T.gsE _ _ _
  refine OL.nil (WL.seq (WL.seq (WL.reg ?_)));refine OL.mv ?_;refine OL.la ty63 ?_;refine OL.cy r1 ?_;refine OL.un ?_;refine OL.nil (WL.condF rfl (WL.skip ?_));refine WL.seq (WL.seq (WL.reg ?_));refine OL.fd fo63_3 ?_;refine OL.l1 ty25 ?_;refine OL.bi (lenA_slice ty25) ?_;refine OL.mv ?_;have mv1:Moves Y O h n (k+1) O1 h1 n1:=⟨⟨k+1,nlR _,y2⟩,by omega,fun b hb=>(r3 b hb).imp id (by omega),fun b hb ho=>by rw[r4 b (by omega) ho,T.gnE _ _ (by omega)]⟩
  have ro1:=ro_keep f0 (hY.nro y) mv1.2.2.2;obtain⟨w,tl,hw1,hw2,hw3⟩:=TL.of_D (hd.mono ro1);have bO:∀ d o s',b=some ⟨d,o,s'⟩→¬ O1 d∧d<n1:=fun d o s' e=>by obtain⟨cs,hc⟩:=hw2 d o s' e;exact⟨fun ho=>hY.nro y2 d cs ho hc,(hY.fresh y2).lt hc⟩
  refine OL.nil (WL.block ?_);refine WL.loop (k:=len) (fun m L h' n'=>∃ i O',i≤len∧m=len-i∧Sub [(14,.int .i64 (i:Int)),(13,.int .i64 (len:Int)),(12,.slice b len c),(1,.func (.yield l) #[] #[])] L∧Moves Y O1 h1 n1 (k+1+sumW w i) O' h' n') ?_
   ⟨0,O1,Nat.zero_le _,rfl,(by repeat (first|exact Sub.nil|refine Sub.cons rfl ?_)),⟨k+1,nlR _,y2⟩,nlR _,fun b hb=> .inl hb,fun _ _ _=>rfl⟩
  rintro m L h' n' ⟨i,O',hi,rfl,hs,mv⟩;refine WL.keep hs ?_;refine WL.seq (WL.reg ?_);by_cases c1:(i:Int)<(len:Int)
  ·have hi':i<len:=by omega
   refine OL.bT ?_;refine OL.nil (WL.seq (WL.condT rfl (WL.skip ?_)));obtain⟨⟨k',hk',y'⟩,m2,m3,m4⟩:=mv;have ro2:=ro_keep (hY.fresh y2) (hY.nro y2) m4;have tl':=tl.keep (fun d o s' e=>m4 d (bO d o s' e).2 (bO d o s' e).1) ro2;obtain⟨p,a',x',s2,e',l',c',q1,q2,q3,q4,q5,q6⟩:=tl'.load (c:=c) hi';refine WL.seq (WL.block (WL.seq (WL.reg ?_)));refine OL.ix q1 ?_;refine OL.ld q2 ?_;refine OL.al ty63 ?_;refine OL.sn ty63 (T.gsE _ _ _) ?_;refine OL.nil (WL.seq (WL.reg ?_));refine OL.la ty63 ?_;refine OL.mv ?_;have f':=hY.fresh y';have y3:=hY.frame y' (Nat.le_succ n') ((f'.upd (some (.cells tTerm.zero))).set (Nat.lt_succ_self n') (some (.cells [.int .i64 a',.int .i64 x',.string s2,.slice e' l' c']))) fun b hb=>by have:=hY.lt y' b hb;rw[T.gnE _ _ (by omega),T.gnE _ _ (by omega)]
   have hsum:sumW w (i+1)≤sumW w len:=sumW_le w hi';have hsum1:sumW w (i+1)=sumW w i+(w i+1):=rfl;obtain⟨O3,h3,n3,g1,g2⟩:=ih (w i) (hw3 i hi') (a:=a') (s:=s2) y3 q4 (q6.mono fun b cs hb=>by have:=f'.lt hb;rw[T.gnE _ _ (by omega),T.gnE _ _ (by omega)];exact hb) (by omega);refine OL.cf fn257 g1 ?_;refine OL.un ?_;refine OL.nil (WL.condF rfl (WL.skip (WL.reg ?_)));have:=sumW_ge w len;refine OL.ad1 ?_;refine OL.mv ?_;refine OL.nil ⟨len-(i+1),by omega,i+1,O3,by omega,rfl,(by repeat (first|exact Sub.nil|refine Sub.cons rfl ?_)),?_⟩;have mvA:Moves Y O1 h1 n1 (k+1+sumW w i) O' ((h'.upd (some (.cells tTerm.zero)) n').upd (some (.cells [.int .i64 a',.int .i64 x',.string s2,.slice e' l' c'])) n') (n'+1) :=
    ⟨⟨k',hk',y3⟩,by omega,m3,fun b hb ho=>by rw[T.gnE _ _ (by omega),T.gnE _ _ (by omega)];exact m4 b hb ho⟩
   exact(mvA.trans g2).weak (by omega)
  ·have hi':i=len:=by omega
   subst hi';refine OL.bF ?_;refine OL.nil (WL.seq (WL.condF rfl (WL.exit ?_)));refine WL.seq (WL.reg ?_);refine OL.asg ?_;refine OL.nil (WL.ret ⟨fun id e=>(by cases e),[_],⟨rfl,rfl⟩,rfl,O',(mv1.trans mv).weak (by omega)⟩)
 obtain⟨v,h',n',q1,rfl,O',q2⟩:=key;exact⟨O',h',n',q1,q2⟩
set_option maxHeartbeats 4000000
theorem sumF_eq{f g:Nat→Nat}:∀ {n:Nat},(∀ i,i<n→f i=g i)→Az.sumF f n=Az.sumF g n
 | 0,_=>rfl
 | n+1,h=>by show Az.sumF f n+f n=Az.sumF g n+g n;rw[sumF_eq fun i hi=>h i (by omega),h n (by omega)]
theorem sumF_add(f:Nat→Nat)(a:Nat):∀ b,Az.sumF f (a+b)=Az.sumF f a+Az.sumF (fun i=>f (a+i)) b
 | 0=>rfl
 | b+1=>by show Az.sumF f (a+b)+f (a+b)=Az.sumF f a+(Az.sumF (fun i=>f (a+i)) b+f (a+b));rw[sumF_add f a b,Nat.add_assoc]
theorem sumF_rows(f:Nat→Nat)(m:Nat):∀ n,Az.sumF f (n * m)=Az.sumF (fun i=>Az.sumF (fun k=>f (i * m+k)) m) n
 | 0=>by rw[Nat.zero_mul];rfl
 | n+1=>by rw[Nat.succ_mul,sumF_add,sumF_rows f m n];rfl
theorem sumF_le2{f g:Nat→Nat}:∀ {n:Nat},(∀ i,i<n→f i≤g i)→Az.sumF f n≤Az.sumF g n
 | 0,_=>nlR _
 | n+1,h=>Nat.add_le_add (sumF_le2 fun i hi=>h i (by omega)) (h n (by omega))
theorem sumF_set(W:Nat→Nat)(i w:Nat):Az.sumF (fun p=>if p=i then w else W p) (i+1)=Az.sumF W i+w:=by show Az.sumF _ i+(if i=i then w else W i)=_;rw[if_pos rfl,sumF_eq (f:=fun p=>if p=i then w else W p) (g:=W) fun p hp=>if_neg (by omega)]
def RowD(Γ:List (List Az.CT))(lim:Nat)(h:T Blk)(cts:List Az.CT)(w:Nat)(row:List Value):Prop :=
 ∃ g:Nat→Nat,Az.sumF g cts.length≤w∧∀ k x ct,row[k]? =some x→nth cts k=some ct→Az.D Γ lim h (g k) ct x
theorem list_of{α:Type}:∀ (n:Nat)(P:Nat→α→Prop),(∀ i,i<n→∃ a,P i a)→∃ xs:List α,xs.length=n∧∀ (i:Nat)(a:α),xs[i]? =some a→P i a
 | 0,_,_=>⟨[],rfl,fun i a h=>by simp at h⟩
 | n+1,P,h=>by
   obtain⟨xs,h1,h2⟩:=list_of n P fun i hi=>h i (by omega)
   obtain⟨a,ha⟩:=h n (by omega);refine⟨xs ++ [a],by simp[h1],fun i x hx=>?_⟩;rcases Nat.lt_or_ge i n with hi|hi
   ·rw[List.getElem?_append_left (by omega)] at hx;exact h2 i x hx
   ·have hl:=(gsI hx).1;simp[h1] at hl;have:i=n:=by omega
    subst this;rw[←h1] at hx;simp at hx;subst hx;exact ha
theorem rows_of_D{α:Type}{enc:α→List Value}{Γ:List (List Az.CT)}{lim:Nat}{h:T Blk}{r q:Nat}{v:Value}{cts:List Az.CT}(hd:Az.D Γ lim h r (.sl q) v)(hq:nth Γ q=some cts)
 (hdec:∀ (row:List Value) (w:Nat),row.length=cts.length→RowD Γ lim h cts w row→∃ a,enc a=row) :
 ∃ xs:List α,RowsS cts.length enc h v xs∧∃ W,Az.sumF W xs.length+xs.length≤r∧(xs≠ []→r≤lim)∧∀ i a,xs[i]? =some a→RowD Γ lim h cts (W i) (enc a):=by
 obtain⟨b,len,c,rfl⟩:∃ b l c,v= .slice b l c:=by
  cases hd with
  | nil=>exact⟨_,_,_,rfl⟩
  | sl=>exact⟨_,_,_,rfl⟩
 have hd':=hd;obtain⟨f,h1,h2,h3⟩:=hd.rows hq;rcases h3 with rfl|⟨d,o,cs,rfl,h4,h5,h6⟩
 ·refine⟨[],⟨b,c,rfl,fun a ha=>?_,fun i x hi=>by simp at hi⟩,fun _=>0,Nat.zero_le _,fun h=>absurd rfl h,fun i a hi=>by simp at hi⟩;subst ha;cases hd' with
  | sl f hb=>exact⟨rfl,_,cells_ro hb⟩
 ·have hd:∀ i row,i<len→seg cs (o+i * cts.length) cts.length=some row→RowD Γ lim h cts (Az.sumF (fun k=>f (i * cts.length+k)) cts.length) row:=fun i row hi hs=>by
   refine⟨fun k=>f (i * cts.length+k),nlR _,fun k x ct hx hct=>?_⟩;have hk:k<cts.length:=by have:=(gsI hx).1;have:=(seg_some hs).1;omega
   refine h6 i k x ct hi hk ?_ hct;have:=((seg_some hs).2 k hk).1;rw[←this];exact hx
  obtain⟨xs,hl,hx⟩:=list_of len (fun i (a:α)=>i<len∧seg cs (o+i * cts.length) cts.length=some (enc a)) fun i hi=>by have:=Nat.mul_le_mul_right cts.length (show i+1≤len by omega);rw[Nat.succ_mul] at this;obtain⟨row,hr⟩:=Az.seg_ex cs (o+i * cts.length) cts.length (by omega);obtain⟨a,rfl⟩:=hdec row _ (seg_some hr).1 (hd i row hi hr);exact⟨a,hi,hr⟩
  subst hl;refine⟨xs,⟨_,c,rfl,fun a ha=>by cases ha;exact⟨rfl,_,cells_ro h4⟩,fun i x hi=>⟨d,o,cs,rfl,cells_ro h4,(hx i x hi).2⟩⟩,fun i=>Az.sumF (fun k=>f (i * cts.length+k)) cts.length,?_,fun hne=>h2 fun e=>hne (List.eq_nil_of_length_eq_zero e),fun i a hi=>hd i _ (hx i a hi).1 (hx i a hi).2⟩;rw[←sumF_rows];exact h1
theorem D_of_rows{α:Type}{enc:α→List Value}{Γ:List (List Az.CT)}{lim lim':Nat}{h:T Blk}{r r' q:Nat}{v:Value}{cts:List Az.CT}{xs:List α}{W:Nat→Nat}(hd:Az.D Γ lim h r (.sl q) v)(hq:nth Γ q=some cts)(hx:RowsS cts.length enc h v xs)
 (hr:∀ i a,xs[i]? =some a→RowD Γ lim' h cts (W i) (enc a)) (hs:Az.sumF W xs.length+xs.length≤r') (hl:r'≤lim'):Az.D Γ lim' h r' (.sl q) v:=by
 obtain⟨eb,c,rfl,_,h2⟩:=hx;generalize hlen:xs.length=len at hd hs;cases hd with
 | nil=>exact .nil
 | @sl _ _ b o _ _ cs cts' f hb hq' hp ho hs' hl' hc =>
   subst hlen;rw[hq] at hq';cases hq';have key:∀ i,∃ g:Nat→Nat,i<xs.length→Az.sumF g cts.length≤W i∧∀ k x ct,cs[o+i * cts.length+k]? =some x→nth cts k=some ct→Az.D Γ lim' h (g k) ct x:=fun i=>by
    by_cases hi:i<xs.length
    ·obtain⟨b',o',cs',e1,e2,e3⟩:=h2 i _ (ggE hi);cases e1;rw[cells_ro hb] at e2;cases e2;obtain⟨g,g1,g2⟩:=hr i _ (ggE hi);refine⟨g,fun _=>⟨g1,fun k x ct hx hct=>?_⟩⟩;have hk:k<cts.length:=by
      rw[nth_eq] at hct;exact(gsI hct).1
     refine g2 k x ct ?_ hct;rw[((seg_some e3).2 k hk).1];exact hx
    ·exact⟨fun _=>0,fun h=>absurd h hi⟩
   obtain⟨g,hg⟩:=Classical.axiomOfChoice key;have hm:∀ i k,k<cts.length→(i * cts.length+k) / cts.length=i∧(i * cts.length+k) % cts.length=k:=fun i k hk=>by
    constructor
    ·rw[Nat.add_comm,Nat.add_mul_div_right _ _ hp,Nat.div_eq_of_lt hk,Nat.zero_add]
    ·rw[Nat.add_comm,Nat.add_mul_mod_self_right,Nat.mod_eq_of_lt hk]
   refine .sl (fun p=>g (p / cts.length) (p % cts.length)) hb hq hp ho ?_ hl fun i x ct hi hx hct=>?_
   ·rw[sumF_rows];refine Nat.le_trans (Nat.add_le_add_right (sumF_le2 (g:=W) fun i hi=>?_) _) hs;refine Nat.le_trans (Nat.le_of_eq (sumF_eq (g:=g i) fun k hk=>?_)) (hg i hi).1;simp only[(hm i k hk).1,(hm i k hk).2]
   ·have h1:i / cts.length<xs.length:=Nat.div_lt_of_lt_mul (by rw[Nat.mul_comm];exact hi);refine(hg _ h1).2 _ x ct ?_ hct;rw[nth_eq] at hx;rw[Nat.add_assoc,Nat.mul_comm,Nat.div_add_mod];exact hx
structure TmRow where
 kd:Int
 nm:Int
 st:ByteArray
 ks:SlT
abbrev tmL(t:TmRow):List Value:=[.int .i64 t.kd,.int .i64 t.nm,.string t.st,slV t.ks]
abbrev tmC:List Az.CT:=[.int .i64,.int .i64,.str,.sl 2]
abbrev clC:List Az.CT:=[.int .i64,.int .i64,.sl 2,.sl 2,.sl 2]
abbrev prC:List Az.CT:=[.str,.int .i64,.sl 1]
theorem D_sl{lim:Nat}{h:T Blk}{r q:Nat}{v:Value}(hd:Az.D Az.Γ0 lim h r (.sl q) v):∃ s:SlT,v=slV s:=by obtain⟨b,l,c,rfl⟩:=D_slice hd;exact⟨(b,l,c),rfl⟩
theorem tm_dec{lim:Nat}{h:T Blk}(row:List Value)(w:Nat)(hl:row.length=tmC.length)(hr:RowD Az.Γ0 lim h tmC w row):∃ a,tmL a=row:=by
 obtain⟨g,_,h2⟩:=hr
 match row,hl with
 | [a,b,c,d],_ =>
   obtain⟨x,rfl,_⟩:=D_int (h2 0 a _ rfl rfl);obtain⟨y,rfl,_⟩:=D_int (h2 1 b _ rfl rfl);obtain⟨s,rfl,_⟩:=D_str (h2 2 c _ rfl rfl);obtain⟨k,rfl⟩:=D_sl (h2 3 d _ rfl rfl);exact⟨⟨x,y,s,k⟩,rfl⟩
theorem cl_dec{lim:Nat}{h:T Blk}(row:List Value)(w:Nat)(hl:row.length=clC.length)(hr:RowD Az.Γ0 lim h clC w row):∃ a,clL a=row:=by
 obtain⟨g,_,h2⟩:=hr
 match row,hl with
 | [a,b,c,d,e],_ =>
   obtain⟨x,rfl,_⟩:=D_int (h2 0 a _ rfl rfl);obtain⟨y,rfl,_⟩:=D_int (h2 1 b _ rfl rfl);obtain⟨s,rfl⟩:=D_sl (h2 2 c _ rfl rfl);obtain⟨t,rfl⟩:=D_sl (h2 3 d _ rfl rfl);obtain⟨u,rfl⟩:=D_sl (h2 4 e _ rfl rfl);exact⟨⟨x,y,s,t,u⟩,rfl⟩
theorem tm_row{lim:Nat}{h:T Blk}{w:Nat}{t:TmRow}(hr:RowD Az.Γ0 lim h tmC w (tmL t)):R64 t.kd∧R64 t.nm∧t.st.size≤16000000∧∃ u,u≤w∧Az.D Az.Γ0 lim h u (.sl 2) (slV t.ks):=by obtain⟨g,h1,h2⟩:=hr;have e:Az.sumF g 4=0+g 0+g 1+g 2+g 3:=rfl;have h1:Az.sumF g 4≤w:=h1;obtain⟨x,e1,hx⟩:=D_int (h2 0 _ _ rfl rfl);cases e1;obtain⟨x,e1,hy⟩:=D_int (h2 1 _ _ rfl rfl);cases e1;obtain⟨x,e1,hz⟩:=D_str (h2 2 _ _ rfl rfl);cases e1;exact⟨hx,hy,hz,g 3,by omega,h2 3 _ _ rfl rfl⟩
theorem tm_mk{lim:Nat}{h:T Blk}{w:Nat}{t:TmRow}(hx:R64 t.kd)(hy:R64 t.nm)(hs:t.st.size≤16000000)(hd:Az.D Az.Γ0 lim h w (.sl 2) (slV t.ks)):RowD Az.Γ0 lim h tmC w (tmL t):=by
 refine⟨fun k=>if k=3 then w else 0,?_,fun k x ct hx' hct=>?_⟩
 ·show 0+0+0+0+w≤w;omega
 ·match k,hx',hct with
  | 0,h1,h2=>cases h1;cases h2;exact .int hx.1 hx.2
  | 1,h1,h2=>cases h1;cases h2;exact .int hy.1 hy.2
  | 2,h1,h2=>cases h1;cases h2;exact .str hs
  | 3,h1,h2=>cases h1;cases h2;exact hd
  | k+4,h1,_=>simp at h1
end Go.Sx
namespace Go.Sx
open Go.Proofs Go.Proofs.YtkcjinnlpmhopaaGreatDoor
set_option maxRecDepth 100000
set_option maxHeartbeats 1000000
inductive CVal (n:Nat):Value→Prop
 | bool (b:Bool):CVal n (.bool b)
 | int (k:IntKind) (x:Int):CVal n (.int k x)
 | str (s:ByteArray):CVal n (.string s)
 | nil (l c:Nat):CVal n (.slice none l c)
 | sl {b o l c:Nat} (h:b<n):CVal n (.slice (some ⟨b,o,none⟩) l c)
 | agg {a:Array Value} (h:∀ x∈a.toList,CVal n x):CVal n (.agg a)
theorem CVal.mono{n m:Nat}(hm:n≤m){v:Value}(h:CVal n v):CVal m v:=by
 induction h with
 | bool b=>exact .bool b
 | int k x=>exact .int k x
 | str s=>exact .str s
 | nil l c=>exact .nil l c
 | sl h=>exact .sl (by omega)
 | agg _ ih=>exact .agg ih
def CloH(h:T Blk)(n:Nat):Prop:=∀ b k,h.get b=some k→∃ cs,k= .ro cs∧∀ x∈cs,CVal n x
theorem hit_stable{h H:T Blk}{n:Nat}(hc:CloH h n)(hk:∀ b,b<n→H.get b=h.get b):∀ (c:Ct)(vs:List Value),(∀ x∈vs,CVal n x)→hitC H c vs=hitC h c vs:=by
 intro c
 induction c with
 | nil=>intro vs _;rfl
 | lit v next ih =>
   intro vs hv;cases vs with
   | nil=>rfl
   | cons x vs =>
     simp only[hitC];rw[ih vs fun y hy=>hv y (mcM _ hy)]
 | sl len cap kids next ihk ihn =>
   intro vs hv;cases vs with
   | nil=>rfl
   | cons x vs =>
     have hx:=hv x (mcS ..);cases hx with
     | @sl b o l c hb =>
       have hcell:cellsOf H b=cellsOf h b:=by unfold cellsOf;rw[hk b hb]
       simp only[hitC,hcell];cases hcs:cellsOf h b with
       | none=>rfl
       | some cs =>
         have:∀ x∈dropL cs o,CVal n x:=fun x hx=>by
          rw[dropL_eq] at hx;unfold cellsOf at hcs;split at hcs
          ·rename_i hb';obtain⟨_,e,_⟩:=hc b _ hb';cases e
          ·rename_i hb';obtain⟨cs',e,h2⟩:=hc b _ hb';cases e;cases hcs;exact h2 x (List.mem_of_mem_drop hx)
          ·cases hcs
         simp only[ihk _ this,ihn vs fun y hy=>hv y (mcM _ hy)]
     | _=>rfl
 | agg kids next ihk ihn =>
   intro vs hv;cases vs with
   | nil=>rfl
   | cons x vs =>
     have hx:=hv x (mcS ..);cases hx with
     | agg ha=>simp only[hitC,ihk _ ha,ihn vs fun y hy=>hv y (mcM _ hy)]
     | _=>rfl
theorem find_stable{h H:T Blk}{n:Nat}(hc:CloH h n)(hk:∀ b,b<n→H.get b=h.get b){args:List Value}(ha:∀ x∈args,CVal n x):∀ l:List (Ct×Value),findM H args l=findM h args l
 | []=>rfl
 | e :: l=>by simp only[findM,hit_stable hc hk e.1 args ha,find_stable hc hk ha l]
theorem groOK_keep{h H:T Blk}{n:Nat}(hk:∀ b,b<n→H.get b=h.get b)(hn:1≤n)(hg:groOK h gro0=true):groOK H gro0=true:=by simp only[groOK,gro0] at hg ⊢;rw[hk 0 hn];exact hg
theorem Kn.of{l:List (FuncId×List (Ct×Value))}{f:FuncId}{args:List Value}{v:Value}{h:T Blk}{n:Nat}(hc:CloH h n)(hn:1≤n)(hg:groOK h gro0=true)(ha:∀ x∈args,CVal n x)(hm:memoA (EE l) f args h=some v):Kn l f args v h n:=by
 intro H hk;have e1:groOK H gro0=true:=groOK_keep hk hn hg;unfold memoA at hm ⊢;split at hm
 ·rename_i r hr;have eg:(EE l).gro=gro0:=rfl;rw[eg,hg,_root_.cond_true] at hm;rw[eg,e1,_root_.cond_true,find_stable hc hk ha];exact hm
 ·cases hm
def Lays(Γ:List (List Az.CT))(lim:Nat)(G:Gh)(W:World)(cts:List Az.CT)(cs:List Value)(w:Nat):Prop :=
 cts.length=cs.length∧∀ ρ h n L0 z0,St G ρ h n W→CloH h n→ρ 0=some L0→h.get 0=some (.ro z0)→∃ az ρ' h' n',St G ρ' h' n' W∧CloH h' n'∧Keep n h h'∧Ext ρ ρ'∧n≤n'∧LRel ρ' az cs∧RowD Γ lim h' cts w az∧(∀ x∈az,CVal n' x)∧∀ (i:Nat) (a:Option Addr) (l c:Nat),cs[i]? =some (Value.slice a l c)→0<c→∃ b,az[i]? =some (Value.slice b l c)
section
variable {Γ:List (List Az.CT)}{lim:Nat}{G:Gh}{W:World}
theorem lt_of_ren{ρ:Ren}{h:T Blk}{n b:Nat}{L:Pl}(S:St G ρ h n W)(e:ρ b=some L):b<n:=by apply Classical.byContradiction;intro hb;rw[S.fr b (by omega)] at e;cases e
theorem Lays.nil:Lays Γ lim G W [] [] 0 :=
 ⟨rfl,fun ρ h n _ _ S C _ _=>⟨[],ρ,h,n,S,C,Keep.refl n h,.refl ρ,nlR _,.nil ρ,⟨fun _=>0,nlR _,fun k x ct hx=>by simp at hx⟩,fun x hx=>(by cases hx),fun i a l c hi=>(by simp at hi)⟩⟩
theorem Lays.weak{cts:List Az.CT}{cs:List Value}{w w':Nat}(l:Lays Γ lim G W cts cs w)(hw:w≤w'):Lays Γ lim G W cts cs w':=by refine⟨l.1,fun ρ h n L0 z0 S C h1 h2=>?_⟩;obtain⟨az,ρ',h',n',a1,a2,a3,a4,a5,a6,⟨g,a7,a8⟩,a9,aS⟩:=l.2 ρ h n L0 z0 S C h1 h2;exact⟨az,ρ',h',n',a1,a2,a3,a4,a5,a6,⟨g,by omega,a8⟩,a9,aS⟩
theorem ro_of_keep{h h':T Blk}{n:Nat}(hf:∀ b,n≤b→h.get b=none)(hk:Keep n h h'):∀ b cs,h.get b=some (.ro cs)→h'.get b=some (.ro cs):=fun b cs hb=>by
 have:b<n:=by apply Classical.byContradiction;intro hx;rw[hf b (by omega)] at hb;cases hb
 rw[hk b this];exact hb
theorem Lays.app{c1 c2:List Az.CT}{l1 l2:List Value}{w1 w2:Nat}(a:Lays Γ lim G W c1 l1 w1)(b:Lays Γ lim G W c2 l2 w2):Lays Γ lim G W (c1 ++ c2) (l1 ++ l2) (w1+w2):=by
 refine⟨by rw[List.length_append,List.length_append,a.1,b.1],fun ρ h n L0 z0 S C h1 h2=>?_⟩;obtain⟨az,ρ1,hh1,n1,a1,a2,a3,a4,a5,a6,⟨g,a7,a8⟩,a9,aS⟩:=a.2 ρ h n L0 z0 S C h1 h2;obtain⟨bs,ρ2,hh2,n2,b1,b2,b3,b4,b5,b6,⟨f,b7,b8⟩,b9,bS⟩:=b.2 ρ1 hh1 n1 L0 z0 a1 a2 (a4 _ _ h1) (ro_of_keep S.hb a3 _ _ h2);have la:az.length=c1.length:=by rw[a.1];exact a6.1
 refine⟨az ++ bs,ρ2,hh2,n2,b1,b2,a3.trans a5 b3,a4.trans b4,by omega,(a6.mono b4).append b6,⟨fun k=>if k<c1.length then g k else f (k-c1.length),?_,fun k x ct hx hct=>?_⟩,fun x hx=>?_,fun i a l c hi hc=>?_⟩
 ·rw[List.length_append,sumF_add,sumF_eq (g:=g) fun i hi=>if_pos hi,sumF_eq (f:=fun i=>if c1.length+i<c1.length then g (c1.length+i) else f (c1.length+i-c1.length)) (g:=f) fun i hi=>by rw[if_neg (by omega)];congr 1;omega];omega
 ·rw[nth_eq] at hct;rcases Nat.lt_or_ge k c1.length with hk|hk
  ·rw[List.getElem?_append_left (by omega)] at hx;rw[List.getElem?_append_left hk] at hct;simp only[if_pos hk];exact(a8 k x ct hx (by rw[nth_eq];exact hct)).mono (ro_of_keep a1.hb b3)
  ·rw[List.getElem?_append_right (by omega)] at hx;rw[List.getElem?_append_right hk] at hct;simp only[if_neg (show ¬ k<c1.length by omega)];rw[la] at hx;exact b8 _ x ct hx (by rw[nth_eq];exact hct)
 ·rcases List.mem_append.1 hx with hx|hx
  ·exact(a9 x hx).mono b5
  ·exact b9 x hx
 ·have la':az.length=l1.length:=a6.1;rcases Nat.lt_or_ge i l1.length with hk|hk
  ·rw[List.getElem?_append_left hk] at hi;rw[List.getElem?_append_left (by omega)];exact aS i a l c hi hc
  ·rw[List.getElem?_append_right hk] at hi;rw[List.getElem?_append_right (by omega),la'];exact bS _ a l c hi hc
theorem Lays.one{ct:Az.CT}{v:Value}(h:∀ (h:T Blk),Az.D Γ lim h 0 ct v)(hv:∀ n,CVal n v)(hr:∀ ρ,VRel ρ v v):Lays Γ lim G W [ct] [v] 0:=by
 refine⟨rfl,fun ρ hh n _ _ S C _ _=>⟨[v],ρ,hh,n,S,C,Keep.refl n hh,.refl ρ,nlR _,.cons (hr ρ) (.nil ρ),⟨fun _=>0,nlR _,fun k x ct' hx hct=>?_⟩,fun x hx=>?_,fun i a l c hi _=>?_⟩⟩
 ·match k,hx,hct with
  | 0,hx,hct=>cases hx;cases hct;exact h hh
  | k+1,hx,_=>simp at hx
 ·cases hx with
  | head=>exact hv n
  | tail _ hx=>cases hx
 ·match i,hi with
  | 0,hi=>cases hi;exact⟨a,rfl⟩
  | i+1,hi=>simp at hi
theorem St.ro{ρ:Ren}{h:T Blk}{n b sh:Nat}{az:List Value}{c:Array Value}{e:TypeId}{fr:Nat×Nat}(S:St G ρ h n W)(C:CloH h n)(hb:W.heap[b]? =some (.cells c e fr))(hc:CellsRel ρ az ⟨b,sh,c.size⟩ c)(hng:∀ g,g<G.ng→g<n) :
 St G (ρ.add n ⟨b,sh,c.size⟩) (h.upd (some (.ro az)) n) (n+1) W:=by
 have hext:=Ext.add (⟨b,sh,c.size⟩:Pl) (S.fr n (nlR n));have hro:∀ q k,(h.upd (some (.ro az)) n).get q=some k→∃ cs,k= .ro cs:=fun q k hq=>by
  rw[T.get_upd] at hq;split at hq
  ·cases hq;exact⟨_,rfl⟩
  ·obtain⟨cs,h1,_⟩:=C q k hq;exact⟨cs,h1⟩
 refine⟨⟨fun q L k h1 h2=>?_,fun q q' L L' k k' hne h1 h1' h2 h2' hr=>?_,fun q L k h1 h2 hr=>?_,S.wr.frame,S.wr.size,fun g hg=>?_,S.wr.out⟩,fun q hq=>?_,fun q hq=>?_⟩
 ·by_cases hq:q=n
  ·subst hq;rw[Ren.add_same] at h1;rw[T.gsE] at h2;cases h1;cases h2;exact⟨c,e,fr,hb,hc.mono hext⟩
  ·rw[Ren.add_ne _ _ hq] at h1;rw[T.gnE _ _ hq] at h2;obtain⟨cs,rfl,_⟩:=C q k h2;obtain⟨c',e',fr',g1,g2⟩:=S.wr.blk q L _ h1 h2;exact⟨c',e',fr',g1,g2.mono hext⟩
 ·obtain⟨_,rfl⟩:=hro _ _ h2;obtain⟨_,rfl⟩:=hro _ _ h2';rcases hr with hr|hr<;>cases hr
 ·obtain⟨_,rfl⟩:=hro _ _ h2;cases hr
 ·obtain⟨s,hs⟩:=S.wr.glob g hg;exact⟨s,by rw[Ren.add_ne _ _ (by have:=hng g hg;omega)];exact hs⟩
 ·rw[Ren.add_ne _ _ (by omega)];exact S.fr q (by omega)
 ·rw[T.gnE _ _ (by omega)];exact S.hb q (by omega)
def rep(cts:List Az.CT):Nat→List Az.CT
 | 0=>[]
 | k+1=>cts ++ rep cts k
theorem rep_len(cts:List Az.CT):∀ k,(rep cts k).length=k * cts.length
 | 0=>by simp[rep]
 | k+1=>by simp only[rep,List.length_append,rep_len cts k,Nat.succ_mul];omega
theorem rep_at(cts:List Az.CT)(hp:0<cts.length):∀ (k i:Nat),i<k * cts.length→(rep cts k)[i]? =cts[i % cts.length]?
 | 0,i,h=>by simp at h
 | k+1,i,h=>by
   rw[Nat.succ_mul] at h;simp only[rep];rcases Nat.lt_or_ge i cts.length with hi|hi
   ·rw[List.getElem?_append_left hi,Nat.mod_eq_of_lt hi]
   ·rw[List.getElem?_append_right hi,rep_at cts hp k (i-cts.length) (by omega),Nat.mod_eq_sub_mod hi]
theorem Lays.rows{cts:List Az.CT}:∀ (rs:List (List Value×Nat)),(∀ r∈rs,Lays Γ lim G W cts r.1 r.2)→Lays Γ lim G W (rep cts rs.length) (rs.flatMap (·.1)) (rs.map (·.2)).sum
 | [],_=>Lays.nil
 | r :: rs,h=>by have:=(h r (mcS ..)).app (Lays.rows rs fun q hq=>h q (mcM _ hq));simpa [rep] using this
theorem Lays.slice{q:Nat}{cts:List Az.CT}{rs:List (List Value×Nat)}{b o cap:Nat}{c:Array Value}{e:TypeId}{fr:Nat×Nat}(hng:G.ng=1)(hq:nth Γ q=some cts)(hp:0<cts.length)(hb:W.heap[b]? =some (.cells c e fr))(hcap:cap<UNK)
 (hrs:∀ r∈rs,Lays Γ lim G W cts r.1 r.2) (ho:o+rs.length * cts.length≤c.size) (hcs:∀ (i:Nat) (x:Value),(rs.flatMap (·.1))[i]? =some x→c[o+i]? =some x) (hl:(rs.map (·.2)).sum+rs.length≤lim) :
 Lays Γ lim G W [.sl q] [.slice (some ⟨b,o,none⟩) rs.length cap] ((rs.map (·.2)).sum+rs.length):=by
 refine⟨rfl,fun ρ h n L0 z0 S C h1 h2=>?_⟩;have R:=Lays.rows rs hrs;obtain⟨az,ρ',h',n',a1,a2,a3,a4,a5,a6,⟨g,a7,a8⟩,a9,_⟩:=R.2 ρ h n L0 z0 S C h1 h2;have la:az.length=rs.length * cts.length:=by rw[a6.1,← R.1,rep_len]
 have hcr:CellsRel ρ' az ⟨b,o,c.size⟩ c:=⟨by show o+az.length≤c.size;omega,nlR _,fun i x hx=>by obtain⟨y,hy1,hy2⟩:=a6.get hx;exact⟨y,hcs i y hy1,hy2⟩⟩
 have hn0:0<n:=lt_of_ren S h1;have S2:=St.ro a1 a2 hb hcr fun g hg=>by omega
 have hext:=Ext.add (⟨b,o,c.size⟩:Pl) (a1.fr n' (nlR _));have hro:∀ q cs,h'.get q=some (.ro cs)→(h'.upd (some (.ro az)) n').get q=some (.ro cs):=ro_of_keep a1.hb fun q hq=>T.gnE _ _ (by omega)
 refine⟨[.slice (some ⟨n',0,none⟩) rs.length cap],ρ'.add n' ⟨b,o,c.size⟩,h'.upd (some (.ro az)) n',n'+1,S2,fun q k hk=>?_,a3.trans a5 fun q hq=>T.gnE _ _ (by omega),a4.trans hext,by omega,.cons ?_ (.nil _),⟨fun _=>(rs.map (·.2)).sum+rs.length,?_,fun k x ct hx hct=>?_⟩,fun x hx=>?_,fun i a l c hi _=>?_⟩
 ·rw[T.get_upd] at hk;split at hk
  ·cases hk;exact⟨az,rfl,fun x hx=>(a9 x hx).mono (Nat.le_succ _)⟩
  ·obtain⟨cs,e1,e2⟩:=a2 q k hk;exact⟨cs,e1,fun x hx=>(e2 x hx).mono (Nat.le_succ _)⟩
 ·have:VRel (ρ'.add n' ⟨b,o,c.size⟩) (.slice (some ⟨n',0,none⟩) rs.length cap) (.slice (some ⟨b,o+0,none⟩) rs.length cap):= .slice _ _ (Ren.add_same _ _ _) hcap;exact this
 ·exact Nat.le_of_eq (Nat.zero_add _)
 ·match k,hx,hct with
  | 0,hx,hct =>
    cases hx;cases hct;refine .sl g (T.gsE _ _ _) hq hp (by omega) (by show Az.sumF g (rs.length * cts.length)+rs.length≤(rs.map (·.2)).sum+rs.length;rw[←rep_len];omega) hl fun i x ct hi hx hct=>?_
    rw[Nat.zero_add,nth_eq] at hx;refine(a8 i x ct hx ?_).mono hro;rw[nth_eq,rep_at cts hp _ _ hi,← nth_eq];exact hct
  | k+1,hx,_=>simp at hx
 ·cases hx with
  | head=>exact .sl (Nat.lt_succ_self _)
  | tail _ hx=>cases hx
 ·match i,hi with
  | 0,hi=>cases hi;exact⟨_,rfl⟩
  | i+1,hi=>simp at hi
theorem Lays.zero{q:Nat}{cts:List Az.CT}(hq:nth Γ q=some cts)(hp:0<cts.length)(a:Addr):Lays Γ lim G W [.sl q] [.slice (some a) 0 0] 0:=by
 refine⟨rfl,fun ρ h n L0 z0 S C h1 h2=>⟨[.slice (some ⟨0,0,none⟩) 0 (UNK * 1+0)],ρ,h,n,S,C,Keep.refl n h,.refl ρ,nlR _,.cons (.sliceZ a h1 (by omega) rfl) (.nil _),⟨fun _=>0,nlR _,fun k x ct hx hct=>?_⟩,fun x hx=>?_,fun i a l c hi hc=>?_⟩⟩
 ·match k,hx,hct with
  | 0,hx,hct =>
    cases hx;cases hct;exact .sl (fun _=>0) h2 hq hp (by rw[Nat.zero_mul];exact Nat.zero_le _) (by rw[Nat.zero_mul];exact Nat.zero_le _) (Nat.zero_le _) fun i x ct hi=>by rw[Nat.zero_mul] at hi;exact absurd hi (Nat.not_lt_zero _)
  | k+1,hx,_=>simp at hx
 ·cases hx with
  | head=>exact .sl (lt_of_ren S h1)
  | tail _ hx=>cases hx
 ·match i,hi with
  | 0,hi=>cases hi;exact absurd hc (Nat.lt_irrefl _)
  | i+1,hi=>simp at hi
end
def findQ:List (TypeId×Nat)→TypeId→Option Nat
 | [],_=>none
 | x :: l,e=>bif Nat.beq x.1 e then some x.2 else findQ l e
theorem findQ_some:∀ {l:List (TypeId×Nat)}{e:TypeId}{q:Nat},findQ l e=some q→(e,q)∈l
 | x :: l,e,q,h=>by
   simp only[findQ,biE,beqT] at h;split at h
   ·rename_i e1;cases h;subst e1;exact mcS ..
   ·exact mcM _ (findQ_some h)
def shpF(g:TypeId→Option (List Az.CT))(P:Program)(tot:Nat):List Field→Nat→Option (List Az.CT)
 | [],o=>bif Nat.beq o tot then some [] else none
 | f :: fs,o =>
   match g f.type with
   | some c=>bif Nat.beq f.offset o&&Nat.beq (P.cellsOf f.type) c.length&&Nat.ble (o+c.length) tot then (match shpF g P tot fs (o+c.length) with|some r=>some (c ++ r)|none=>none) else none
   | none=>none
def shp(P:Program)(rc:List (TypeId×Nat)):Nat→TypeId→Option (List Az.CT)
 | 0,_=>none
 | f+1,t =>
   match P.underlying t with
   | some (.int k)=>some [.int k]
   | some .bool=>some [.bool]
   | some .string=>some [.str]
   | some (.slice e)=>(match findQ rc e with|some q=>some [.sl q]|none=>none)
   | some (.struct fs)=>shpF (shp P rc f) P (P.cellsOf t) fs.toList 0
   | _=>none
theorem bulk_one{H:Type}(d:DataW H):1≤Rows.uptoBulk d:=by
 cases d with
 | lit l=>cases l<;>simp[Rows.uptoBulk]
 | nil=>simp[Rows.uptoBulk]
 | ptr d=>simp[Rows.uptoBulk]
 | slice elems spare=>simp[Rows.uptoBulk]
 | agg parts=>simp[Rows.uptoBulk]
 | iface t d=>simp[Rows.uptoBulk]
 | map entries=>simp[Rows.uptoBulk]
 | held h=>simp[Rows.uptoBulk]
theorem bulk_sum{H:Type}:∀ l:List (DataW H),Rows.uptoBulkAll l=(l.map Rows.uptoBulk).sum
 | []=>rfl
 | d :: l=>by simp only[Rows.uptoBulkAll,List.map_cons,List.sum_cons,bulk_sum l]
theorem cell_blk{W:World}{a:Addr}{v:Value}(h:W.cell? a=some v):∃ c e fr,W.heap[a.block]? =some (.cells c e fr)∧a.spot=none∧c[a.off]? =some v:=by
 have hs:=World.cell?_spot h;cases hh:W.heap[a.block]? with
 | none=>simp[World.cell?,hh] at h
 | some o =>
   cases o with
   | cells c e fr =>
     rw[cell_at hh hs] at h;exact⟨c,e,fr,rfl,hs,h⟩
   | _=>simp[World.cell?,hh] at h
section
variable {H:Type}{enc:TypeId×Value→H}{P:Program}{W:World}{Γ:List (List Az.CT)}{rc:List (TypeId×Nat)}{lim:Nat}{G:Gh}
 (hng:G.ng=1) (hrc:∀ e q,(e,q)∈rc→∃ cts,nth Γ q=some cts∧0<cts.length∧P.cellsOf e=cts.length∧∃ K,shp P rc K e=some cts) (hlim:lim≤16000000)
include hng hrc hlim
theorem lay_trod:∀ (F:Nat)(K:Nat)(t:TypeId)(cs:List Value)(x:DataW H×List MemPlace)(cts:List Az.CT),DataW.trod enc P W 0 (fun _=>true) true F t cs=some x→shp P rc K t=some cts→Rows.uptoBulk x.1≤lim+1→Lays Γ lim G W cts cs (Rows.uptoBulk x.1-1):=by
 intro F
 induction F with
 | zero=>intro K t cs x cts h;simp[DataW.trod] at h
 | succ F ih =>
 intro K t cs x cts h hs hb;cases K with
 | zero=>cases hs
 | succ K =>
 simp only[shp] at hs;split at hs
 ·
  rename_i k ht;cases hs;obtain⟨n,rfl,rfl,hw⟩:=DataW.trod_int ht h;simp only[Lit.wf,baT,decide_eq_true_eq] at hw;exact(Lays.one (fun _=> .int hw.1 hw.2) (fun _=> .int _ _) fun _=> .int _ _).weak (Nat.zero_le _)
 ·rename_i ht;cases hs;obtain⟨b,rfl,rfl⟩:=DataW.trod_bool ht h;exact(Lays.one (fun _=> .bool b) (fun _=> .bool _) fun _=> .bool _).weak (Nat.zero_le _)
 ·rename_i ht;cases hs;obtain⟨s,rfl,rfl,hw⟩:=DataW.trod_string ht h;simp only[Rows.uptoBulk] at hb;have hsz:s.size=s.data.toList.length:=Array.length_toList.symm;exact(Lays.one (fun _=> .str (by omega)) (fun _=> .str _) fun _=> .string _).weak (Nat.zero_le _)
 ·
  rename_i e ht;split at hs
  ·rename_i q hq;cases hs;obtain⟨cts,c1,c2,c3,K',c4⟩:=hrc e q (findQ_some hq);rcases DataW.trod_slice ht h with⟨rfl,rfl⟩|⟨a,len,cap,elems,rest,n,hn,rfl,rfl,_,hl,hm,hlen,hel,hsp,_⟩
   ·exact(Lays.one (fun _=> .nil) (fun _=> .nil _ _) fun _=> .slice0 _ _).weak (Nat.zero_le _)
   ·cases hn;obtain⟨hr1,hr2⟩:=hsp rfl;by_cases hc0:cap=0
    ·subst hc0;have:len=0:=by omega
     subst this;exact(Lays.zero c1 c2 a).weak (Nat.zero_le _)
    ·
     rw[c3] at hel hr2;obtain⟨cs0,g1⟩:∃ cs0,W.cells? 0 a cts.length=some cs0:=by
      by_cases h0:len=0
      ·have:=hr2 0 (by omega);rw[ggE (by omega)] at this;obtain⟨cs',g1,_⟩:=Option.bind_eq_some_iff.1 this;rw[h0,Nat.zero_mul] at g1;exact⟨cs',by simpa [Addr.add] using g1⟩
      ·have:=hel 0 (by omega);rw[ggE (by omega)] at this;obtain⟨cs',g1,_⟩:=Option.bind_eq_some_iff.1 this;rw[Nat.zero_mul] at g1;exact⟨cs',by simpa [Addr.add] using g1⟩
     obtain⟨_,g2,g3⟩:=World.cells?_some g1;have g4:=g3 0 c2;rw[ggE (by omega)] at g4;have e0:a.add 0=a:=by simp[Addr.add]
     rw[e0] at g4;obtain⟨c,et,fr,k1,hspot,k3⟩:=cell_blk g4;obtain⟨b,o,sp⟩:=a;simp only at hspot;subst hspot;have k1:W.heap[b]? =some (.cells c et fr):=k1;have k3:o<c.size:=(Array.getElem?_eq_some_iff.1 k3).1;subst hlen;obtain⟨rs,w1,w2⟩:=list_of elems.length (fun i (r:List Value×Nat)=>i<elems.length∧Lays Γ lim G W cts r.1 r.2∧seg c.toList (o+i * cts.length) cts.length=some r.1∧∃ y,elems[i]? =some y∧r.2+1≤Rows.uptoBulk y.1) fun i hi=>by
      have:=hel i hi;rw[ggE hi] at this;obtain⟨cs',g1,g2⟩:=Option.bind_eq_some_iff.1 this;obtain⟨_,g3,g4⟩:=World.cells?_some g1;have hbi:Rows.uptoBulk elems[i].1≤Rows.uptoBulkAll (elems.map (·.1)):=by
       have:∀ (l:List (DataW H)) d,d∈l→Rows.uptoBulk d≤Rows.uptoBulkAll l:=by
        intro l
        induction l with
        | nil=>intro d hd;cases hd
        | cons a l ih =>
          intro d hd;simp only[Rows.uptoBulkAll];rcases List.mem_cons.1 hd with rfl|hd
          ·omega
          ·have:=ih d hd;omega
       exact this _ _ (List.mem_map.2 ⟨elems[i],List.getElem_mem hi,rfl⟩)
      simp only[Rows.uptoBulk] at hb;refine⟨(cs',Rows.uptoBulk elems[i].1-1),hi,ih K' e cs' _ cts g2 c4 (by omega),?_,elems[i],ggE hi,by have:=bulk_one elems[i].1;show Rows.uptoBulk elems[i].1-1+1≤_;omega⟩;have hcell:∀ j,j<cts.length→c.toList[o+i * cts.length+j]? =cs'[j]? :=fun j hj=>by have:=g4 j hj;rw[add_eq (a:=⟨b,o,none⟩) rfl,add_eq rfl,cell_at (a:=⟨b,_,none⟩) k1 rfl] at this;rw[←this,Array.getElem?_toList]
      have hsz:o+i * cts.length+cts.length≤c.toList.length:=by have:=hcell (cts.length-1) (by omega);rw[ggE (by omega:cts.length-1<cs'.length)] at this;have:=(gsI this).1;omega
      obtain⟨r,hr⟩:=Az.seg_ex c.toList (o+i * cts.length) cts.length hsz;rw[hr]
      congr 1
      apply List.ext_getElem?;intro j;by_cases hj:j<cts.length
      ·rw[((seg_some hr).2 j hj).1];exact hcell j hj
      ·rw[List.getElem?_eq_none_iff.2 (by rw[(seg_some hr).1];omega),List.getElem?_eq_none_iff.2 (by show cs'.length≤j;omega)]
     have hseg:seg c.toList o (rs.length * cts.length)=some (rs.flatMap (·.1)):=seg_flat fun i r hr=>(w2 i r hr).2.2.1
     have hsum:(rs.map (·.2)).sum+rs.length≤Rows.uptoBulkAll (elems.map (·.1)):=by
      rw[bulk_sum];have:∀ (A:List (List Value×Nat)) (B:List (DataW H×List MemPlace)),A.length=B.length→(∀ (i:Nat) (r:List Value×Nat),A[i]? =some r→∃ y:DataW H×List MemPlace,B[i]? =some y∧r.2+1≤Rows.uptoBulk y.1)→(A.map (·.2)).sum+A.length≤((B.map (·.1)).map Rows.uptoBulk).sum:=by
       intro A
       induction A with
       | nil=>intro B _ _;simp
       | cons r A ihA =>
         intro B hl hB;cases B with
         | nil=>simp at hl
         | cons y B =>
           obtain⟨y',e1,e2⟩:=hB 0 r rfl;cases e1;have:=ihA B (by simpa using hl) fun i r hr=>hB (i+1) r hr
           simp only[List.map_cons,List.sum_cons,List.length_cons];omega
      exact this rs elems w1 fun i r hr=>(w2 i r hr).2.2.2
     have hL:=Lays.slice (G:=G) (Γ:=Γ) (lim:=lim) (W:=W) (q:=q) (rs:=rs) (b:=b) (o:=o) (cap:=cap) hng c1 c2 k1 (by unfold maxLen at hm;unfold UNK;omega) (fun r hr=>by
      obtain⟨i,hi⟩:=List.getElem?_of_mem hr;exact(w2 i r hi).2.1) (by
       rcases Nat.eq_zero_or_pos rs.length with h0|h0
       ·rw[h0,Nat.zero_mul];omega
       ·have h1:=((seg_some hseg).2 (rs.length * cts.length-1) (by have:=Nat.mul_le_mul_right cts.length h0;omega)).2;have h2:c.toList.length=c.size:=Array.length_toList;have h3:1 * cts.length≤rs.length * cts.length:=Nat.mul_le_mul_right cts.length h0;omega) (fun i x hx=>by
       have hi:i<rs.length * cts.length:=by have:=(gsI hx).1;rw[(seg_some hseg).1] at this;exact this
       rw[←Array.getElem?_toList,← ((seg_some hseg).2 i hi).1];exact hx) (by
       simp only[Rows.uptoBulk] at hb;omega)
     rw[←w1];refine hL.weak ?_;simp only[Rows.uptoBulk];omega
  ·cases hs
 ·
  rename_i fs ht;obtain⟨xs,n,hn,rfl,hl,hxl,hf⟩:=DataW.trod_struct ht h;cases hn;have key:∀ (fl:List Field) (xl:List (DataW H×List MemPlace)) (o:Nat) (ctl:List Az.CT),fl.length=xl.length→(∀ (i:Nat) (f:Field),fl[i]? =some f→DataW.trod enc P W 0 (fun _=>true) true F f.type ((cs.drop f.offset).take (P.cellsOf f.type))=xl[i]?)→shpF (shp P rc K) P (P.cellsOf t) fl o=some ctl→Rows.uptoBulkAll (xl.map (·.1))≤lim →
   Lays Γ lim G W ctl (cs.drop o) (Rows.uptoBulkAll (xl.map (·.1))):=by
   intro fl
   induction fl with
   | nil =>
     intro xl o ctl h1 _ h3 _;simp only[shpF,biE,beqT] at h3;split at h3
     ·rename_i e1;cases h3;rw[List.drop_of_length_le (by omega)];exact Lays.nil.weak (Nat.zero_le _)
     ·cases h3
   | cons f fl ihf =>
     intro xl o ctl h1 h2 h3 h4;cases xl with
     | nil=>simp at h1
     | cons y xl =>
       simp only[shpF] at h3;split at h3
       ·rename_i c hc;simp only[biE,baT,beqT,bleT] at h3;split at h3
        ·rename_i hcond;obtain⟨⟨e1,e2⟩,e3⟩:=hcond;split at h3
         ·rename_i r hr;cases h3;have hy:=h2 0 f rfl;simp only[List.getElem?_cons_zero] at hy;simp only[List.map_cons,Rows.uptoBulkAll] at h4 ⊢;have a:=ih K f.type _ y c hy hc (by omega);have b:=ihf xl (o+c.length) r (by simpa using h1) (fun i g hg=>by have:=h2 (i+1) g hg;simpa using this) hr (by omega);rw[e1,e2] at a;have:=(a.app b).weak (w':=Rows.uptoBulk y.1+Rows.uptoBulkAll (xl.map (·.1))) (by omega);rw[←List.drop_drop,List.take_append_drop] at this;exact this
         ·cases h3
        ·cases h3
       ·cases h3
  simp only[Rows.uptoBulk] at hb;have:=key fs.toList xs 0 cts (by rw[hxl];simp) (fun i f hi=>hf i f (by simpa using hi)) hs (by omega);rw[List.drop_zero] at this;refine this.weak ?_;simp only[Rows.uptoBulk];omega
 ·cases hs
end
end Go.Sx
namespace Go.Sx
open Go.Proofs
set_option maxRecDepth 100000
set_option maxHeartbeats 4000000
def tFn:TyI:={size:=1,bytes:=8,d:= .func #[63,3] #[4] false,zero:=[.nilFunc],zok:=true}
theorem ty89':(EE []).ty.get 89=some tFn:=by kernel_rfl
theorem ty89{l:List (FuncId×List (Ct×Value))}:(EE l).ty.get 89=some tFn:=ty89'
theorem lenA_str{l:List (FuncId×List (Ct×Value))}{h:T Blk}{n:Nat}{s:ByteArray}:builtinA (EE l) .len [9] [.string s] h n= .val (.int .i64 (s.size:Int)) h n:=by rfl
def KpX(bl n:Nat)(h h':T Blk):Prop:=∀ b,b<n→b≠bl→h'.get b=h.get b
theorem KpX.refl{bl n:Nat}{h:T Blk}:KpX bl n h h:=fun _ _ _=>rfl
theorem KpX.trans{bl n n':Nat}{h h1 h2:T Blk}(a:KpX bl n h h1)(hn:n≤n')(b:KpX bl n' h1 h2):KpX bl n h h2:=fun c hc hne=>by rw[b c (by omega) hne,a c hc hne]
theorem KpX.upd{bl n m:Nat}{h h':T Blk}(a:KpX bl n h h')(hm:n≤m)(k:Option Blk):KpX bl n h (h'.upd k m):=fun c hc hne=>by rw[T.gnE _ _ (by omega)];exact a c hc hne
theorem KpX.set{bl n:Nat}{h h':T Blk}(a:KpX bl n h h')(k:Option Blk):KpX bl n h (h'.upd k bl):=fun c hc hne=>by rw[T.gnE _ _ hne];exact a c hc hne
theorem KpX.ro{bl n:Nat}{h h':T Blk}(a:KpX bl n h h')(hf:Fresh h n){cs0:List Value}(hl:h.get bl=some (.cells cs0)):∀ b cs,h.get b=some (.ro cs)→h'.get b=some (.ro cs):=fun b cs hb=>by rw[a b (hf.lt hb) fun e=>by subst e;rw[hl] at hb;cases hb];exact hb
theorem rows_ro{α:Type}{k:Nat}{enc:α→List Value}{lim r q:Nat}{v:Value}{h h':T Blk}{xs:List α}(hd:Az.D Az.Γ0 lim h r (.sl q) v)(hr:RowsS k enc h v xs)(hh:∀ b cs,h.get b=some (.ro cs)→h'.get b=some (.ro cs)):RowsS k enc h' v xs:=by
 obtain⟨eb,c,rfl,h1,h2⟩:=hr;generalize hlen:xs.length=len at hd;have key:∀ a,eb=some a→∃ cs,h.get a.block=some (.ro cs):=fun a ha=>by
  subst ha;cases hd with
  | sl f hb=>exact⟨_,hb⟩
 subst hlen;refine⟨eb,c,rfl,fun a ha=>?_,fun i x hx=>?_⟩
 ·obtain⟨cs,hc⟩:=key a ha;exact⟨(h1 a ha).1,cs,cells_ro (hh _ _ hc)⟩
 ·obtain⟨b,o,cs,rfl,e1,e2⟩:=h2 i x hx;obtain⟨cs',hc⟩:=key _ rfl;have hc:h.get b=some (.ro cs'):=hc;rw[cells_ro hc] at e1;cases e1;exact⟨b,o,cs,rfl,cells_ro (hh _ _ hc),e2⟩
theorem D_back{Γ:List (List Az.CT)}{lim lim':Nat}{h h':T Blk}(hh:∀ b cs,h.get b=some (.ro cs)→h'.get b=some (.ro cs)){r:Nat}{ct:Az.CT}{v:Value}(hd:Az.D Γ lim h r ct v):∀ {r':Nat},Az.D Γ lim' h' r' ct v→Az.D Γ lim' h r' ct v:=by
 induction hd with
 | int h1 h2=>intro r' _;exact .int h1 h2
 | bool x=>intro r' _;exact .bool x
 | str h1=>intro r' _;exact .str h1
 | nil=>intro r' _;exact .nil
 | @sl r q b o l c cs cts f hb hq hp ho hs hl hc ih =>
   intro r' hd';cases hd' with
   | @sl _ _ _ _ _ _ cs' cts' f' hb' hq' hp' ho' hs' hl' hc' =>
     rw[hh _ _ hb] at hb';cases hb';rw[hq] at hq';cases hq';exact .sl f' hb hq hp ho hs' hl' fun i x ct hi hx hct=>ih i x ct hi hx hct (hc' i x ct hi hx hct)
abbrev PF(bl bp:Nat):Value:= .func (.func 30) ⟨[]⟩ ⟨[ptrTo bl,ptrTo bp]⟩
structure FS(bl bp:Nat)(z:Int)(h:T Blk)(n:Nat):Prop where
 fr:Fresh h n
 l1:bl<n
 l2:bp<n
 ne:bl≠bp
 gl:h.get bl=some (.cells [.int .i64 z])
 gp:h.get bp=some (.cells [PF bl bp])
 z0:0≤z
 z1:z≤1500
theorem FS.step{bl bp:Nat}{z z':Int}{h h':T Blk}{n n':Nat}(s:FS bl bp z h n)(hk:KpX bl n h h')(hn:n≤n')(hf:Fresh h' n')(hg:h'.get bl=some (.cells [.int .i64 z']))(h0:0≤z')(h1:z'≤1500):FS bl bp z' h' n' :=
 ⟨hf,by have:=s.l1;omega,by have:=s.l2;omega,s.ne,hg,by rw[hk bp s.l2 (Ne.symm s.ne)];exact s.gp,h0,h1⟩
def FO(bl:Nat)(z:Int)(h:T Blk)(n:Nat)(ok:Bool)(P:Nat→Prop)(h':T Blk)(n':Nat):Prop :=
 n≤n'∧Fresh h' n'∧KpX bl n h h'∧∃ z':Int,h'.get bl=some (.cells [.int .i64 z'])∧(ok=true→0≤z'∧∃ w:Nat,P w∧(w:Int)+z'≤z)
section
variable {l:List (FuncId×List (Ct×Value))}(hl:MemoK l)
include hl
theorem idxT_cl{lim r:Nat}{v:Value}{g bl bp:Nat}{cs:List Value}{fn:Func}{z:Int}{h:T Blk}{n:Nat}(hg:(EE l).fn.get g=some fn)(hs:FS bl bp z h n)(hd:Az.D Az.Γ0 lim h r (.sl 2) v)(hlim:lim≤16000000)
 (hc:∀ (t:TmRow) (u:Nat),u<r→R64 t.kd→R64 t.nm→t.st.size≤16000000→Az.D Az.Γ0 lim h u (.sl 2) (slV t.ks)→∀ H N z1,n≤N→KpX bl n h H→FS bl bp z1 H N→∃ ok h' n',Cl (EE l) g (.agg ⟨tmL t⟩ :: cs) H N (.ret (.bool (!ok)) h' n')∧FO bl z1 H N ok (fun w=>1≤w∧Az.D Az.Γ0 4400 h (w-1) (.sl 2) (slV t.ks)) h' n') :
 ∃ ok rr h' n',Cl (EE l) 66 [v,.func (.func g) ⟨[]⟩ ⟨cs⟩] h n (.ret (.int .i64 rr) h' n')∧(ok=true→rr<0)∧(ok=false→0≤rr)∧FO bl z h n ok (fun w=>Az.D Az.Γ0 4400 h w (.sl 2) v) h' n':=by
 obtain⟨ts,hr,W,hW,hlm,hrow⟩:=rows_of_D (enc:=tmL) hd rfl tm_dec;have hlen:ts.length≤16000000:=by
  cases ts with
  | nil=>exact Nat.zero_le _
  | cons t ts=>have:=hlm (by simp);omega
 have key:∃ w h' n',Cl (EE l) 66 [v,.func (.func g) ⟨[]⟩ ⟨cs⟩] h n (.ret w h' n')∧∃ ok rr,w= .int .i64 rr∧(ok=true→rr<0)∧(ok=false→0≤rr)∧FO bl z h n ok (fun w=>Az.D Az.Γ0 4400 h w (.sl 2) v) h' n':=by
  refine Cl.wl (many:=19) (memo_no hl (by decide)) rfl fk66 rfl rfl rfl rfl ?_;refine WL.seq (WL.reg ?_);refine OL.asg ?_;refine OL.nil (WL.seq (WL.seq (WL.reg ?_)));refine OL.mv ?_;refine OL.bi (hr.len ty25) ?_;refine OL.mv ?_;refine OL.nil (WL.block ?_);refine WL.loop (k:=ts.length) (fun m L H N=>∃ i:Nat,i≤ts.length∧m=ts.length-i∧Sub [(8,.int .i64 (i:Int)),(7,.int .i64 (ts.length:Int)),(1,.func (.func g) ⟨[]⟩ ⟨cs⟩),(0,v)] L∧KpX bl n h H∧n≤N∧∃ z1,FS bl bp z1 H N∧∃ V:Nat→Nat,((Az.sumF V i+i:Nat):Int)+z1≤z∧∀ (j:Nat) (y:TmRow),j<i→ts[j]? =some y→RowD Az.Γ0 4400 h tmC (V j) (tmL y)) ?_
   ⟨0,Nat.zero_le _,rfl,(by repeat (first|exact Sub.nil|refine Sub.cons rfl ?_)),KpX.refl,nlR _,z,hs,fun _=>0,by show((0:Nat):Int)+z≤z;omega,fun j y hj=>absurd hj (Nat.not_lt_zero j)⟩
  rintro m L H N ⟨i,hi,rfl,hsub,hk,hn,z1,hS,V,hV,hall⟩;refine WL.keep hsub ?_;refine WL.seq (WL.reg ?_);by_cases c1:(i:Int)<(ts.length:Int)
  ·obtain⟨x,hx⟩:∃ x,ts[i]? =some x:=⟨_,ggE (by omega)⟩
   have hro:=hk.ro hs.fr hs.gl;obtain⟨b,o,q1,q2,_⟩:=(rows_ro hd hr hro).at (E:=EE l) ty25 ty63 rfl rfl hx;obtain⟨k1,k2,k3,u,k4,k5⟩:=tm_row (hrow i x hx);obtain⟨ok,h2,n2,g1,g2,g3,g4,z2,g5,g6⟩:=hc x u (by have:=Az.sumF_le W (show i<ts.length by omega);omega) k1 k2 k3 k5 H N z1 hn hk hS;refine OL.bT ?_;refine OL.nil (WL.seq (WL.condT rfl (WL.skip ?_)));refine WL.seq (WL.block (WL.seq (WL.reg ?_)));refine OL.mv ?_;refine OL.asg ?_;refine OL.nil (WL.seq (WL.reg ?_));(iterate 3 refine OL.mv ?_);refine OL.ix q1 ?_;refine OL.ld q2 ?_;refine OL.cv hg g1 ?_;cases ok with
   | false =>
     refine OL.nil (WL.condT rfl (WL.seq (WL.reg ?_)));refine OL.mv ?_;refine OL.asg ?_;exact OL.nil (WL.ret ⟨fun id e=>(by cases e),[_],⟨rfl,rfl⟩,false,_,rfl,fun e=>(by cases e),fun _=>by omega,by omega,g3,hk.trans hn g4,z2,g5,fun e=>(by cases e)⟩)
   | true =>
     obtain⟨e1,w,⟨e2,e3⟩,e4⟩:=g6 rfl;refine OL.nil (WL.condF rfl (WL.skip (WL.reg ?_)));refine OL.ad1 ?_;refine OL.mv ?_;refine OL.nil ⟨ts.length-(i+1),by omega,i+1,by omega,rfl,(by repeat (first|exact Sub.nil|refine Sub.cons rfl ?_)),hk.trans hn g4,by omega,z2,hS.step g4 g2 g3 g5 e1 (by have:=hS.z1;omega),fun p=>if p=i then w-1 else V p,?_,fun j y hj hy=>?_⟩
     ·rw[sumF_set];omega
     ·rcases Nat.lt_or_ge j i with h1|h1
      ·simp only[if_neg (show j≠i by omega)];exact hall j y h1 hy
      ·have:j=i:=by omega
       subst this;rw[hx] at hy;cases hy;simp only[if_pos];exact tm_mk k1 k2 k3 e3
  ·refine OL.bF ?_;refine OL.nil (WL.seq (WL.condF rfl (WL.exit ?_)));refine WL.seq (WL.reg ?_);refine OL.asg ?_;have hiL:i=ts.length:=by omega
   subst hiL;refine OL.nil (WL.ret ⟨fun id e=>(by cases e),[_],⟨rfl,rfl⟩,true,_,rfl,fun _=>by omega,fun e=>(by cases e),hn,hS.fr,hk,z1,hS.gl,fun _=>⟨hS.z0,_,?_,hV⟩⟩);exact D_of_rows hd rfl hr (fun j y hy=>hall j y (gsI hy).1 hy) (nlR _) (by have:=hs.z1;have:=hS.z0;omega)
 obtain⟨w,h',n',k1,ok,rr,rfl,k2⟩:=key;exact⟨ok,rr,h',n',k1,k2⟩
theorem conT_cl{lim r:Nat}{v:Value}{g bl bp:Nat}{cs:List Value}{fn:Func}{z:Int}{h:T Blk}{n:Nat}(hg:(EE l).fn.get g=some fn)(hs:FS bl bp z h n)(hd:Az.D Az.Γ0 lim h r (.sl 2) v)(hlim:lim≤16000000)
 (hc:∀ (t:TmRow) (u:Nat),u<r→R64 t.kd→R64 t.nm→t.st.size≤16000000→Az.D Az.Γ0 lim h u (.sl 2) (slV t.ks)→∀ H N z1,n≤N→KpX bl n h H→FS bl bp z1 H N→∃ ok h' n',Cl (EE l) g (.agg ⟨tmL t⟩ :: cs) H N (.ret (.bool (!ok)) h' n')∧FO bl z1 H N ok (fun w=>1≤w∧Az.D Az.Γ0 4400 h (w-1) (.sl 2) (slV t.ks)) h' n') :
 ∃ ok h' n',Cl (EE l) 31 [v,.func (.func g) ⟨[]⟩ ⟨cs⟩] h n (.ret (.bool (!ok)) h' n')∧FO bl z h n ok (fun w=>Az.D Az.Γ0 4400 h w (.sl 2) v) h' n':=by
 have key:∃ w h' n',Cl (EE l) 31 [v,.func (.func g) ⟨[]⟩ ⟨cs⟩] h n (.ret w h' n')∧∃ ok,w= .bool (!ok)∧FO bl z h n ok (fun w=>Az.D Az.Γ0 4400 h w (.sl 2) v) h' n':=by
  obtain⟨ok,rr,h',n',q1,q2,q3,q4⟩:=idxT_cl hl hg hs hd hlim hc;refine Cl.wl (many:=9) (memo_no hl (by decide)) rfl fk31 rfl rfl rfl rfl ?_;refine WL.seq (WL.reg ?_);refine OL.asg ?_;refine OL.nil (WL.seq (WL.reg ?_));(iterate 2 refine OL.mv ?_);refine OL.cf fk66 q1 ?_;cases ok with
  | false =>
    have:=q3 rfl;refine OL.bT ?_;refine OL.asg ?_;exact OL.nil (WL.ret ⟨fun id e=>(by cases e),[_],⟨rfl,rfl⟩,false,rfl,q4⟩)
  | true =>
    have:=q2 rfl;refine OL.bF ?_;refine OL.asg ?_;exact OL.nil (WL.ret ⟨fun id e=>(by cases e),[_],⟨rfl,rfl⟩,true,rfl,q4⟩)
 obtain⟨w,h',n',k1,ok,rfl,k2⟩:=key;exact⟨ok,h',n',k1,k2⟩
theorem in32_cl{t:TmRow}{bl bp bd:Nat}{z deep:Int}{H:T Blk}{N:Nat}{P:Nat→Prop}(hS:FS bl bp z H N)(hd:H.get bd=some (.cells [.int .i64 deep]))(hbd:bd<N)(h0:0≤deep)(h1:deep<60)
 (hc:∀ H' N',N≤N'→KpX bl N H H'→FS bl bp z H' N'→∃ ok h' n',Cl (EE l) 30 [.agg ⟨tmL t⟩,.int .i64 (deep+1),ptrTo bl,ptrTo bp] H' N' (.ret (.bool ok) h' n')∧FO bl z H' N' ok P h' n') :
 ∃ ok h' n',Cl (EE l) 32 [.agg ⟨tmL t⟩,ptrTo bp,ptrTo bd] H N (.ret (.bool (!ok)) h' n')∧FO bl z H N ok P h' n':=by
 have key:∃ w h' n',Cl (EE l) 32 [.agg ⟨tmL t⟩,ptrTo bp,ptrTo bd] H N (.ret w h' n')∧∃ ok,w= .bool (!ok)∧FO bl z H N ok P h' n':=by have f0:=hS.fr;have l1:=hS.l1;have l2:=hS.l2;have k1:KpX bl N H (H.upd (some (.cells (tmL t))) N):=KpX.refl.upd (nlR _) _;have hgp:=hS.gp;obtain⟨ok,h2,n2,g1,g2,g3,g4,g5⟩:=hc _ (N+1) (by omega) k1 (hS.step k1 (by omega) (f0.upd _) (by rw[T.gnE _ _ (by omega)];exact hS.gl) hS.z0 hS.z1);refine Cl.wl (many:=11) (memo_no hl (by decide)) rfl fk32 rfl rfl rfl rfl ?_;refine WL.seq (WL.reg ?_);refine OL.bx ?_;refine OL.asg ?_;refine OL.nil (WL.seq (WL.reg ?_));refine OL.l1 ty89 ?_;refine OL.la ty63 ?_;refine OL.l1 ty3 ?_;refine OL.ad ?_;refine OL.cv fk30 g1 ?_;refine OL.un ?_;refine OL.asg ?_;exact OL.nil (WL.ret ⟨fun id e=>(by cases e),[_],⟨rfl,rfl⟩,ok,rfl,by omega,g3,k1.trans (by omega) g4,g5⟩)
 obtain⟨w,h',n',k1,ok,rfl,k2⟩:=key;exact⟨ok,h',n',k1,k2⟩
theorem plain_cl{lim:Nat}(hlim:lim≤16000000):∀ (r:Nat){t:TmRow}{bl bp:Nat}{z deep:Int}{h:T Blk}{n:Nat},t.st.size≤16000000→Az.D Az.Γ0 lim h r (.sl 2) (slV t.ks)→FS bl bp z h n→0≤deep→deep≤60 →
 ∃ ok h' n',Cl (EE l) 30 [.agg ⟨tmL t⟩,.int .i64 deep,ptrTo bl,ptrTo bp] h n (.ret (.bool ok) h' n')∧FO bl z h n ok (fun w=>1≤w∧Az.D Az.Γ0 4400 h (w-1) (.sl 2) (slV t.ks)) h' n':=by
 intro r
 induction r using Nat.strongRecOn with
 | ind r ih =>
 intro t bl bp z deep h n hst hd hS d0 d1;have key:∃ w h' n',Cl (EE l) 30 [.agg ⟨tmL t⟩,.int .i64 deep,ptrTo bl,ptrTo bp] h n (.ret w h' n')∧∃ ok,w= .bool ok∧FO bl z h n ok (fun w=>1≤w∧Az.D Az.Γ0 4400 h (w-1) (.sl 2) (slV t.ks)) h' n':=by
  have f0:=hS.fr;have l1:=hS.l1;have l2:=hS.l2;have hgl:=hS.gl;have z0:=hS.z0;have z1:=hS.z1;refine Cl.wl (many:=28) (memo_no hl (by decide)) rfl fk30 rfl rfl rfl rfl ?_;refine WL.seq (WL.reg ?_);(iterate 2 refine OL.bx ?_);refine OL.asg ?_;refine OL.nil (WL.seq (WL.reg ?_));refine OL.l1 ty3 ?_;refine OL.sb ?_;have hgl2:((h.upd (some (.cells (tmL t))) n).upd (some (.cells [.int .i64 deep])) (n+1)).get bl=some (.cells [.int .i64 z]):=by rw[T.gnE _ _ (by omega),T.gnE _ _ (by omega)];exact hgl
  refine OL.sn ty3 hgl2 ?_;refine OL.nil ?_;refine WL.heap (fun H=>H.get n=some (.cells (tmL t))∧H.get (n+1)=some (.cells [.int .i64 deep])∧H.get bl=some (.cells [.int .i64 (z-1)])∧Fresh H (n+1+1)∧KpX bl n h H) ⟨?_,?_,T.gsE _ _ _,?_,?_⟩ ?_
  ·rw[T.gnE _ _ (by omega),T.gnE _ _ (by omega)];exact T.gsE _ _ _
  ·rw[T.gnE _ _ (by omega)];exact T.gsE _ _ _
  ·exact((f0.upd _).upd _).set (by omega) _
  ·exact((KpX.refl.upd (nlR _) _).upd (by omega) _).set _
  rintro H0 ⟨y0,y1,y2,fr0,k0⟩;refine WL.seq (WL.reg ?_);refine OL.l1 ty3 ?_;by_cases c1:(0:Int)≤z-1
  ·refine OL.bT (hp:=show z-1≥0 from c1) ?_;refine OL.mv ?_;refine OL.l1 ty3 ?_;by_cases c2:deep<60
   ·refine OL.bT ?_;refine OL.pT ?_;refine OL.mv ?_;refine OL.fd fo63_2 ?_;refine OL.l1 ty9 ?_;refine OL.bi lenA_str ?_;by_cases c3:(t.st.size:Int)≤300
    ·refine OL.bT ?_;refine OL.pT ?_;refine OL.mv ?_;refine OL.fd fo63_3 ?_;refine OL.l1 ty25 ?_;refine OL.val (by first|rfl|exact WantL.yes rfl rfl rfl) (D.makeFunc rfl rfl rfl) rfl rfl ?_;have hS0:FS bl bp (z-1) H0 (n+1+1):=hS.step k0 (by omega) fr0 y2 c1 (by omega);have ro0:=k0.ro hS.fr hS.gl;obtain⟨ok,h2,n2,g1,g2,g3,g4,z2,g5,g6⟩:=conT_cl hl (cs:=[ptrTo bp,ptrTo (n+1)]) fk32 hS0 (hd.mono ro0) hlim fun t' u hu e1 e2 e3 e4 H N z3 hN hk hS3 =>
      in32_cl hl (t:=t') (deep:=deep) (bd:=n+1) hS3 (by rw[hk (n+1) (by omega) (by omega)];exact y1) (by omega) d0 c2 fun H' N' hN' hk' hS'=>by have ro1:=hk.ro fr0 y2;have ro2:=hk'.ro hS3.fr hS3.gl;obtain⟨ok,h',n',q1,q2,q3,q4,z4,q5,q6⟩:=ih u hu (deep:=deep+1) e3 (e4.mono fun b cs hb=>ro2 b cs (ro1 b cs hb)) hS' (by omega) (by omega);refine⟨ok,h',n',q1,q2,q3,q4,z4,q5,fun e=>?_⟩;obtain⟨w1,w2,⟨w3,w4⟩,w5⟩:=q6 e;exact⟨w1,w2,⟨w3,D_back (fun b cs hb=>ro2 b cs (ro1 b cs hb)) e4 w4⟩,w5⟩
     refine OL.cf fk31 g1 ?_;refine OL.un ?_;refine OL.pT ?_;refine OL.asg ?_;refine OL.nil (WL.ret ⟨fun id e=>(by cases e),[_],⟨rfl,rfl⟩,ok,by cases ok<;>rfl,by omega,g3,k0.trans (by omega) g4,z2,g5,fun e=>?_⟩);obtain⟨w1,w2,w3,w4⟩:=g6 e;exact⟨w1,w2+1,⟨by omega,D_back ro0 hd w3⟩,by omega⟩
    ·refine OL.bF ?_;(iterate 7 (first|refine OL.pT ?_|refine OL.mv ?_|refine OL.ps ?_));refine OL.pF ?_;refine OL.asg ?_;exact OL.nil (WL.ret ⟨fun id e=>(by cases e),[_],⟨rfl,rfl⟩,false,rfl,by omega,fr0,k0,z-1,y2,fun e=>(by cases e)⟩)
   ·refine OL.bF ?_;(iterate 14 (first|refine OL.pT ?_|refine OL.mv ?_|refine OL.ps ?_|refine OL.pF ?_));refine OL.asg ?_;exact OL.nil (WL.ret ⟨fun id e=>(by cases e),[_],⟨rfl,rfl⟩,false,rfl,by omega,fr0,k0,z-1,y2,fun e=>(by cases e)⟩)
  ·refine OL.bF (hp:=show ¬ (z-1≥0) from c1) ?_;(iterate 17 (first|refine OL.mv ?_|refine OL.ps ?_|refine OL.pF ?_));refine OL.asg ?_;exact OL.nil (WL.ret ⟨fun id e=>(by cases e),[_],⟨rfl,rfl⟩,false,rfl,by omega,fr0,k0,z-1,y2,fun e=>(by cases e)⟩)
 obtain⟨w,h',n',k1,ok,rfl,k2⟩:=key;exact⟨ok,h',n',k1,k2⟩
end
set_option maxHeartbeats 8000000
theorem pr_dec{lim:Nat}{h:T Blk}(row:List Value)(w:Nat)(hl:row.length=prC.length)(hr:RowD Az.Γ0 lim h prC w row):∃ a,prL a=row:=by
 obtain⟨g,_,h2⟩:=hr
 match row,hl with
 | [a,b,c],_ =>
   obtain⟨x,rfl,_⟩:=D_str (h2 0 a _ rfl rfl);obtain⟨y,rfl,_⟩:=D_int (h2 1 b _ rfl rfl);obtain⟨s,rfl⟩:=D_sl (h2 2 c _ rfl rfl);exact⟨⟨x,y,s,[]⟩,rfl⟩
theorem cl_row{lim:Nat}{h:T Blk}{w:Nat}{c:ClRow}(hr:RowD Az.Γ0 lim h clC w (clL c)):R64 c.mark∧R64 c.vars∧(∃ u,u≤w∧Az.D Az.Γ0 lim h u (.sl 2) (slV c.hd))∧(∃ u,u≤w∧Az.D Az.Γ0 lim h u (.sl 2) (slV c.gd))∧∃ u,u≤w∧Az.D Az.Γ0 lim h u (.sl 2) (slV c.bd):=by obtain⟨g,h1,h2⟩:=hr;have e:Az.sumF g 5=0+g 0+g 1+g 2+g 3+g 4:=rfl;have h1:Az.sumF g 5≤w:=h1;obtain⟨x,e1,hx⟩:=D_int (h2 0 _ _ rfl rfl);cases e1;obtain⟨x,e1,hy⟩:=D_int (h2 1 _ _ rfl rfl);cases e1;exact⟨hx,hy,⟨g 2,by omega,h2 2 _ _ rfl rfl⟩,⟨g 3,by omega,h2 3 _ _ rfl rfl⟩,g 4,by omega,h2 4 _ _ rfl rfl⟩
theorem cl_mk{lim:Nat}{h:T Blk}{w1 w2 w3:Nat}{c:ClRow}(hx:R64 c.mark)(hy:R64 c.vars)(h1:Az.D Az.Γ0 lim h w1 (.sl 2) (slV c.hd))(h2:Az.D Az.Γ0 lim h w2 (.sl 2) (slV c.gd))(h3:Az.D Az.Γ0 lim h w3 (.sl 2) (slV c.bd)):RowD Az.Γ0 lim h clC (w1+w2+w3) (clL c):=by
 refine⟨fun k=>if k=2 then w1 else if k=3 then w2 else if k=4 then w3 else 0,?_,fun k x ct hx' hct=>?_⟩
 ·show 0+0+0+w1+w2+w3≤w1+w2+w3;omega
 ·match k,hx',hct with
  | 0,e1,e2=>cases e1;cases e2;exact .int hx.1 hx.2
  | 1,e1,e2=>cases e1;cases e2;exact .int hy.1 hy.2
  | 2,e1,e2=>cases e1;cases e2;exact h1
  | 3,e1,e2=>cases e1;cases e2;exact h2
  | 4,e1,e2=>cases e1;cases e2;exact h3
  | k+5,e1,_=>simp at e1
theorem pr_row{lim:Nat}{h:T Blk}{w:Nat}{p:PrRow}(hr:RowD Az.Γ0 lim h prC w (prL p)):p.name.size≤16000000∧R64 p.ar∧∃ u,u≤w∧Az.D Az.Γ0 lim h u (.sl 1) (slV p.cv):=by obtain⟨g,h1,h2⟩:=hr;have e:Az.sumF g 3=0+g 0+g 1+g 2:=rfl;have h1:Az.sumF g 3≤w:=h1;obtain⟨x,e1,hx⟩:=D_str (h2 0 _ _ rfl rfl);cases e1;obtain⟨x,e1,hy⟩:=D_int (h2 1 _ _ rfl rfl);cases e1;exact⟨hx,hy,g 2,by omega,h2 2 _ _ rfl rfl⟩
theorem pr_mk{lim:Nat}{h:T Blk}{w:Nat}{p:PrRow}(hx:p.name.size≤16000000)(hy:R64 p.ar)(hd:Az.D Az.Γ0 lim h w (.sl 1) (slV p.cv)):RowD Az.Γ0 lim h prC w (prL p):=by
 refine⟨fun k=>if k=2 then w else 0,?_,fun k x ct hx' hct=>?_⟩
 ·show 0+0+0+w≤w;omega
 ·match k,hx',hct with
  | 0,e1,e2=>cases e1;cases e2;exact .str hx
  | 1,e1,e2=>cases e1;cases e2;exact .int hy.1 hy.2
  | 2,e1,e2=>cases e1;cases e2;exact hd
  | k+3,e1,_=>simp at e1
section
variable {l:List (FuncId×List (Ct×Value))}(hl:MemoK l)
include hl
theorem in34_cl{lim u:Nat}(hlim:lim≤16000000){t:TmRow}{bl bp:Nat}{z:Int}{H:T Blk}{N:Nat}(hst:t.st.size≤16000000)(hd:Az.D Az.Γ0 lim H u (.sl 2) (slV t.ks))(hS:FS bl bp z H N) :
 ∃ ok h' n',Cl (EE l) 34 [.agg ⟨tmL t⟩,ptrTo bp] H N (.ret (.bool (!ok)) h' n')∧FO bl z H N ok (fun w=>1≤w∧Az.D Az.Γ0 4400 H (w-1) (.sl 2) (slV t.ks)) h' n':=by
 have key:∃ w h' n',Cl (EE l) 34 [.agg ⟨tmL t⟩,ptrTo bp] H N (.ret w h' n')∧∃ ok,w= .bool (!ok)∧FO bl z H N ok (fun w=>1≤w∧Az.D Az.Γ0 4400 H (w-1) (.sl 2) (slV t.ks)) h' n':=by
  have f0:=hS.fr;have l1:=hS.l1;have l2:=hS.l2;have k1:KpX bl N H (H.upd (some (.cells (tmL t))) N):=KpX.refl.upd (nlR _) _;have ro1:=k1.ro f0 hS.gl;have hgp:=hS.gp;obtain⟨ok,h2,n2,g1,g2,g3,g4,z2,g5,g6⟩:=plain_cl hl hlim u (deep:=0) hst (hd.mono ro1) (hS.step k1 (by omega) (f0.upd _) (by rw[T.gnE _ _ (by omega)];exact hS.gl) hS.z0 hS.z1) (by omega) (by omega);refine Cl.wl (many:=8) (memo_no hl (by decide)) rfl fk34 rfl rfl rfl rfl ?_;refine WL.seq (WL.reg ?_);refine OL.bx ?_;refine OL.asg ?_;refine OL.nil (WL.seq (WL.reg ?_));refine OL.l1 ty89 ?_;refine OL.la ty63 ?_;refine OL.cv fk30 g1 ?_;refine OL.un ?_;refine OL.asg ?_;refine OL.nil (WL.ret ⟨fun id e=>(by cases e),[_],⟨rfl,rfl⟩,ok,rfl,by omega,g3,k1.trans (by omega) g4,z2,g5,fun e=>?_⟩);obtain⟨w1,w2,⟨w3,w4⟩,w5⟩:=g6 e;exact⟨w1,w2,⟨w3,D_back ro1 hd w4⟩,w5⟩
 obtain⟨w,h',n',k1,ok,rfl,k2⟩:=key;exact⟨ok,h',n',k1,k2⟩
theorem large_cl{lim r:Nat}(hlim:lim≤16000000){v:Value}{bl bp:Nat}{z:Int}{h:T Blk}{n:Nat}(hd:Az.D Az.Γ0 lim h r (.sl 2) v)(hS:FS bl bp z h n) :
 ∃ ok h' n',Cl (EE l) 33 [v,ptrTo bp] h n (.ret (.bool (!ok)) h' n')∧FO bl z h n ok (fun w=>Az.D Az.Γ0 4400 h w (.sl 2) v) h' n':=by
 have key:∃ w h' n',Cl (EE l) 33 [v,ptrTo bp] h n (.ret w h' n')∧∃ ok,w= .bool (!ok)∧FO bl z h n ok (fun w=>Az.D Az.Γ0 4400 h w (.sl 2) v) h' n':=by
  obtain⟨ok,h2,n2,g1,g2⟩:=conT_cl hl (cs:=[ptrTo bp]) fk34 hS hd hlim fun t u hu e1 e2 e3 e4 H N z3 hN hk hS3=>by have ro1:=hk.ro hS.fr hS.gl;obtain⟨ok,h',n',q1,q2,q3,q4,z4,q5,q6⟩:=in34_cl hl hlim e3 (e4.mono ro1) hS3;refine⟨ok,h',n',q1,q2,q3,q4,z4,q5,fun e=>?_⟩;obtain⟨w1,w2,⟨w3,w4⟩,w5⟩:=q6 e;exact⟨w1,w2,⟨w3,D_back ro1 e4 w4⟩,w5⟩
  refine Cl.wl (many:=7) (memo_no hl (by decide)) rfl fk33 rfl rfl rfl rfl ?_;refine WL.seq (WL.reg ?_);refine OL.asg ?_;refine OL.nil (WL.seq (WL.reg ?_));refine OL.mv ?_;refine OL.val (by first|rfl|exact WantL.yes rfl rfl rfl) (D.makeFunc rfl rfl rfl) rfl rfl ?_;refine OL.cf fk31 g1 ?_;refine OL.asg ?_;exact OL.nil (WL.ret ⟨fun id e=>(by cases e),[_],⟨rfl,rfl⟩,ok,rfl,g2⟩)
 obtain⟨w,h',n',k1,ok,rfl,k2⟩:=key;exact⟨ok,h',n',k1,k2⟩
end
section
variable {l:List (FuncId×List (Ct×Value))}(hl:MemoK l)
include hl
theorem few_cl{lim r0 r1:Nat}(hlim:lim≤16000000){vP:Value}{qn:Int}{g:SlT}{h:T Blk}{n:Nat}(hf:Fresh h n)(hP:Az.D Az.Γ0 lim h r0 (.sl 0) vP)(hg:Az.D Az.Γ0 lim h r1 (.sl 2) (slV g)) :
 ∃ bf h' n',Cl (EE l) 6 [.agg ⟨[vP]⟩,.agg ⟨[.int .i64 qn,slV g]⟩] h n (.ret (.bool bf) h' n')∧Keep n h h'∧n≤n'∧Fresh h' n'∧(bf=true→(∃ w,Az.D Az.Γ0 4400 h w (.sl 0) vP)∧∃ w,Az.D Az.Γ0 4400 h w (.sl 2) (slV g)):=by
 obtain⟨ps,hr,W,hW,hlm,hrow⟩:=rows_of_D (enc:=prL) hP rfl pr_dec;have hlen:ps.length≤16000000:=by
  cases ps with
  | nil=>exact Nat.zero_le _
  | cons t ts=>have:=hlm (by simp);omega
 have key:∃ w h' n',Cl (EE l) 6 [.agg ⟨[vP]⟩,.agg ⟨[.int .i64 qn,slV g]⟩] h n (.ret w h' n')∧∃ bf,w= .bool bf∧Keep n h h'∧n≤n'∧Fresh h' n'∧(bf=true→(∃ w,Az.D Az.Γ0 4400 h w (.sl 0) vP)∧∃ w,Az.D Az.Γ0 4400 h w (.sl 2) (slV g)):=by
  refine Cl.wl (many:=65) (memo_no hl (by decide)) rfl fk6 rfl rfl rfl rfl ?_;refine WL.seq (WL.reg ?_);(iterate 2 refine OL.bx ?_);refine OL.asg ?_;refine OL.nil ?_;refine WL.heap (fun H=>H.get n=some (.cells [vP])∧H.get (n+1)=some (.cells [.int .i64 qn,slV g])∧Fresh H (n+1+1)∧Keep n h H) ⟨?_,T.gsE _ _ _,(hf.upd _).upd _,((Keep.refl n h).upd (nlR _) _).upd (by omega) _⟩ ?_
  ·rw[T.gnE _ _ (by omega)];exact T.gsE _ _ _
  rintro H0 ⟨y0,y1,f0,k0⟩;refine WL.seq (WL.seq (WL.reg ?_));refine OL.fd fo24_0 ?_;refine OL.l1 ty22 ?_;refine OL.bi (hr.len ty22) ?_;by_cases c1:(ps.length:Int)>70
  ·refine OL.bT ?_;(iterate 5 (first|refine OL.mv ?_|refine OL.ps ?_));refine OL.pT ?_;refine OL.nil (WL.condT rfl (WL.seq (WL.reg ?_)));refine OL.asg ?_;exact OL.nil (WL.ret ⟨fun id e=>(by cases e),[_],⟨rfl,rfl⟩,false,rfl,k0,by omega,f0,fun e=>(by cases e)⟩)
  refine OL.bF ?_;refine OL.mv ?_;refine OL.fd fo27_1 ?_;refine OL.l1 ty25 ?_;refine OL.bi (lenA_slice ty25) ?_;by_cases c2:(g.2.1:Int)>40
  ·refine OL.bT ?_;refine OL.pF ?_;refine OL.nil (WL.condT rfl (WL.seq (WL.reg ?_)));refine OL.asg ?_;exact OL.nil (WL.ret ⟨fun id e=>(by cases e),[_],⟨rfl,rfl⟩,false,rfl,k0,by omega,f0,fun e=>(by cases e)⟩)
  refine OL.bF ?_;refine OL.pF ?_;refine OL.nil (WL.condF rfl (WL.skip ?_));refine WL.seq (WL.reg ?_);refine OL.al ty3 ?_;refine OL.sn ty3 (T.gsE _ _ _) ?_;refine OL.nil (WL.seq (WL.reg ?_));refine OL.al ty89 ?_;refine OL.nil (WL.seq (WL.reg ?_));refine OL.val (by first|rfl|exact WantL.yes rfl rfl rfl) (D.makeFunc rfl rfl rfl) rfl rfl ?_;refine OL.sn ty89 (T.gsE _ _ _) ?_;refine OL.nil (WL.seq (WL.reg ?_));refine OL.val (by first|rfl|exact WantL.yes rfl rfl rfl) (D.makeFunc rfl rfl rfl) rfl rfl ?_;refine OL.asg ?_;refine OL.nil ?_;refine WL.heap (fun H=>H.get n=some (.cells [vP])∧H.get (n+1)=some (.cells [.int .i64 qn,slV g])∧Keep n h H∧FS (n+1+1) (n+1+1+1) 1500 H (n+1+1+1+1)) ⟨?_,?_,?_,?_⟩ ?_
  ·rw[T.gnE _ _ (by omega),T.gnE _ _ (by omega),T.gnE _ _ (by omega),T.gnE _ _ (by omega)];exact y0
  ·rw[T.gnE _ _ (by omega),T.gnE _ _ (by omega),T.gnE _ _ (by omega),T.gnE _ _ (by omega)];exact y1
  ·exact(((k0.upd (by omega) _).upd (by omega) _).upd (by omega) _).upd (by omega) _
  ·exact⟨(((f0.upd _).set (Nat.lt_succ_self _) _).upd _).set (Nat.lt_succ_self _) _,by omega,by omega,by omega,by rw[T.gnE _ _ (by omega),T.gnE _ _ (by omega)];exact T.gsE _ _ _,T.gsE _ _ _,by omega,by omega⟩
  rintro H1 ⟨z0,z1,k1,hS⟩;have kn:∀ {H},KpX (n+1+1) (n+1+1+1+1) H1 H→Keep n h H:=fun {H} hk b hb=>by rw[hk b (by omega) (by omega)];exact k1 b hb
  have ron:∀ {H},Keep n h H→∀ b cs,h.get b=some (.ro cs)→H.get b=some (.ro cs):=fun {H} hk b cs hb=>by rw[hk b (hf.lt hb)];exact hb
  refine WL.seq (WL.seq (WL.reg ?_));refine OL.fd fo24_0 ?_;refine OL.l1 ty22 ?_;refine OL.bi (hr.len ty22) ?_;refine OL.mv ?_;refine OL.nil (WL.block ?_);refine WL.loop (k:=ps.length) (fun m L H N=>∃ i:Nat,i≤ps.length∧m=ps.length-i∧Sub [(27,.int .i64 (i:Int)),(26,.int .i64 (ps.length:Int)),(25,vP),(3,ptrTo (n+1)),(7,(.func (.func 33) ⟨[]⟩ ⟨[ptrTo (n+1+1+1)]⟩))] L∧KpX (n+1+1) (n+1+1+1+1) H1 H∧(n+1+1+1+1)≤N∧∃ z1,FS (n+1+1) (n+1+1+1) z1 H N∧∃ V:Nat→Nat,(Az.sumF V i:Int)+z1≤1500+40 * (i:Int)∧∀ (j:Nat) (y:PrRow),j<i→ps[j]? =some y→RowD Az.Γ0 4400 h prC (V j) (prL y)) ?_
   ⟨0,Nat.zero_le _,rfl,(by repeat (first|exact Sub.nil|refine Sub.cons rfl ?_)),KpX.refl,nlR _,1500,hS,fun _=>0,by show((0:Nat):Int)+1500≤_;omega,fun j y hj=>absurd hj (Nat.not_lt_zero j)⟩
  rintro m L H N ⟨i,hi,rfl,hsub,hk,hn,zc,hSc,V,hV,hall⟩;refine WL.keep hsub ?_;refine WL.seq (WL.reg ?_);by_cases c3:(i:Int)<(ps.length:Int)
  ·obtain⟨p,hp⟩:∃ p,ps[i]? =some p:=⟨_,ggE (by omega)⟩
   obtain⟨b,o,q1,q2,_⟩:=(hr.keep hf (kn hk)).at (E:=EE l) ty22 ty70 rfl rfl hp;obtain⟨p1,p2,u,p3,p4⟩:=pr_row (hrow i p hp);obtain⟨cls,hcr,W2,hW2,hlm2,hrow2⟩:=rows_of_D (enc:=clL) p4 rfl cl_dec;have el:p.cv.2.1=cls.length:=by obtain⟨eb,cc,e1,_⟩:=hcr;exact(Value.slice.inj e1).2.1
   refine OL.bT ?_;refine OL.nil (WL.seq (WL.condT rfl (WL.skip ?_)));refine WL.seq (WL.block (WL.seq (WL.reg ?_)));refine OL.ix q1 ?_;refine OL.ld q2 ?_;refine OL.al ty70 ?_;refine OL.sn ty70 (T.gsE _ _ _) ?_;refine OL.nil ?_;refine WL.heap (fun H'=>H'.get N=some (.cells (prL p))∧KpX (n+1+1) N H H'∧FS (n+1+1) (n+1+1+1) zc H' (N+1)) ⟨T.gsE _ _ _,(KpX.refl.upd (nlR _) _).upd (nlR _) _,hSc.step ((KpX.refl.upd (nlR _) _).upd (nlR _) _) (by omega) ((hSc.fr.upd _).set (Nat.lt_succ_self _) _) (by rw[T.gnE _ _ (by omega),T.gnE _ _ (by omega)];exact hSc.gl) hSc.z0 hSc.z1⟩ ?_;rintro H2 ⟨w0,k2,hS2⟩;have k2':=hk.trans hn k2;refine WL.seq (WL.seq (WL.reg ?_));refine OL.fd fo70_2 ?_;refine OL.l1 ty68 ?_;refine OL.bi (lenA_slice ty68) ?_;by_cases c4:(p.cv.2.1:Int)>40
   ·refine OL.bT ?_;refine OL.nil (WL.condT rfl (WL.seq (WL.reg ?_)));refine OL.asg ?_;exact OL.nil (WL.ret ⟨fun id e=>(by cases e),[_],⟨rfl,rfl⟩,false,rfl,kn k2',by omega,hS2.fr,fun e=>(by cases e)⟩)
   refine OL.bF ?_;refine OL.nil (WL.condF rfl (WL.skip ?_));refine WL.seq (WL.reg ?_);refine OL.fd fo70_2 ?_;refine OL.l1 ty68 ?_;refine OL.bi (hcr.len ty68) ?_;refine OL.mv ?_;refine OL.nil (WL.block ?_);refine WL.loop (k:=cls.length) (fun m L H N'=>∃ j:Nat,j≤cls.length∧m=cls.length-j∧Sub [(38,.int .i64 (j:Int)),(37,.int .i64 (cls.length:Int)),(36,slV p.cv),(27,.int .i64 (i:Int)),(26,.int .i64 (ps.length:Int)),(25,vP),(3,ptrTo (n+1)),(7,(.func (.func 33) ⟨[]⟩ ⟨[ptrTo (n+1+1+1)]⟩))] L∧KpX (n+1+1) (N+1) H2 H∧N+1≤N'∧∃ zd,FS (n+1+1) (n+1+1+1) zd H N'∧∃ U:Nat→Nat,(Az.sumF U j:Int)+zd≤zc∧∀ (k:Nat) (y:ClRow),k<j→cls[k]? =some y→RowD Az.Γ0 4400 h clC (U k) (clL y)) ?_
    ⟨0,Nat.zero_le _,rfl,(by repeat (first|exact Sub.nil|refine Sub.cons rfl ?_)),KpX.refl,nlR _,zc,hS2,fun _=>0,by show((0:Nat):Int)+zc≤zc;omega,fun j y hj=>absurd hj (Nat.not_lt_zero j)⟩
   rintro m L H3 N3 ⟨j,hj,rfl,hsub3,hk3,hn3,zd,hS3,U,hU,hall3⟩;refine WL.keep hsub3 ?_;refine WL.seq (WL.reg ?_);have k3':=k2'.trans (show _≤N+1 by omega) hk3;by_cases c5:(j:Int)<(cls.length:Int)
   ·obtain⟨c,hc⟩:∃ c,cls[j]? =some c:=⟨_,ggE (by omega)⟩
    obtain⟨b',o',r1,r2,_⟩:=(hcr.keep hf (kn k3')).at (E:=EE l) ty68 ty67 rfl rfl hc;obtain⟨d1,d2,⟨u1,_,e1⟩,⟨u2,_,e2⟩,u3,_,e3⟩:=cl_row (hrow2 j c hc);refine OL.bT ?_;refine OL.nil (WL.seq (WL.condT rfl (WL.skip ?_)));refine WL.seq (WL.block (WL.seq (WL.reg ?_)));refine OL.ix r1 ?_;refine OL.ld r2 ?_;refine OL.al ty67 ?_;refine OL.sn ty67 (T.gsE _ _ _) ?_;refine OL.nil ?_;refine WL.heap (fun H'=>H'.get N3=some (.cells (clL c))∧KpX (n+1+1) N3 H3 H'∧FS (n+1+1) (n+1+1+1) zd H' (N3+1)) ⟨T.gsE _ _ _,(KpX.refl.upd (nlR _) _).upd (nlR _) _,hS3.step ((KpX.refl.upd (nlR _) _).upd (nlR _) _) (by omega) ((hS3.fr.upd _).set (Nat.lt_succ_self _) _) (by rw[T.gnE _ _ (by omega),T.gnE _ _ (by omega)];exact hS3.gl) hS3.z0 hS3.z1⟩ ?_;rintro H4 ⟨v0,k4,hS4⟩;have k4':=k3'.trans (show _≤N3 by omega) k4
    obtain⟨ok1,h5,n5,a1,a2,a3,a4,z5,a5,a6⟩:=large_cl hl hlim (e1.mono (ron (kn k4'))) hS4;have k5:=a4;have k5':=k4'.trans (show _≤N3+1 by omega) a4;have v5:h5.get N3=some (.cells (clL c)):=by rw[a4 N3 (by omega) (by omega)];exact v0
    refine WL.seq (WL.reg ?_);refine OL.mv ?_;refine OL.fd fo67_2 ?_;refine OL.l1 ty25 ?_;refine OL.cv fk33 a1 ?_;refine OL.mv ?_;cases ok1 with
    | false =>
      (iterate 11 (first|refine OL.ps ?_|refine OL.pT ?_|refine OL.mv ?_));refine OL.nil (WL.condT rfl (WL.seq (WL.reg ?_)));refine OL.asg ?_;exact OL.nil (WL.ret ⟨fun id e=>(by cases e),[_],⟨rfl,rfl⟩,false,rfl,kn k5',by omega,a3,fun e=>(by cases e)⟩)
    | true =>
    obtain⟨b1,w1,b2,b3⟩:=a6 rfl;have hS5:=hS4.step a4 a2 a3 a5 b1 (by have:=hS4.z1;omega);obtain⟨ok2,h6,n6,a1,a2',a3,a4,z6,a5,a6⟩:=large_cl hl hlim (e2.mono (ron (kn k5'))) hS5;have k6:=a4;have k6':=k5'.trans (show _≤n5 by omega) a4;have v6:h6.get N3=some (.cells (clL c)):=by rw[a4 N3 (by omega) (by omega)];exact v5
    refine OL.mv ?_;refine OL.fd fo67_3 ?_;refine OL.l1 ty25 ?_;refine OL.cv fk33 a1 ?_;refine OL.pF ?_;refine OL.mv ?_;cases ok2 with
    | false =>
      (iterate 4 refine OL.ps ?_);refine OL.pT ?_;refine OL.nil (WL.condT rfl (WL.seq (WL.reg ?_)));refine OL.asg ?_;exact OL.nil (WL.ret ⟨fun id e=>(by cases e),[_],⟨rfl,rfl⟩,false,rfl,kn k6',by omega,a3,fun e=>(by cases e)⟩)
    | true =>
    obtain⟨b1',w2,b2',b3'⟩:=a6 rfl;have hS6:=hS5.step a4 a2' a3 a5 b1' (by have:=hS5.z1;omega);obtain⟨ok3,h7,n7,a1,a2'',a3,a4,z7,a5,a6⟩:=large_cl hl hlim (e3.mono (ron (kn k6'))) hS6;have k7':=k6'.trans (show _≤n6 by omega) a4;refine OL.mv ?_;refine OL.fd fo67_4 ?_;refine OL.l1 ty25 ?_;refine OL.cv fk33 a1 ?_;refine OL.pF ?_;cases ok3 with
    | false =>
      refine OL.nil (WL.condT rfl (WL.seq (WL.reg ?_)));refine OL.asg ?_;exact OL.nil (WL.ret ⟨fun id e=>(by cases e),[_],⟨rfl,rfl⟩,false,rfl,kn k7',by omega,a3,fun e=>(by cases e)⟩)
    | true =>
    obtain⟨b1'',w3,b2'',b3''⟩:=a6 rfl;have hS7:=hS6.step a4 a2'' a3 a5 b1'' (by have:=hS6.z1;omega);refine OL.nil (WL.condF rfl (WL.skip (WL.reg ?_)));refine OL.ad1 ?_;refine OL.mv ?_;refine OL.nil ⟨cls.length-(j+1),by omega,j+1,by omega,rfl,(by repeat (first|exact Sub.nil|refine Sub.cons rfl ?_)),?_,by omega,z7,hS7,fun q=>if q=j then w1+w2+w3 else U q,?_,fun k y hk' hy=>?_⟩
    ·exact hk3.trans hn3 (k4.trans (Nat.le_succ _) (k5.trans (by omega) (k6.trans (by omega) a4)))
    ·rw[sumF_set];omega
    ·rcases Nat.lt_or_ge k j with g1|g1
     ·simp only[if_neg (show k≠j by omega)];exact hall3 k y g1 hy
     ·have:k=j:=by omega
      subst this;rw[hc] at hy;cases hy;simp only[if_pos];exact cl_mk d1 d2 (D_back (ron (kn k4')) e1 b2) (D_back (ron (kn k5')) e2 b2') (D_back (ron (kn k6')) e3 b2'')
   ·have hjL:j=cls.length:=by omega
    subst hjL;refine OL.bF ?_;refine OL.nil (WL.seq (WL.condF rfl (WL.exit ?_)));refine WL.reg ?_;refine OL.ad1 ?_;refine OL.mv ?_;refine OL.nil ⟨ps.length-(i+1),by omega,i+1,by omega,rfl,(by repeat (first|exact Sub.nil|refine Sub.cons rfl ?_)),k3',by omega,zd,hS3,fun q=>if q=i then Az.sumF U cls.length+cls.length else V q,?_,fun k y hk' hy=>?_⟩
    ·rw[sumF_set];omega
    ·rcases Nat.lt_or_ge k i with g1|g1
     ·simp only[if_neg (show k≠i by omega)];exact hall k y g1 hy
     ·have:k=i:=by omega
      subst this;rw[hp] at hy;cases hy;simp only[if_pos];exact pr_mk p1 p2 (D_of_rows p4 rfl hcr (fun q y hq=>hall3 q y (gsI hq).1 hq) (nlR _) (by have:=hSc.z1;have:=hS3.z0;omega))
  ·have hiL:i=ps.length:=by omega
   subst hiL;refine OL.bF ?_;refine OL.nil (WL.seq (WL.condF rfl (WL.exit ?_)));have zz1:H.get (n+1)=some (.cells [.int .i64 qn,slV g]):=by rw[hk (n+1) (by omega) (by omega)];exact z1
   obtain⟨ok,h5,n5,a1,a2,a3,a4,z5,a5,a6⟩:=large_cl hl hlim (hg.mono (ron (kn hk))) hSc;refine WL.seq (WL.reg ?_);refine OL.mv ?_;refine OL.fd fo27_1 ?_;refine OL.l1 ty25 ?_;refine OL.cv fk33 a1 ?_;refine OL.un ?_;refine OL.asg ?_;refine OL.nil (WL.ret ⟨fun id e=>(by cases e),[_],⟨rfl,rfl⟩,ok,by cases ok<;>rfl,kn (hk.trans hn a4),by omega,a3,fun e=>?_⟩);obtain⟨b1,w1,b2,b3⟩:=a6 e;have:=hSc.z0;exact⟨⟨_,D_of_rows hP rfl hr (fun q y hq=>hall q y (gsI hq).1 hq) (nlR _) (by omega)⟩,w1,D_back (ron (kn hk)) hg b2⟩
 obtain⟨w,h',n',k1,bf,rfl,k2⟩:=key;exact⟨bf,h',n',k1,k2⟩
end
theorem rows_of_DQ{α:Type}{enc:α→List Value}{Q:Nat→α→Prop}{Γ:List (List Az.CT)}{lim:Nat}{h:T Blk}{r q:Nat}{v:Value}{cts:List Az.CT}(hd:Az.D Γ lim h r (.sl q) v)(hq:nth Γ q=some cts)
 (hdec:∀ (row:List Value) (w:Nat),row.length=cts.length→RowD Γ lim h cts w row→∃ a,enc a=row∧Q w a) :
 ∃ xs:List α,RowsS cts.length enc h v xs∧∃ W,Az.sumF W xs.length+xs.length≤r∧∀ i a,xs[i]? =some a→Q (W i) a:=by
 obtain⟨b,len,c,rfl⟩:∃ b l c,v= .slice b l c:=by
  cases hd with
  | nil=>exact⟨_,_,_,rfl⟩
  | sl=>exact⟨_,_,_,rfl⟩
 have hd':=hd;obtain⟨f,h1,h2,h3⟩:=hd.rows hq;rcases h3 with rfl|⟨d,o,cs,rfl,h4,h5,h6⟩
 ·refine⟨[],⟨b,c,rfl,fun a ha=>?_,fun i x hi=>by simp at hi⟩,fun _=>0,Nat.zero_le _,fun i a hi=>by simp at hi⟩;subst ha;cases hd' with
  | sl f hb=>exact⟨rfl,_,cells_ro hb⟩
 ·have hd:∀ i row,i<len→seg cs (o+i * cts.length) cts.length=some row→RowD Γ lim h cts (Az.sumF (fun k=>f (i * cts.length+k)) cts.length) row:=fun i row hi hs=>by
   refine⟨fun k=>f (i * cts.length+k),nlR _,fun k x ct hx hct=>?_⟩;have hk:k<cts.length:=by have:=(gsI hx).1;have:=(seg_some hs).1;omega
   refine h6 i k x ct hi hk ?_ hct;have:=((seg_some hs).2 k hk).1;rw[←this];exact hx
  obtain⟨xs,hl,hx⟩:=list_of len (fun i (a:α)=>Q (Az.sumF (fun k=>f (i * cts.length+k)) cts.length) a∧seg cs (o+i * cts.length) cts.length=some (enc a)) fun i hi=>by have:=Nat.mul_le_mul_right cts.length (show i+1≤len by omega);rw[Nat.succ_mul] at this;obtain⟨row,hr⟩:=Az.seg_ex cs (o+i * cts.length) cts.length (by omega);obtain⟨a,rfl,ha⟩:=hdec row _ (seg_some hr).1 (hd i row hi hr);exact⟨a,ha,hr⟩
  subst hl;refine⟨xs,⟨_,c,rfl,fun a ha=>by cases ha;exact⟨rfl,_,cells_ro h4⟩,fun i x hi=>⟨d,o,cs,rfl,cells_ro h4,(hx i x hi).2⟩⟩,fun i=>Az.sumF (fun k=>f (i * cts.length+k)) cts.length,?_,fun i a hi=>(hx i a hi).1⟩;rw[←sumF_rows];exact h1
theorem w_le{W:Nat→Nat}{n r i:Nat}(h:Az.sumF W n+n≤r)(hi:i<n):W i≤r:=by have:=Az.sumF_le W hi;omega
theorem procs_of{lim:Nat}{h:T Blk}{r:Nat}{v:Value}(hd:Az.D Az.Γ0 lim h r (.sl 0) v):∃ ps,ProcsR h v ps∧ps.length≤r∧∀ p∈ps,∀ c∈p.cls,∃ u,u≤r∧Az.D Az.Γ0 lim h u (.sl 2) (slV c.bd):=by
 obtain⟨ps,h1,W,h2,h3⟩:=rows_of_DQ (enc:=prL) (Q:=fun w p=>RowsS 5 clL h (slV p.cv) p.cls∧∀ c∈p.cls,∃ u,u≤w∧Az.D Az.Γ0 lim h u (.sl 2) (slV c.bd)) hd rfl fun row w hl hr=>by
  obtain⟨p,rfl⟩:=pr_dec row w hl hr;obtain⟨_,_,u,hu,hc⟩:=pr_row hr;obtain⟨cls,c1,W,c2,c3⟩:=rows_of_DQ (enc:=clL) (Q:=fun w c=>∃ u,u≤w∧Az.D Az.Γ0 lim h u (.sl 2) (slV c.bd)) hc rfl fun row w hl hr=>by obtain⟨c,rfl⟩:=cl_dec row w hl hr;obtain⟨_,_,_,_,g⟩:=cl_row hr;exact⟨c,rfl,g⟩
  refine⟨{p with cls:=cls},rfl,c1,fun c hc=>?_⟩;obtain⟨i,hi⟩:=List.getElem?_of_mem hc;obtain⟨u',e1,e2⟩:=c3 i c hi;exact⟨u',by have:=w_le c2 (gsI hi).1;omega,e2⟩
 refine⟨ps,⟨h1,fun p hp=>?_⟩,by omega,fun p hp c hc=>?_⟩
 ·obtain⟨i,hi⟩:=List.getElem?_of_mem hp;exact(h3 i p hi).1
 ·obtain⟨i,hi⟩:=List.getElem?_of_mem hp;obtain⟨u,e1,e2⟩:=(h3 i p hi).2 c hc;exact⟨u,by have:=w_le h2 (gsI hi).1;omega,e2⟩
theorem D_bool{lim:Nat}{h:T Blk}{r:Nat}{v:Value}(hd:Az.D Az.Γ0 lim h r .bool v):∃ b,v= .bool b:=by
 cases hd with
 | bool b=>exact⟨_,rfl⟩
theorem links_of{lim:Nat}{h:T Blk}{r:Nat}{v:Value}(hd:Az.D Az.Γ0 lim h r (.sl 7) v):∃ xs,RowsS 2 linkL h v xs∧xs.length≤r∧∀ x∈xs,True:=by
 obtain⟨xs,h1,W,h2,h3⟩:=rows_of_DQ (enc:=linkL) (Q:=fun _ _=>True) hd rfl fun row w hl hr=>by
  obtain⟨g,_,h2⟩:=hr
  match row,hl with
  | [a,b],_ =>
    obtain⟨x,rfl,_⟩:=D_int (h2 0 a _ rfl rfl);obtain⟨y,rfl⟩:=D_bool (h2 1 b _ rfl rfl);exact⟨(x,y),rfl,trivial⟩
 exact⟨xs,h1,by omega,fun _ _=>trivial⟩
theorem edges_of{lim:Nat}{h:T Blk}{r:Nat}{v:Value}(hd:Az.D Az.Γ0 lim h r (.sl 11) v):∃ xs,RowsS 5 edgeL h v xs∧xs.length≤r∧∀ x∈xs,FtOK x.1:=by
 obtain⟨xs,h1,W,h2,h3⟩:=rows_of_DQ (enc:=edgeL) (Q:=fun _ e=>FtOK e.1) hd rfl fun row w hl hr=>by
  obtain⟨g,_,h2⟩:=hr
  match row,hl with
  | [a,b,c,d,e],_ =>
    obtain⟨s,rfl,hs⟩:=D_str (h2 0 a _ rfl rfl);obtain⟨x,rfl,hx⟩:=D_int (h2 1 b _ rfl rfl);obtain⟨y,rfl,hy⟩:=D_int (h2 2 c _ rfl rfl);obtain⟨z,rfl,_⟩:=D_int (h2 3 d _ rfl rfl);obtain⟨u,rfl⟩:=D_bool (h2 4 e _ rfl rfl);exact⟨((s,x,y),z,u),rfl,hs,hx,hy⟩
 refine⟨xs,h1,by omega,fun x hx=>?_⟩;obtain⟨i,hi⟩:=List.getElem?_of_mem hx;exact h3 i x hi
theorem feats_of{lim:Nat}{h:T Blk}{r:Nat}{v:Value}(hd:Az.D Az.Γ0 lim h r (.sl 10) v):∃ xs,RowsS 3 featL h v xs∧xs.length≤r∧∀ x∈xs,FtOK x:=by
 obtain⟨xs,h1,W,h2,h3⟩:=rows_of_DQ (enc:=featL) (Q:=fun _ e=>FtOK e) hd rfl fun row w hl hr=>by
  obtain⟨g,_,h2⟩:=hr
  match row,hl with
  | [a,b,c],_ =>
    obtain⟨s,rfl,hs⟩:=D_str (h2 0 a _ rfl rfl);obtain⟨x,rfl,hx⟩:=D_int (h2 1 b _ rfl rfl);obtain⟨y,rfl,hy⟩:=D_int (h2 2 c _ rfl rfl);exact⟨(s,x,y),rfl,hs,hx,hy⟩
 refine⟨xs,h1,by omega,fun x hx=>?_⟩;obtain⟨i,hi⟩:=List.getElem?_of_mem hx;exact h3 i x hi
theorem flat_le{α:Type}:∀ (X:List (List α))(W:Nat→Nat),(∀ (i:Nat)(xs:List α),X[i]? =some xs→xs.length≤W i)→X.flatten.length≤Az.sumF W X.length
 | [],_,_=>Nat.zero_le _
 | x :: X,W,h=>by
   have h0:=h 0 x rfl;have ih:=flat_le X (fun i=>W (1+i)) fun i xs hi=>h (1+i) xs (by rw[Nat.add_comm];simpa using hi)
   rw[List.length_cons,Nat.add_comm,sumF_add];have:Az.sumF W 1=0+W 0:=rfl;simp only[List.flatten_cons,List.length_append];omega
theorem rows2_of{α:Type}{k q1 q2:Nat}{enc:α→List Value}{P:α→Prop}{lim:Nat}{h:T Blk}{r:Nat}{v:Value}(hd:Az.D Az.Γ0 lim h r (.sl q2) v)(hq:nth Az.Γ0 q2=some [.sl q1])
 (hin:∀ {r:Nat} {v:Value},Az.D Az.Γ0 lim h r (.sl q1) v→∃ xs,RowsS k enc h v xs∧xs.length≤r∧∀ x∈xs,P x) :
 ∃ X,Rows2 k enc h v X∧X.flatten.length+X.length≤r∧∀ xs∈X,∀ x∈xs,P x:=by
 obtain⟨zs,h1,W,h2,h3⟩:=rows_of_DQ (α:=Value×List α) (enc:=fun z=>[z.1]) (Q:=fun w z=>RowsS k enc h z.1 z.2∧z.2.length≤w∧∀ x∈z.2,P x) hd hq fun row w hl hr=>by
  obtain⟨g,g1,h2⟩:=hr
  match row,hl with
  | [a],_ =>
    obtain⟨xs,e1,e2,e3⟩:=hin (h2 0 a _ rfl rfl);have:Az.sumF g 1=0+g 0:=rfl;have g1:Az.sumF g 1≤w:=g1;exact⟨(a,xs),rfl,e1,by show xs.length≤w;omega,e3⟩
 have hX:∀ (i:Nat) (xs:List α),(zs.map (·.2))[i]? =some xs→∃ z,zs[i]? =some z∧z.2=xs:=fun i xs hi=>by rw[List.getElem?_map,Option.map_eq_some_iff] at hi;exact hi
 refine⟨zs.map (·.2),⟨zs.map (·.1),?_,by simp,fun i v xs hv hx=>?_⟩,?_,fun xs hxs x hx=>?_⟩
 ·obtain⟨eb,c,rfl,r1,r2⟩:=h1;refine⟨eb,c,by simp,r1,fun i x hx=>?_⟩;rw[List.getElem?_map,Option.map_eq_some_iff] at hx;obtain⟨z,hz,rfl⟩:=hx;exact r2 i z hz
 ·obtain⟨z,hz,rfl⟩:=hX i xs hx;rw[List.getElem?_map,hz] at hv;cases hv;exact(h3 i z hz).1
 ·have:=flat_le (zs.map (·.2)) W fun i xs hi=>by
   obtain⟨z,hz,rfl⟩:=hX i xs hi;exact(h3 i z hz).2.1
  rw[List.length_map] at this ⊢;omega
 ·obtain⟨z,hz,rfl⟩:=List.mem_map.1 hxs;obtain⟨i,hi⟩:=List.getElem?_of_mem hz;exact(h3 i z hi).2.2 x hx
theorem rows3_of{α:Type}{k q2 q3:Nat}{enc:α→List Value}{lim:Nat}{h:T Blk}{r:Nat}{v:Value}(hd:Az.D Az.Γ0 lim h r (.sl q3) v)(hq:nth Az.Γ0 q3=some [.sl q2])
 (hin:∀ {r:Nat} {v:Value},Az.D Az.Γ0 lim h r (.sl q2) v→∃ xs,Rows2 k enc h v xs∧xs.flatten.length+xs.length≤r) :
 ∃ X,Rows3 k enc h v X∧(X.map List.flatten).flatten.length≤r∧X.length≤r∧∀ xs∈X,xs.length≤r:=by
 obtain⟨zs,h1,W,h2,h3⟩:=rows_of_DQ (α:=Value×List (List α)) (enc:=fun z=>[z.1]) (Q:=fun w z=>Rows2 k enc h z.1 z.2∧z.2.flatten.length+z.2.length≤w) hd hq fun row w hl hr=>by
  obtain⟨g,g1,h2⟩:=hr
  match row,hl with
  | [a],_ =>
    obtain⟨xs,e1,e2⟩:=hin (h2 0 a _ rfl rfl);have:Az.sumF g 1=0+g 0:=rfl;have g1:Az.sumF g 1≤w:=g1;exact⟨(a,xs),rfl,e1,by show xs.flatten.length+xs.length≤w;omega⟩
 have hX:∀ (i:Nat) (xs:List (List α)),(zs.map (·.2))[i]? =some xs→∃ z,zs[i]? =some z∧z.2=xs:=fun i xs hi=>by rw[List.getElem?_map,Option.map_eq_some_iff] at hi;exact hi
 refine⟨zs.map (·.2),⟨zs.map (·.1),?_,by simp,fun i v xs hv hx=>?_⟩,?_,by rw[List.length_map];omega,fun xs hxs=>?_⟩
 ·obtain⟨eb,c,rfl,r1,r2⟩:=h1;refine⟨eb,c,by simp,r1,fun i x hx=>?_⟩;rw[List.getElem?_map,Option.map_eq_some_iff] at hx;obtain⟨z,hz,rfl⟩:=hx;exact r2 i z hz
 ·obtain⟨z,hz,rfl⟩:=hX i xs hx;rw[List.getElem?_map,hz] at hv;cases hv;exact(h3 i z hz).1
 ·have:=flat_le ((zs.map (·.2)).map List.flatten) W fun i xs hi=>by
   rw[List.getElem?_map,Option.map_eq_some_iff] at hi;obtain⟨y,hy,rfl⟩:=hi;obtain⟨z,hz,rfl⟩:=hX i y hy;have:=(h3 i z hz).2;omega
  rw[List.length_map,List.length_map] at this;omega
 ·obtain⟨z,hz,rfl⟩:=List.mem_map.1 hxs;obtain⟨i,hi⟩:=List.getElem?_of_mem hz;have:=(h3 i z hi).2;have:=w_le h2 (gsI hi).1;omega
end Go.Sx
namespace Go.Sx
set_option maxRecDepth 100000
section
variable {E:Env}{L:LT}{h h':T Blk}{n n':Nat}{o:Oper}
theorem D.lookup{ty:TypeId}{x y:Operand}{ok:Bool}{m k v:Value}(ho:o.op= .lookup ty x y ok)(hx:evL E L x=some m)(hy:evL E L y=some k)(hs:∀ s,m≠ .string s)(hv:lookupA E ty m k ok h=some v):Does E L h n o (.val v h n):=fun t ht=>by simp only[opA,ho,evL_ok ht hx,evL_ok ht hy];cases m<;>first|exact absurd rfl (hs _)|simp only[hv,val?]
theorem D.makeMap{ty:TypeId}(ho:o.op= .makeMap ty none):Does E L h n o (.val (.map (some n)) (h.upd (some (.map [])) n) (n+1)):=fun t _=>by simp only[opA,ho,newA]
theorem D.mapUp{ty:TypeId}{x y z:Operand}{m k v:Value}(ho:o.op= .mapUpdate ty x y z)(hx:evL E L x=some m)(hy:evL E L y=some k)(hz:evL E L z=some v)(hv:mapPutA E ty m k v h=some h'):Does E L h n o (.skip h' n):=fun t ht=>by simp only[opA,ho,evL_ok ht hx,evL_ok ht hy,evL_ok ht hz,hv]
end
def DL(E:Env)(many:Nat)(c:Code)(L:LT)(d:List Deferred)(h:T Blk)(n:Nat)(Q:Ex→LT→List Deferred→T Blk→Nat→Prop):Prop :=
 ∀ t,Has t L→∃ e t' d' h' n',Ev E c none many t d h n (.ok e t' d' h' n')∧∃ L',Has t' L'∧Q e L' d' h' n'
section
variable {E:Env}{many:Nat}{L:LT}{d:List Deferred}{h:T Blk}{n:Nat}{Q:Ex→LT→List Deferred→T Blk→Nat→Prop}
theorem DL.calm{c:Code}(hc:calmC c=true)(hw:WL E many c L h n fun e L' h' n'=>Q e L' d h' n'):DL E many c L d h n Q:=fun t ht=>by obtain⟨e,t',h',n',h1,L',h2,h3⟩:=hw t ht;exact⟨e,t',d,h',n',Ev.lift hc h1 none d,L',h2,h3⟩
theorem DL.keep{c:Code}{L':LT}(hs:∀ k v,lk L' k=some v→lk L k=some v)(hk:DL E many c L' d h n Q):DL E many c L d h n Q:=fun t ht=>hk t fun k v hv=>ht k v (hs k v hv)
def SeqD(E:Env)(many:Nat)(b:Code)(Q:Ex→LT→List Deferred→T Blk→Nat→Prop)(e:Ex)(L:LT)(d:List Deferred)(h:T Blk)(n:Nat):Prop :=
 match e with
 | .normal=>DL E many b L d h n Q
 | e=>Q e L d h n
theorem DL.seq{a b:Code}(hw:DL E many a L d h n (SeqD E many b Q)):DL E many (.seq a b) L d h n Q:=by
 intro t ht;obtain⟨e,t',d',h',n',h1,L',h2,h3⟩:=hw t ht;cases e with
 | normal =>
   obtain⟨e2,t2,d2,h4,n2,h5,L2,h6,h7⟩:=h3 t' h2;exact⟨e2,t2,d2,h4,n2,.seq h1 h5,L2,h6,h7⟩
 | exit id=>exact⟨_,t',d',h',n',.seq_out h1 (by simp),L',h2,h3⟩
 | ret=>exact⟨_,t',d',h',n',.seq_out h1 (by simp),L',h2,h3⟩
def BlockD(id:Nat)(Q:Ex→LT→List Deferred→T Blk→Nat→Prop)(e:Ex)(L:LT)(d:List Deferred)(h:T Blk)(n:Nat):Prop :=
 match e with
 | .exit i=>bif Nat.beq i id then Q .normal L d h n else Q (.exit i) L d h n
 | e=>Q e L d h n
theorem DL.block{id:Nat}{b:Code}(hw:DL E many b L d h n (BlockD id Q)):DL E many (.block id b) L d h n Q:=by
 intro t ht;obtain⟨e,t',d',h',n',h1,L',h2,h3⟩:=hw t ht;cases e with
 | normal=>exact⟨_,t',d',h',n',.block_normal h1,L',h2,h3⟩
 | ret=>exact⟨_,t',d',h',n',.block_ret h1,L',h2,h3⟩
 | exit i =>
   simp only[BlockD] at h3;cases hb:Nat.beq i id with
   | true =>
     have:i=id:=Nat.eq_of_beq_eq_true hb;subst this;rw[hb] at h3;exact⟨_,t',d',h',n',.block_exit h1,L',h2,h3⟩
   | false=>rw[hb] at h3;exact⟨_,t',d',h',n',.block_other hb h1,L',h2,h3⟩
def LoopD(k:Nat)(I:Nat→LT→List Deferred→T Blk→Nat→Prop)(Q:Ex→LT→List Deferred→T Blk→Nat→Prop)(e:Ex)(L:LT)(d:List Deferred)(h:T Blk)(n:Nat):Prop :=
 match e with
 | .normal=>∃ k',k'<k∧I k' L d h n
 | e=>Q e L d h n
theorem DL.loop{b:Code}(I:Nat→LT→List Deferred→T Blk→Nat→Prop)(hb:∀ k L d h n,I k L d h n→DL E many b L d h n (LoopD k I Q)):∀ {k:Nat}{L:LT}{d:List Deferred}{h:T Blk}{n:Nat},I k L d h n→DL E many (.loop b) L d h n Q:=by
 intro k
 induction k using Nat.strongRecOn with
 | ind k ih =>
   intro L d h n hi t ht;obtain⟨e,t',d',h',n',h1,L',h2,h3⟩:=hb k L d h n hi t ht;cases e with
   | normal =>
     obtain⟨k',h4,h5⟩:=h3;obtain⟨e2,t2,d2,h6,n2,h7,L2,h8,h9⟩:=ih k' h4 h5 t' h2;exact⟨e2,t2,d2,h6,n2,.loop_step h1 h7,L2,h8,h9⟩
   | exit id=>exact⟨_,t',d',h',n',.loop_out h1 (by simp),L',h2,h3⟩
   | ret=>exact⟨_,t',d',h',n',.loop_out h1 (by simp),L',h2,h3⟩
theorem DL.rangeF{x:Operand}{ps:Array Tmp}{a b:Code}{g:FuncId}{cs:List Value}{fn:Func}(hx:evL E L x=some (.func (.func g) ⟨[]⟩ ⟨cs⟩))(hf:E.fn.get g=some fn)
 (hw:∀ t,Has t L→∃ v h' n',Cl E g (.func (.yield (n+1)) #[] #[] :: cs) ((h.upd (some (.dfr true)) n).upd (some (.loop {state:= .ready,pending:=none,tmps:=t,many:=many,params:=ps.toList,assign:=a,body:=b,defers:=n})) (n+1)) (n+2) (.ret v h' n') ∧
  ∃ r,getL h' (n+1)=some r∧r.state= .ready∧r.pending=none∧Q .normal L ({target:= .collected n,args:=#[]} :: d) (h'.upd (some (.loop {r with state:= .exhausted})) (n+1)) n'):DL E many (.rangeFunc x ps a b) L d h n Q:=by
 intro t ht;obtain⟨v,h',n',⟨F,hF⟩,r,h1,h2,h3,hq⟩:=hw t ht;refine⟨.normal,t,_,_,n',Ev.step ⟨F,fun f hf'=>?_⟩,L,ht,hq⟩;simp only[stepA,evL_ok ht hx,callA,hf];have e:([] ++ [Value.func (.yield (n+1)) #[] #[]] ++ cs:List Value)= .func (.yield (n+1)) #[] #[] :: cs:=rfl;simp only[e,hF f hf',h1,h2,h3]
end
def marks(l:List Nat):List Deferred:=l.map fun r=>{target:= .collected r,args:=#[]}
theorem leave_marks{E:Env}{ih:Run}:∀ {l:List Nat}{h:T Blk}{n:Nat},l.Nodup→(∀ r∈l,h.get r=some (.dfr true))→∃ h',leaveA E ih (marks l) h n=some (h',n)∧∀ b,b∉l→h'.get b=h.get b
 | [],h,n,_,_=>⟨h,rfl,fun _ _=>rfl⟩
 | r :: l,h,n,hn,hr=>by
   simp only[List.nodup_cons] at hn;obtain⟨h',h1,h2⟩:=leave_marks (E:=E) (ih:=ih) (l:=l) (h:=h.upd (some (.dfr false)) r) (n:=n) hn.2 fun q hq=>by
    have hne:q≠r:=fun e=>hn.1 (by rw[←e];exact hq)
    rw[T.gnE _ _ hne];exact hr q (mcM _ hq)
   refine⟨h',?_,fun b hb=>?_⟩
   ·show leaveA E ih ({target:= .collected r,args:=#[]} :: marks l) h n=_;simp only[leaveA,hr r (mcS ..),h1]
   ·simp only[List.mem_cons,not_or] at hb;rw[h2 b hb.2,T.gnE _ _ hb.1]
theorem Cl.dl{E:Env}{g:FuncId}{args:List Value}{h:T Blk}{n:Nat}{R:Value→T Blk→Nat→Prop}{fn:Func}{c:Code}{many:Nat}{rs:List ResultVar}(hm:memoA E g args h=none)(hx:E.ext g args h n=none)(hf:E.fn.get g=some fn)(hb:fn.body=some c)(hmany:fn.ntmps=many)
 (hrs:fn.results.toList=rs) (hl:Nat.ble args.length many=true) (hw:DL E many c (argL args 0 []) [] h n (fun e L' d' h' n'=>(∀ id,e≠ .exit id)∧∃ l,d'=marks l∧l.Nodup∧(∀ r∈l,h'.get r=some (.dfr true))∧∀ h'',(∀ b,b∉l→h''.get b=h'.get b)→∃ vs,ResOK E h'' L' rs vs∧R (resV vs) h'' n')) :
 ∃ v h' n',Cl E g args h n (.ret v h' n')∧R v h' n':=by
 obtain⟨e,t',d',h',n',⟨F,hF⟩,L',h1,h2,l,rfl,h3,h4,h5⟩:=hw (argsT args 0 .leaf) (argL_has args 0 [] .leaf fun k v hv=>by cases hv);have key:∀ ih,∃ h'',leaveA E ih (marks l) h' n'=some (h'',n')∧∀ b,b∉l→h''.get b=h'.get b:=fun ih=>leave_marks h3 h4
 obtain⟨h6,k1,k2⟩:=key (exec E F);obtain⟨vs,k3,k4⟩:=h5 h6 k2;have same:∀ ih,leaveA E ih (marks l) h' n'=some (h6,n'):=by
  intro ih;rw[←k1];clear k1 k2 k3 k4 h5 key hF h4 h3 h2 h1
  induction l generalizing h' with
  | nil=>rfl
  | cons r l ihl =>
    show leaveA E ih ({target:= .collected r,args:=#[]} :: marks l) h' n'=leaveA E (exec E F) ({target:= .collected r,args:=#[]} :: marks l) h' n';simp only[leaveA];split
    ·exact ihl _
    ·rfl
 refine⟨resV vs,h6,n',⟨F,fun f hf'=>?_⟩,k4⟩;subst hmany;unfold callF callG;simp only[hm,hx,hf,hb,hl,_root_.cond_true,hF f hf'];have hres:resA E fn t' h6=some (resV vs):=by
  subst hrs;unfold resA;rw[ResOK.ok h1 k3]
  match vs with
  | []=>rfl
  | [v]=>rfl
  | _ :: _ :: _=>rfl
 cases e<;>first|exact absurd rfl (h2 _)|simp only[same,hres]
end Go.Sx
namespace Go.Sx
open Go.Proofs
set_option maxRecDepth 100000
set_option maxHeartbeats 2000000
noncomputable def rf186:Code×Code :=
 match (Tryz.f186.body).getD .skip with
 | .seq _ (.seq _ (.seq _ (.seq (.seq _ (.block _ (.loop (.seq _ (.seq _ (.seq (.block _ (.seq _ (.seq _ (.block _ (.rangeFunc _ _ a b))))) _)))))) _)))=>(a,b)
 | _=>(.skip,.skip)
noncomputable def recV(t:T Value)(df:Nat):ALoop:={state:= .ready,pending:=none,tmps:=t,many:=38,params:=[17],assign:=rf186.1,body:=rf186.2,defers:=df}
def KeyI(es:List (Value×Value)):Prop:=∀ e∈es,∃ x,e=(.int .i64 x,.bool true)
theorem find_int(x:Int):∀ {es:List (Value×Value)},KeyI es→∃ r,findA .int (.int .i64 x) es=some r∧(r=none∨r=some (.bool true))
 | [],_=>⟨none,rfl,.inl rfl⟩
 | e :: es,h=>by
   obtain⟨y,rfl⟩:=h e (mcS ..);obtain⟨r,h1,h2⟩:=find_int x (es:=es) fun e he=>h e (mcM _ he)
   have h3:eqKK .int (.int .i64 x) (.int .i64 y)=some (decide (x=y)):=rfl;simp only[findA,h1,h3];cases decide (x=y) with
   | true=>exact⟨_,rfl,.inr rfl⟩
   | false=>exact⟨r,rfl,h2⟩
theorem put_int(x:Int):∀ {es:List (Value×Value)},KeyI es→KeyI (putKey .int (.int .i64 x) (.bool true) es)
 | [],_=>fun e he=>by simp only[putKey,List.mem_cons,List.not_mem_nil,or_false] at he;exact⟨x,he⟩
 | e :: es,h=>by
   obtain⟨y,rfl⟩:=h e (mcS ..);have ih:=put_int x (es:=es) fun e he=>h e (mcM _ he)
   have h3:eqKK .int (.int .i64 x) (.int .i64 y)=some (decide (x=y)):=rfl;intro e he;simp only[putKey,h3] at he;cases hd:decide (x=y) with
   | true =>
     rw[hd] at he;rcases List.mem_cons.1 he with rfl|he
     ·exact⟨y,rfl⟩
     ·exact h e (mcM _ he)
   | false =>
     rw[hd] at he;rcases List.mem_cons.1 he with rfl|he
     ·exact⟨y,rfl⟩
     ·exact ih e he
theorem kk3:kkOf EV 3=some .int:=by simp only[kkOf,ty3,tInt]
theorem lookup_int{h:T Blk}{m:Nat}{es:List (Value×Value)}(hm:h.get m=some (.map es))(hk:KeyI es)(x:Int):∃ f,lookupA EV 289 (.map (some m)) (.int .i64 x) false h=some (.bool f):=by
 obtain⟨r,h1,h2⟩:=find_int x hk;rcases h2 with rfl|rfl
 ·refine⟨false,?_⟩;simp only[lookupA,ty289,tK289,kk3,fitKK,cond_true,hm,h1,ty4,tBool,isAgg,cond_false];rfl
 ·refine⟨true,?_⟩;simp only[lookupA,ty289,tK289,kk3,fitKK,cond_true,hm,h1,cond_false]
theorem put_ok{h:T Blk}{m:Nat}{es:List (Value×Value)}(hm:h.get m=some (.map es))(hk:KeyI es)(x:Int):mapPutA EV 289 (.map (some m)) (.int .i64 x) (.bool true) h=some (h.upd (some (.map (putKey .int (.int .i64 x) (.bool true) es))) m):=by obtain⟨r,h1,_⟩:=find_int x hk;simp only[mapPutA,ty289,tK289,kk3,fitKK,cond_true,hm,h1]
theorem build_int(x:Int):buildSliceA EV 150 1 [(0,.int .i64 x)]=some [.int .i64 x]:=by simp only[buildSliceA,ty150,tSl,ty3,tInt];rfl
theorem el150:ElT EV 150 3 tInt:=⟨ty150,ty3,rfl,rfl,rfl,rfl,rfl⟩
def AllI(cs:List Value):Prop:=∀ v∈cs,∃ x,v= .int .i64 x∧R64 x
structure VB(c3 c4 m k:Nat)(O:Nat→Prop)(h:T Blk)(n:Nat):Prop where
 fresh:Fresh h n
 lt:∀ b,O b→b<n
 nro:∀ b cs,O b→h.get b≠some (.ro cs)
 o3:O c3
 o4:O c4
 om:O m
 n34:c3≠c4
 n3m:c3≠m
 n4m:c4≠m
 h4:h.get c4=some (.cells [.map (some m)])
 hm:∃ es,h.get m=some (.map es)∧KeyI es
 h3:∃ s len cs,h.get c3=some (.cells [s])∧App 1 0 h s len cs∧len≤k∧AllI cs∧(∀ b,blkOf s=some b→O b∧b≠c3∧b≠c4∧b≠m)∧∀ b,blkOf s=some b→s= .slice (some ⟨b,0,none⟩) len (UNK * 1+len)∧h.get b=some (.cells cs)
theorem VB.frame{c3 c4 m k:Nat}{O:Nat→Prop}{h h':T Blk}{n n':Nat}(v:VB c3 c4 m k O h n)(hn:n≤n')(hf:Fresh h' n')(hk:∀ b,O b→h'.get b=h.get b):VB c3 c4 m k O h' n':=by
 obtain⟨es,m1,m2⟩:=v.hm;obtain⟨s,len,cs,s1,s2,s3,s4,s5,s6⟩:=v.h3;exact⟨hf,fun b hb=>Nat.lt_of_lt_of_le (v.lt b hb) hn,fun b cs hb=>by rw[hk b hb];exact v.nro b cs hb,v.o3,v.o4,v.om,v.n34,v.n3m,v.n4m,by rw[hk _ v.o4];exact v.h4,⟨es,by rw[hk _ v.om];exact m1,m2⟩,
  s,len,cs,by rw[hk _ v.o3];exact s1,s2.keep fun b hb=>hk b (s5 b hb).1,s3,s4,s5,fun b hb=>by rw[hk b (s5 b hb).1];exact s6 b hb⟩
theorem VB.more{c3 c4 m k k':Nat}{O:Nat→Prop}{h:T Blk}{n:Nat}(v:VB c3 c4 m k O h n)(hk:k≤k'):VB c3 c4 m k' O h n:=by obtain⟨s,len,cs,s1,s2,s3,s4⟩:=v.h3;exact {v with h3:=⟨s,len,cs,s1,s2,by omega,s4⟩}
def VY(c3 c4 m l:Nat)(rec:ALoop)(k:Nat)(O:Nat→Prop)(h:T Blk)(n:Nat):Prop :=
 ∃ O1:Nat→Prop,(∀ b,O b↔O1 b∨b=l)∧VB c3 c4 m k O1 h n∧¬ O1 l∧l<n∧h.get l=some (.loop rec)
theorem vars_round{c3 c4 m l df K:Nat}{t:T Value}(ht:Has t [(3,ptrTo c3),(4,ptrTo c4)])(hK:K≤1000000000){k:Nat}{O:Nat→Prop}{h:T Blk}{n:Nat}{a x:Int}{s:ByteArray}{b:Option Addr}{len c:Nat}(y:VY c3 c4 m l (recV t df) k O h n)(hk:k<K)(hx:R64 x) :
 ∃ O' h' n',Rd EV l [nodeV a x s b len c] h n (.ret (.bool true) h' n')∧VY c3 c4 m l (recV t df) (k+1) O' h' n'∧n≤n'∧(∀ b,O' b→O b∨n≤b)∧∀ b,b<n→¬ O b→h'.get b=h.get b:=by
 obtain⟨O1,ho,v,hl1,hl2,hl3⟩:=y;have key:=Rd.ok (E:=EV) (l:=l) (r:=recV t df) (h:=h) (n:=n) (L:=[(3,ptrTo c3),(4,ptrTo c4)]) (p:=17) (v:=nodeV a x s b len c)
  (Q:=fun h' n'=>∃ O',VY c3 c4 m l (recV t df) (k+1) O' h' n'∧n≤n'∧(∀ b,O' b→O b∨n≤b)∧∀ b,b<n→¬ O b→h'.get b=h.get b) (by simp only[getL,hl3]) rfl ht rfl rfl rfl rfl
 refine Exists.elim (key ?_) fun h' hh=>Exists.elim hh fun n' ⟨r,O',q⟩=>⟨O',h',n',r,q⟩
 show WL EV 38 rf186.1 _ _ _ _;refine WL.reg ?_;refine OL.al ty63 ?_;refine OL.sn ty63 (T.gsE _ _ _) ?_;have f0:=v.fresh;refine OL.nil ⟨rfl,by simp only[getL];rw[T.gnE _ _ (by omega),T.gnE _ _ (by omega),hl3],?_⟩;show WL EV 38 rf186.2 _ _ _ _;refine WL.heap (fun H=>H.get n=some (.cells [.int .i64 a,.int .i64 x,.string s,.slice b len c])∧Fresh H (n+1)∧H.get l=some (.loop {recV t df with state:= .busy})∧∀ b,b<n→b≠l→H.get b=h.get b) ⟨?_,?_,T.gsE _ _ _,fun b hb hbl=>?_⟩ ?_
 ·rw[T.gnE _ _ (by omega)];exact T.gsE _ _ _
 ·exact((f0.upd _).set (Nat.lt_succ_self n) _).set (by omega) _
 ·rw[T.gnE _ _ hbl,T.gnE _ _ (by omega),T.gnE _ _ (by omega)]
 rintro H ⟨hn0,fH,hlH,kH⟩;obtain⟨es,m1,m2⟩:=v.hm;obtain⟨s0,l0,cs0,s1,s2,s3,s4,s5,_⟩:=v.h3;have lt3:=v.lt _ v.o3;have lt4:=v.lt _ v.o4;have ltm:=v.lt _ v.om;have l3:c3≠l:=fun e=>hl1 (e▸v.o3)
 have l4:c4≠l:=fun e=>hl1 (e▸v.o4)
 have lm:m≠l:=fun e=>hl1 (e▸v.om)
 have H4:H.get c4=some (.cells [.map (some m)]):=by rw[kH _ lt4 l4];exact v.h4
 have Hm:H.get m=some (.map es):=by rw[kH _ ltm lm];exact m1
 have H3:H.get c3=some (.cells [s0]):=by rw[kH _ lt3 l3];exact s1
 have same:∃ O',VY c3 c4 m l (recV t df) (k+1) O' (H.upd (some (.loop {recV t df with state:= .ready,pending:=none})) l) (n+1)∧n≤n+1∧(∀ b,O' b→O b∨n≤b)∧∀ b,b<n→¬ O b→(H.upd (some (.loop {recV t df with state:= .ready,pending:=none})) l).get b=h.get b:=by
  refine⟨O,⟨O1,ho,(v.frame (Nat.le_succ n) (fH.set (by omega) _) fun b hb=>?_).more (Nat.le_succ k),hl1,by omega,T.gsE _ _ _⟩,Nat.le_succ n,fun b hb=> .inl hb,fun b hb hob=>?_⟩
  ·have hbl:b≠l:=fun e=>hl1 (e▸hb)
   rw[T.gnE _ _ hbl,kH b (v.lt b hb) hbl]
  ·have hbl:b≠l:=fun e=>hob ((ho b).2 (.inr e))
   rw[T.gnE _ _ hbl,kH b hb hbl]
 refine WL.block (WL.seq (WL.reg ?_));by_cases ha:a=1
 ·obtain⟨f,hlk⟩:=lookup_int Hm m2 x;refine OL.fd fo63_0 ?_;refine OL.l1 ty3 ?_;refine OL.bT ?_;refine OL.mv ?_;refine OL.l1 ty289 ?_;refine OL.fd fo63_1 ?_;refine OL.l1 ty3 ?_;refine OL.val (by first|rfl|exact WantL.yes rfl rfl rfl) (D.lookup rfl rfl rfl (fun s e=>by cases e) hlk) rfl rfl ?_;cases f with
  | true =>
    refine OL.un ?_;refine OL.pT ?_;exact OL.nil (WL.condF rfl (WL.skip ⟨rfl,by simp only[getL,hlH],same⟩))
  | false =>
    refine OL.un ?_;refine OL.pT ?_;refine OL.nil (WL.condT rfl (WL.seq (WL.reg ?_)));refine OL.l1 ty289 ?_;refine OL.fd fo63_1 ?_;refine OL.l1 ty3 ?_;refine OL.skip (by first|rfl|exact WantL.yes rfl rfl rfl) (D.mapUp rfl rfl rfl rfl (put_ok Hm m2 x)) rfl ?_;refine OL.nil ?_;refine WL.heap (fun H'=>H'.get n=some (.cells [.int .i64 a,.int .i64 x,.string s,.slice b len c])∧Fresh H' (n+1)∧H'.get m=some (.map (putKey .int (.int .i64 x) (.bool true) es))∧∀ b,b≠m→H'.get b=H.get b) ⟨?_,?_,T.gsE _ _ _,fun b hb=>T.gnE _ _ hb⟩ ?_
    ·rw[T.gnE _ _ (by omega)];exact hn0
    ·exact fH.set (by omega) _
    rintro H' ⟨hn1,fH',hm',kH'⟩;have H3':H'.get c3=some (.cells [s0]):=by rw[kH' _ v.n3m];exact H3
    refine WL.reg ?_;refine OL.l1 ty150 ?_;refine OL.fd fo63_1 ?_;refine OL.l1 ty3 ?_;refine OL.bs (build_int x) ?_;have app0:App 1 0 (H'.upd (some (.cells [.int .i64 x])) (n+1)) s0 l0 cs0:=s2.keep fun b hb=>by obtain⟨q1,q2,q3,q4⟩:=s5 b hb;have:=v.lt b q1;rw[T.gnE _ _ (by omega),kH' b q4,kH b this fun e=>hl1 (e▸q1)]
    have fH2:=fH'.upd (some (.cells [.int .i64 x]));obtain⟨w,H5,g1,g2,g3,g4,g5,g6,g7⟩:=append_own (x:= .slice (some ⟨n+1,0,none⟩) 1 1) (new:=[.int .i64 x]) el150 app0 fH2 ⟨_,_,rfl⟩ (by simp only[rowA,cells_of (T.gsE (some (Blk.cells [.int .i64 x])) H' (n+1))];rfl) (Nat.zero_lt_one) (by omega) rfl (by omega);refine OL.bi (appendB g1) ?_;have H53:H5.get c3=some (.cells [s0]):=by rw[g3 c3 (by omega) fun e=>(s5 c3 e).2.1 rfl,T.gnE _ _ (by omega)];exact H3'
    refine OL.st (store1 (o:=0) ty150 rfl H53 g5.isC (Nat.zero_lt_one)) ?_;have kept:∀ b,b<n→b≠l→b≠m→b≠c3→blkOf s0≠some b→((H5.upd (some (.cells ([s0].set 0 w))) c3).upd (some (.loop {recV t df with state:= .ready,pending:=none})) l).get b=h.get b:=fun b hb h1 h2 h3 h4=>by rw[T.gnE _ _ h1,T.gnE _ _ h3,g3 b (by omega) h4,T.gnE _ _ (by omega),kH' b h2,kH b hb h1]
    refine OL.nil ⟨rfl,?_,?_⟩
    ·simp only[getL];rw[T.gnE _ _ (Ne.symm l3),g3 l (by omega) fun e=>hl1 (s5 l e).1,T.gnE _ _ (by omega),kH' l (Ne.symm lm),hlH]
    ·have oo:∀ b,blkOf s0=some b→O b:=fun b hb=>(ho b).2 (.inl (s5 b hb).1)
     refine⟨fun b=>((O1 b∧blkOf s0≠some b)∨b=n+2)∨b=l,⟨fun b=>(O1 b∧blkOf s0≠some b)∨b=n+2,fun b=>Iff.rfl,⟨(g2.set (by omega) _).set (by omega) _,fun b hb=>?_,fun b cs hb=>?_,.inl ⟨v.o3,fun e=>(s5 c3 e).2.1 rfl⟩,.inl ⟨v.o4,fun e=>(s5 c4 e).2.2.1 rfl⟩,.inl ⟨v.om,fun e=>(s5 m e).2.2.2 rfl⟩,v.n34,v.n3m,v.n4m,?_,⟨_,?_,put_int x m2⟩,w,l0+1,cs0 ++ [.int .i64 x],?_,?_,by omega,fun u hu=>?_,fun b hb=>?_,fun b hb=>?_⟩,fun hh=>hh.elim (fun hh=>hl1 hh.1) (by omega),by omega,T.gsE _ _ _⟩,by omega,fun b hb=>?_,fun b hb hob=>?_⟩
     ·rcases hb with⟨hb,_⟩|rfl
      ·have:=v.lt b hb;omega
      ·omega
     ·rcases hb with⟨hb,eb⟩|rfl
      ·by_cases e3:b=c3
       ·subst e3;rw[T.gnE _ _ l3,T.gsE];simp
       ·by_cases em:b=m
        ·subst em;rw[T.gnE _ _ lm,T.gnE _ _ (Ne.symm v.n3m),g3 b (by omega) fun e=>(s5 b e).2.2.2 rfl,T.gnE _ _ (by omega),hm'];simp
        ·have hlb:b≠l:=fun e=>hl1 (e▸hb)
         rw[kept b (v.lt b hb) hlb em e3 eb];exact v.nro b cs hb
      ·obtain⟨_,all,hall⟩:=g5.blk g4;rw[T.gnE _ _ (by omega),T.gnE _ _ (by omega),hall];simp
     ·rw[T.gnE _ _ l4,T.gnE _ _ (Ne.symm v.n34),g3 c4 (by omega) fun e=>(s5 c4 e).2.2.1 rfl,T.gnE _ _ (by omega),kH' c4 v.n4m,H4]
     ·rw[T.gnE _ _ lm,T.gnE _ _ (Ne.symm v.n3m),g3 m (by omega) fun e=>(s5 m e).2.2.2 rfl,T.gnE _ _ (by omega)];exact hm'
     ·rw[T.gnE _ _ l3];exact T.gsE _ _ _
     ·refine(g5.low (Nat.zero_le _)).keep fun b hb=>?_
      rw[g4] at hb;cases hb;rw[T.gnE _ _ (by omega),T.gnE _ _ (by omega)]
     ·rcases List.mem_append.1 hu with hu|hu
      ·exact s4 u hu
      ·rw[List.mem_singleton] at hu;exact⟨x,hu,hx⟩
     ·rw[g4] at hb;cases hb;exact⟨.inr rfl,by omega,by omega,by omega⟩
     ·rw[g4] at hb;cases hb;refine⟨g6,?_⟩;rw[T.gnE _ _ (by omega),T.gnE _ _ (by omega)];exact g7
     ·rcases hb with(⟨hb,_⟩|rfl)|rfl
      ·exact .inl ((ho b).2 (.inl hb))
      ·exact .inr (by omega)
      ·exact .inl ((ho _).2 (.inr rfl))
     ·refine kept b hb (fun e=>hob ((ho b).2 (.inr e))) (fun e=>hob ((ho b).2 (.inl (e▸v.om)))) (fun e=>hob ((ho b).2 (.inl (e▸v.o3)))) fun e=>hob (oo b e)
 ·refine OL.fd fo63_0 ?_;refine OL.l1 ty3 ?_;refine OL.bF ?_;refine OL.mv ?_;refine OL.ps ?_;refine OL.ps ?_;refine OL.ps ?_;refine OL.ps ?_;refine OL.ps ?_;refine OL.pF ?_;exact OL.nil (WL.condF rfl (WL.skip ⟨rfl,by simp only[getL,hlH],same⟩))
theorem fn256:EV.fn.get 256=some Tryz.f256:=by kernel_rfl
theorem fn228:EV.fn.get 228=some Tryz.f228:=by kernel_rfl
theorem fn186:EV.fn.get 186=some Tryz.f186:=by kernel_rfl
theorem VY_ok{c3 c4 m l df K:Nat}{t:T Value}(ht:Has t [(3,ptrTo c3),(4,ptrTo c4)])(hK:K≤1000000000):YOK l K (VY c3 c4 m l (recV t df)) where
 fresh:=fun⟨_,_,v,_⟩=>v.fresh
 lt:=fun⟨O1,ho,v,h1,h2,h3⟩ b hb=>((ho b).1 hb).elim (v.lt b) (fun e=>by omega)
 nro:=fun⟨O1,ho,v,h1,h2,h3⟩ b cs hb=>((ho b).1 hb).elim (v.nro b cs) (fun e=>by subst e;rw[h3];simp)
 frame:=fun⟨O1,ho,v,h1,h2,h3⟩ hn hf hk=>⟨O1,ho,v.frame hn hf fun b hb=>hk b ((ho b).2 (.inl hb)),h1,by omega,by rw[hk _ ((ho _).2 (.inr rfl))];exact h3⟩
 round:=fun y hk hx=>vars_round ht hK y hk hx
theorem nodes1_cl{lim l K:Nat}{Y:Nat→(Nat→Prop)→T Blk→Nat→Prop}(hY:YOK l K Y)(hKb:K≤1000000000){r:Nat}{a x:Int}{s:ByteArray}{b:Option Addr}{len c k p:Nat}{O:Nat→Prop}{h:T Blk}{n:Nat}(y:Y k O h n)(hp:h.get p=some (.cells [.int .i64 a,.int .i64 x,.string s,.slice b len c]))(hx:R64 x)(hd:Az.D Az.Γ0 lim h r (.sl 2) (.slice b len c))(hK:k+r+1≤K) :
 ∃ v O' h' n',Cl EV 256 [.func (.yield l) #[] #[],ptrTo p] h n (.ret v h' n')∧Moves Y O h n (k+r+1) O' h' n':=by
 obtain⟨O1,h1,n1,q1,q2⟩:=walk_cl hY hKb r (a:=a) (s:=s) y hx hd hK;have key:∃ v h' n',Cl EV 256 [.func (.yield l) #[] #[],ptrTo p] h n (.ret v h' n')∧∃ O',Moves Y O h n (k+r+1) O' h' n':=by refine Cl.wl (many:=6) rfl rfl fn256 rfl rfl rfl rfl ?_;refine WL.reg ?_;refine OL.la ty63 ?_;refine OL.mv ?_;refine OL.cf fn257 q1 ?_;exact OL.nil ⟨fun id e=>(by cases e),[],rfl,O1,q2⟩
 obtain⟨v,h',n',k1,O',k2⟩:=key;exact⟨v,O',h',n',k1,k2⟩
theorem nodes_cl(a x:Int)(s:ByteArray)(b:Option Addr)(len c:Nat)(h:T Blk)(n:Nat):Cl EV 228 [nodeV a x s b len c] h n (.ret (.func (.func 256) ⟨[]⟩ ⟨[ptrTo n]⟩) (h.upd (some (.cells [.int .i64 a,.int .i64 x,.string s,.slice b len c])) n) (n+1)):=by
 have key:∃ v h' n',Cl EV 228 [nodeV a x s b len c] h n (.ret v h' n')∧v= .func (.func 256) ⟨[]⟩ ⟨[ptrTo n]⟩∧h'=h.upd (some (.cells [.int .i64 a,.int .i64 x,.string s,.slice b len c])) n∧n'=n+1:=by refine Cl.wl (many:=4) rfl rfl fn228 rfl rfl rfl rfl ?_;refine WL.seq (WL.reg ?_);refine OL.bx ?_;refine OL.asg ?_;refine OL.nil (WL.seq (WL.reg ?_));refine OL.val (by first|rfl|exact WantL.yes rfl rfl rfl) (D.makeFunc rfl rfl rfl) rfl rfl ?_;refine OL.asg ?_;exact OL.nil (WL.ret ⟨fun id e=>(by cases e),[_],⟨rfl,rfl⟩,rfl,rfl,rfl⟩)
 obtain⟨v,h',n',k1,rfl,rfl,rfl⟩:=key;exact k1
theorem vars_cl{lim K:Nat}(hK:K≤1000000000){b:Option Addr}{len c:Nat}{w:Nat→Nat}{h:T Blk}{n:Nat}(hf:Fresh h n)(tl:TL lim h b len w)(hw:sumW w len≤K)(hb:∀ d o s,b=some ⟨d,o,s⟩→d<n) :
 ∃ v h' n',Cl EV 186 [.slice b len c] h n (.ret v h' n')∧Keep n h h'∧n≤n'∧Fresh h' n'∧∃ len' cs,len'≤K∧AllI cs∧(v= .slice none 0 0∨∃ b,n≤b∧v= .slice (some ⟨b,0,none⟩) len' (UNK * 1+len')∧h'.get b=some (.cells cs)∧cs.length=len'):=by
 refine Cl.dl (many:=38) rfl rfl fn186 rfl rfl rfl rfl ?_;refine DL.seq (DL.calm rfl (WL.reg ?_));refine OL.asg ?_;refine OL.nil (DL.seq (DL.calm rfl (WL.reg ?_)));refine OL.al ty150 ?_;refine OL.nil (DL.seq (DL.calm rfl (WL.reg ?_)));refine OL.val (by first|rfl|exact WantL.yes rfl rfl rfl) (D.makeMap rfl) rfl rfl ?_;refine OL.al ty289 ?_;refine OL.st (store1 (o:=0) ty289 rfl (T.gsE _ _ _) rfl (Nat.zero_lt_one)) ?_;refine OL.nil (DL.seq (DL.seq (DL.calm rfl (WL.reg ?_))));refine OL.mv ?_;refine OL.bi (lenA_slice ty25) ?_;refine OL.mv ?_;refine OL.nil (DL.block ?_);refine DL.loop (k:=len) (fun m L d h' n'=>∃ (i:Nat) (O:Nat→Prop) (ds:List Nat),i≤len∧m=len-i∧Sub [(11,.int .i64 (i:Int)),(10,.int .i64 (len:Int)),(9,.slice b len c),(3,ptrTo n),(4,ptrTo (n+1+1))] L∧d=marks ds∧ds.Nodup∧(∀ r∈ds,h'.get r=some (.dfr true)∧n≤r∧r<n'∧¬ O r) ∧
  VB n (n+1+1) (n+1) (sumW w i) O h' n'∧(∀ b,O b→n≤b)∧Keep n h h'∧n≤n') ?_
  ⟨0,fun b=>b=n∨b=n+1∨b=n+1+1,[],Nat.zero_le _,rfl,(by repeat (first|exact Sub.nil|refine Sub.cons rfl ?_)),rfl,List.nodup_nil,fun r hr=>by(cases hr),⟨?_,?_,?_,.inl rfl,.inr (.inr rfl),.inr (.inl rfl),by omega,by omega,by omega,T.gsE _ _ _,⟨[],?_,fun e he=>by(cases he)⟩,.slice none 0 0,0,[],?_,.inl ⟨rfl,rfl,rfl⟩,Nat.zero_le _,fun v hv=>by(cases hv),fun b hb=>by(cases hb),fun b hb=>by(cases hb)⟩,?_,?_,by omega⟩
 rotate_left
 ·exact(((hf.upd _).upd _).upd _).set (by omega) _
 ·rintro b (rfl|rfl|rfl)<;>omega
 ·rintro b cs (rfl|rfl|rfl)
  ·rw[T.gnE _ _ (by omega),T.gnE _ _ (by omega),T.gnE _ _ (by omega),T.gsE];simp
  ·rw[T.gnE _ _ (by omega),T.gnE _ _ (by omega),T.gsE];simp
  ·rw[T.gsE];simp
 ·rw[T.gnE _ _ (by omega),T.gnE _ _ (by omega),T.gsE]
 ·rw[T.gnE _ _ (by omega),T.gnE _ _ (by omega),T.gnE _ _ (by omega),T.gsE];rfl
 ·rintro b (rfl|rfl|rfl)<;>omega
 ·exact(((Keep.refl n h).upd (nlR _) _).upd (by omega) _).upd (by omega) _ |>.upd (by omega) _
 rintro m L d h' n' ⟨i,O,ds,hi,rfl,hs,rfl,hnd,hds,vb,hO,hkp,hnn⟩;refine DL.keep hs ?_;by_cases c1:(i:Int)<(len:Int)
 ·have hi':i<len:=by omega
  refine DL.seq (DL.calm rfl (WL.reg ?_));refine OL.bT ?_;refine OL.nil (DL.seq (DL.calm rfl (WL.condT rfl (WL.skip ?_))));have tl':=tl.keep (h':=h') (fun d o s e=>hkp d (hb d o s e)) fun b cs hc=>by rw[hkp b (hf.lt hc)];exact hc
  obtain⟨p,a',x',s2,e',l',c',q1,q2,q3,q4,q5,q6⟩:=tl'.load (c:=c) hi';refine DL.seq (DL.block (DL.seq (DL.calm rfl (WL.reg ?_))));refine OL.ix q1 ?_;refine OL.ld q2 ?_;refine OL.al ty63 ?_;refine OL.sn ty63 (T.gsE _ _ _) ?_;refine OL.nil (DL.seq (DL.calm rfl (WL.reg ?_)));refine OL.la ty63 ?_;refine OL.cf fn228 (nodes_cl a' x' s2 e' l' c' _ _) ?_;refine OL.nil (DL.block (DL.rangeF rfl fn256 ?_));intro t ht;have fO:∀ b,O b→b<n':=vb.lt;have f':=vb.fresh;have hsum:sumW w (i+1)≤sumW w len:=sumW_le w hi';have hsum1:sumW w (i+1)=sumW w i+(w i+1):=rfl;have ro:∀ (X Y Z V U:Option Blk) b cs,h'.get b=some (.ro cs)→(((((h'.upd X n').upd Y n').upd Z (n'+1)).upd V (n'+1+1)).upd U (n'+1+1+1)).get b=some (.ro cs):=fun X Y Z V U b cs hc=>by
   have:=f'.lt hc;rw[T.gnE _ _ (by omega),T.gnE _ _ (by omega),T.gnE _ _ (by omega),T.gnE _ _ (by omega),T.gnE _ _ (by omega)];exact hc
  have y0:VY n (n+1+1) (n+1) (n'+1+1+1) (recV t (n'+1+1)) (sumW w i) (fun b=>O b∨b=n'+1+1+1) (((((h'.upd (some (.cells tTerm.zero)) n').upd (some (.cells [.int .i64 a',.int .i64 x',.string s2,.slice e' l' c'])) n').upd (some (.cells [.int .i64 a',.int .i64 x',.string s2,.slice e' l' c'])) (n'+1)).upd (some (.dfr true)) (n'+1+1)).upd (some (.loop (recV t (n'+1+1)))) (n'+1+1+1)) (n'+1+1+2):=by
   refine⟨O,fun b=>Iff.rfl,vb.frame (by omega) ?_ fun b hb=>?_,fun ho=>by have:=fO _ ho;omega,by omega,T.gsE _ _ _⟩
   ·exact((((f'.upd _).set (by omega) _).upd _).upd _).upd _
   ·have:=fO b hb;rw[T.gnE _ _ (by omega),T.gnE _ _ (by omega),T.gnE _ _ (by omega),T.gnE _ _ (by omega),T.gnE _ _ (by omega)]
  obtain⟨v,O2,h2,n2,g1,⟨⟨k2,hk2,y2⟩,g3,g4,g5⟩⟩:=nodes1_cl (lim:=lim) (K:=K) (VY_ok (K:=K) (show Has t [(3,ptrTo n),(4,ptrTo (n+1+1))] from fun k v hv=>ht k v ((show Sub [(3,ptrTo n),(4,ptrTo (n+1+1))] _ from(by repeat (first|exact Sub.nil|refine Sub.cons rfl ?_))) k v hv)) hK) hK (p:=n'+1) y0 (by rw[T.gnE _ _ (by omega),T.gnE _ _ (by omega)];exact T.gsE _ _ _) q4 (q6.mono (ro _ _ _ _ _)) (by omega);obtain⟨O3,o1,o2,o3,o4,o5⟩:=y2;refine⟨v,h2,n2,g1,recV t (n'+1+1),by simp only[getL,o5],rfl,rfl,?_⟩;have hnl:∀ b,O3 b→b≠n'+1+1+1:=fun b hb e=>o3 (e▸hb)
  have o6:∀ b,O3 b→O b∨n'+1+1+2≤b:=fun b hb=>by
   rcases g4 b ((o1 b).2 (.inl hb)) with(h1|h1)|h1
   ·exact .inl h1
   ·exact absurd h1 (hnl b hb)
   ·exact .inr h1
  refine DL.calm rfl (WL.reg ?_);have:=sumW_ge w len;refine OL.ad1 ?_;refine OL.mv ?_;have kept:∀ b,b<n'→¬ O b→(h2.upd (some (.loop {recV t (n'+1+1) with state:= .exhausted})) (n'+1+1+1)).get b=h'.get b:=fun b hb ho=>by rw[T.gnE _ _ (by omega),g5 b (by omega) (fun h=>h.elim ho (by omega)),T.gnE _ _ (by omega),T.gnE _ _ (by omega),T.gnE _ _ (by omega),T.gnE _ _ (by omega),T.gnE _ _ (by omega)]
  refine OL.nil ⟨len-(i+1),by omega,i+1,O3,(n'+1+1) :: ds,by omega,rfl,(by repeat (first|exact Sub.nil|refine Sub.cons rfl ?_)),rfl,?_,?_,?_,?_,?_,by omega⟩
  ·refine List.nodup_cons.2 ⟨fun hm=>?_,hnd⟩;have:=(hds _ hm).2.2.1;omega
  ·intro r hr;rcases List.mem_cons.1 hr with rfl|hr
   ·refine⟨?_,by omega,by omega,fun ho=>?_⟩
    ·rw[T.gnE _ _ (by omega),g5 _ (by omega) (fun h=>h.elim (fun h=>by have:=fO _ h;omega) (by omega)),T.gnE _ _ (by omega)];exact T.gsE _ _ _
    ·rcases o6 _ ho with h1|h1
     ·have:=fO _ h1;omega
     ·omega
   ·obtain⟨z1,z2,z3,z4⟩:=hds r hr;exact⟨by rw[kept r z3 z4];exact z1,z2,by omega,fun ho=>(o6 r ho).elim z4 (by omega)⟩
  ·refine(o2.frame (nlR _) (o2.fresh.set o4 _) fun b hb=>T.gnE _ _ (hnl b hb)).more (by omega)
  ·intro b hb;rcases o6 b hb with h1|h1
   ·exact hO b h1
   ·omega
  ·intro b hb;rw[kept b (by omega) fun ho=>by have:=hO b ho;omega];exact hkp b hb
 ·have hi':i=len:=by omega
  subst hi';refine DL.seq (DL.calm rfl (WL.reg ?_));refine OL.bF ?_;refine OL.nil (DL.seq (DL.calm rfl (WL.condF rfl (WL.exit ?_))));refine DL.seq (DL.calm rfl (WL.reg ?_));obtain⟨s,l3,cs,s1,s2,s3,s4,s5,s6⟩:=vb.h3;refine OL.l1 ty150 ?_;refine OL.asg ?_;refine OL.nil (DL.calm rfl (WL.ret ⟨fun id e=>(by cases e),ds,rfl,hnd,fun r hr=>(hds r hr).1,fun h2 hh=>⟨[_],⟨rfl,rfl⟩,?_⟩⟩));have hsame:∀ b,b<n∨O b→h2.get b=h'.get b:=fun b hb=>hh b fun hm=>by
   obtain⟨_,z2,_,z4⟩:=hds b hm;rcases hb with hb|hb
   ·omega
   ·exact z4 hb
  refine⟨fun b hb=>by rw[hsame b (.inl hb)];exact hkp b hb,hnn,fun b hb=>?_,l3,cs,by omega,s4,?_⟩
  ·rw[hh b fun hm=>by have:=(hds b hm).2.2.1;omega];exact vb.fresh b hb
  ·have hcl:=s2.csl;rw[Nat.mul_one] at hcl;rcases s2 with⟨rfl,rfl,rfl⟩|⟨b',o',cap',all',rfl,_⟩
   ·exact .inl rfl
   ·have hOb:=(s5 b' rfl).1;obtain⟨e1,e2⟩:=s6 b' rfl;exact .inr ⟨b',hO b' hOb,e1,by rw[hsame b' (.inr hOb)];exact e2,hcl⟩
theorem rows_int{N:Nat}{cs:List Value}{h:T Blk}(ha:AllI cs):Az.Rows Az.C0 N h .top [.int .i64] cs:=by intro i x ct hx hct;have hmem:x∈cs:=List.mem_of_getElem? (by rw[←nth_eq];exact hx);obtain⟨y,rfl,h1,h2⟩:=ha x hmem;have:i % [Az.CT.int .i64].length=0:=Nat.mod_one i;rw[this] at hct;cases hct;exact Az.D.int h1 h2
theorem spec_vars{b:Option Addr}{len c K m:Nat}{w:Nat→Nat}{h:T Blk}{n:Nat}(hf:Fresh h n)(tl:TL 4400 h b len w)(hw:sumW w len≤K)(hb:∀ d o s,b=some ⟨d,o,s⟩→d<n)(hK:K≤m)(hm:m≤900000000) :
 ∃ v h' n',Cl Az.C0.E 186 [.slice b len c] h n (.ret v h' n')∧(∀ b,b<n→h'.get b=h.get b)∧n≤n'∧(∀ b,n'≤b→h'.get b=none)∧∃ bs,Az.ROk Az.C0 h' n n' (.fresh 3 m) v bs∧bs.Nodup:=by
 obtain⟨v,h',n',q1,q2,q3,q4,len',cs,q5,q6,q7⟩:=vars_cl (K:=K) (c:=c) (by omega) hf tl hw hb;refine⟨v,h',n',q1,q2,q3,q4,?_⟩;rcases q7 with rfl|⟨d,h1,rfl,h3,h4⟩
 ·exact⟨[],.nil (cts:=[.int .i64]) rfl (Nat.zero_lt_one),List.nodup_nil⟩
 ·refine⟨[d],.fresh (W:=len') (cts:=[.int .i64]) h1 (q4.lt h3) h3 rfl (Nat.zero_lt_one) (by rw[h4];exact(Nat.mul_one _).symm) (nlR _) (by omega) (.inl rfl) (rows_int q6) (by omega),by simp⟩
end Go.Sx
namespace Go.Sx.Az
theorem t186:Shown [s186]:=fun sp hm=>by
 simp only[List.mem_cons,List.not_mem_nil,or_false] at hm;subst hm;refine⟨rfl,fun N h n vs hf hg ha=>?_⟩;cases ha with
 | cons ha hl =>
   cases hl;cases ha with
   | @sl q r v hr hd =>
     obtain⟨b,len,c,rfl⟩:=D_slice hd;obtain⟨w,h1,h2,h3,h4⟩:=TL.of_D hd;have h5:sumW w len≤4400:=by
      cases hd with
      | nil=>exact Nat.zero_le _
      | sl f hb hq hp ho hs hl hc=>exact Nat.le_trans h2 hl
     exact spec_vars hf h1 h5 (fun d o s e=>by obtain⟨cs,hc⟩:=h3 d o s e;exact Fresh.lt hf hc) (by omega) (by omega)
theorem t186v:Shown [s186v]:=fun sp hm=>by
 simp only[List.mem_cons,List.not_mem_nil,or_false] at hm;subst hm;refine⟨rfl,fun N h n vs hf hg ha=>?_⟩;cases ha with
 | cons ha hl =>
   cases hl;cases ha with
   | @vsn q m cts hq hp=>exact spec_vars (K:=0) (w:=fun _=>0) hf ⟨fun i hi=>absurd hi (Nat.not_lt_zero i)⟩ (nlR _) (fun _ _ _ e=>by cases e) (Nat.zero_le _) (nlR _)
   | @vs q m b L W c cts cs hg hq hp hl hLW hW hc hr hm =>
     cases hq;have hl:cs.length=W * 4:=hl;have each:∀ i,∃ r,r≤4400∧(i<L * 4→∀ x ct,cs[0+i]? =some x→nth [CT.int .i64,.int .i64,.str,.sl 2] (i % 4)=some ct→D Γ0 4400 h r ct x):=fun i=>by
      by_cases hi:i<L * 4
      ·have hx:∃ x,cs[0+i]? =some x:=⟨_,ggE (by omega)⟩
       obtain⟨x,hx⟩:=hx;have hlt:i % 4<4:=Nat.mod_lt _ (by omega);obtain⟨ct,hct⟩:∃ ct,nth [CT.int .i64,.int .i64,.str,.sl 2] (i % 4)=some ct:=by rcases (by omega:i % 4=0∨i % 4=1∨i % 4=2∨i % 4=3) with e|e|e|e<;>rw[e]<;>exact⟨_,rfl⟩
       have hd:=hr i x ct (by rw[nth_eq];rw[Nat.zero_add] at hx;exact hx) hct;have one:∀ {r},r≤4400→D Γ0 4400 h r ct x→∃ r,r≤4400∧(i<L * 4→∀ x ct,cs[0+i]? =some x→nth [CT.int .i64,.int .i64,.str,.sl 2] (i % 4)=some ct→D Γ0 4400 h r ct x):=fun {r} hr hd=>⟨r,hr,fun _ x' ct' hx' hct'=>by rw[hx] at hx';rw[hct] at hct';cases hx';cases hct';exact hd⟩
       cases ct with
       | int k=>exact one (Nat.zero_le _) hd
       | bool=>exact one (Nat.zero_le _) hd
       | str=>exact one (Nat.zero_le _) hd
       | sl q =>
         obtain⟨r,_,hd⟩:=hd;cases hd with
         | nil=>exact one (r:=0) (Nat.zero_le _) .nil
         | sl f hb hq hp ho hs hl2 hc2=>exact one hl2 (.sl f hb hq hp ho hs hl2 hc2)
      ·exact⟨0,Nat.zero_le _,fun h=>absurd h hi⟩
     have tl:=TL.of_cells (lim:=4400) (h:=h) (d:=b) (o:=0) (len:=L) (cs:=cs) (cells_of hg) (by omega) (fun i=>Classical.choose (each i)) fun i x ct hi hx hct=>(Classical.choose_spec (each i)).2 hi x ct hx hct
     have hsum:∀ k,sumW (fun i=>Classical.choose (each (i * 4+3))) k≤k * 4401:=by
      intro k
      induction k with
      | zero=>exact Nat.zero_le _
      | succ k ih =>
        have:=(Classical.choose_spec (each (k * 4+3))).1;rw[Nat.succ_mul];exact Nat.add_le_add ih (Nat.add_le_add_right this 1)
     have hK:L * 4401≤200000 * 4401:=Nat.mul_le_mul_right _ hm;exact spec_vars (K:=L * 4401) hf tl (hsum L) (fun d o s e=>by cases e;exact Fresh.lt hf hg) (by omega) (nlR _)
theorem t73':Shown [s73]:=t73 t186 t186v
theorem t57':Shown [s57]:=t57 t186 t186v
end Go.Sx.Az
