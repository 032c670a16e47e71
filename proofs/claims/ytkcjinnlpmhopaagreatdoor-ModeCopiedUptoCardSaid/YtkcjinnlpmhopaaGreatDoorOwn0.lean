/- SxA: an executor of the model's code over a small heap of its own (no world, no tape), to be run by the kernel. What it comes to, the model's machine comes to, in every world and on every tape (SxB and the texts behind it prove that). -/
import Derived.RangeFuncLeaves
import Derived.RecoverIn
import Derived.OrdersIn
import Derived.MapKept
import Derived.ChangeKeysEq
import Derived.Scope
namespace Go.Sx
theorem gsI {α:Type _}{l:List α}{i:Nat}{a:α}(h:l[i]? =some a):∃ h:i<l.length,l[i]=a:=List.getElem?_eq_some_iff.1 h
theorem ggE {α:Type _}{l:List α}{i:Nat}(h:i<l.length):l[i]? =some l[i]:=List.getElem?_eq_getElem h
theorem baT (a b:Bool):((a&&b)=true)=(a=true∧b=true):=Bool.and_eq_true a b
theorem nlR (n:Nat):n≤n:=Nat.le_refl n
theorem mcS {α:Type _}{a:α}{l:List α}:a∈a::l:=List.mem_cons_self ..
theorem mcM {α:Type _}(y:α){a:α}{l:List α}(h:a∈l):a∈y::l:=List.mem_cons_of_mem y h
noncomputable section
inductive T (α:Type) where
 | leaf
 | node (l:T α) (v:Option α) (r:T α)
inductive Pth where
 | z
 | l (p:Pth)
 | r (p:Pth)
def pthF:Nat→Nat→Pth:=fun f=>Nat.rec (motive:=fun _=>Nat→Pth) (fun _=> .z) (fun _ ih n=>Bool.rec (motive:=fun _=>Pth) (Bool.rec (motive:=fun _=>Pth) (.r (ih (Nat.sub (Nat.div n 2) 1))) (.l (ih (Nat.div n 2))) (Nat.beq (Nat.mod n 2) 1)) .z (Nat.beq n 0)) f
def pth(n:Nat):Pth:=pthF (Nat.succ n) n
def T.getP{α:Type}(t:T α):Pth→Option α :=
 T.rec (motive:=fun _=>Pth→Option α) (fun _=>none) (fun _ v _ ihl ihr p=>Pth.rec (motive:=fun _=>Option α) v (fun p _=>ihl p) (fun p _=>ihr p) p) t
def T.get{α:Type}(t:T α)(n:Nat):Option α:=t.getP (pth n)
def T.mkP{α:Type}(o:Option α)(p:Pth):T α :=
 Pth.rec (motive:=fun _=>T α) (.node .leaf o .leaf) (fun _ ih=> .node ih none .leaf) (fun _ ih=> .node .leaf none ih) p
def T.updP{α:Type}(o:Option α)(t:T α):Pth→T α :=
 T.rec (motive:=fun _=>Pth→T α) (fun p=>T.mkP o p) (fun l v r ihl ihr p=>Pth.rec (motive:=fun _=>T α) (.node l o r) (fun p _=> .node (ihl p) v r) (fun p _=> .node l v (ihr p)) p) t
def T.upd{α:Type}(o:Option α)(t:T α)(n:Nat):T α:=T.updP o t (pth n)
def nth{α:Type}:List α→Nat→Option α
 | [],_=>none
 | a :: l,n=>bif Nat.beq n 0 then some a else nth l (n-1)
def dropL{α:Type}:List α→Nat→List α
 | [],_=>[]
 | a :: l,n=>bif Nat.beq n 0 then a :: l else dropL l (n-1)
def takeL{α:Type}:Nat→List α→Option (List α)
 | 0,_=>some []
 | _+1,[]=>none
 | n+1,a :: l=>match takeL n l with
   | some r=>some (a :: r)
   | none=>none
def seg{α:Type}(l:List α)(o n:Nat):Option (List α):=takeL n (dropL l o)
def over{α:Type}:List α→List α→Option (List α)
 | l,[]=>some l
 | [],_ :: _=>none
 | _ :: l,b :: m=>match over l m with
   | some r=>some (b :: r)
   | none=>none
def overAt{α:Type}(m:List α):List α→Nat→Option (List α)
 | [],n=>bif Nat.beq n 0 then over [] m else none
 | a :: l,n=>bif Nat.beq n 0 then over (a :: l) m else match overAt m l (n-1) with
   | some r=>some (a :: r)
   | none=>none
structure TyI where
 size:Nat
 bytes:Nat
 d:TypeDesc
 zero:List Value
 zok:Bool
structure ALoop where
 state:LoopState
 pending:Option Code
 tmps:T Value
 many:Nat
 params:List Tmp
 assign:Code
 body:Code
 defers:Nat
inductive Blk where
 | cells (cs:List Value)
 | ro (cs:List Value)
 | map (es:List (Value×Value))
 | iter (s:ByteArray) (pos:Nat)
 | loop (l:ALoop)
 | dfr (open_:Bool)
inductive CK where
 | int (k:IntKind)
 | bool
 | str
inductive Ct where
 | nil
 | lit (v:Value) (next:Ct)
 | sl (len cap:Nat) (kids next:Ct)
 | agg (kids next:Ct)
structure Env where
 ty:T TyI
 fn:T Func
 flat:List (TypeId×List CK)
 glob:Nat
 memo:T (List (Ct×Value))
 gro:List (Nat×List Value)
 ext:Nat→List Value→T Blk→Nat→Option (Value×T Blk×Nat):=fun _ _ _ _=>none
def UNK:Nat:=1208925819614629174706176
def lit:Nat→Value→Bool
 | _,.bool _=>true
 | _,.int _ _=>true
 | _,.string _=>true
 | _,.pointer none=>true
 | _,.slice none _ _=>true
 | _,.map none=>true
 | _,.nilFunc=>true
 | _,.nilIface=>true
 | _,.func (.func _) a b=>a.toList.isEmpty&&b.toList.isEmpty
 | f+1,.agg cs=>cs.toList.all (lit f)
 | f+1,.tuple cs=>cs.toList.all (lit f)
 | f+1,.iface _ v=>lit f v
 | _,_=>false
def cellsL:Value→List Value
 | .agg cs=>cs.toList
 | v=>[v]
def evA(E:Env)(t:T Value):Operand→Option Value
 | .tmp k=>t.get k
 | .const v=>bif lit 6 v then some v else none
 | .global g=>bif Nat.blt g E.glob then some (.pointer (some ⟨g,0,none⟩)) else none
 | .func f=>some (.func (.func f) #[] #[])
def evAll(E:Env)(t:T Value):List Operand→Option (List Value)
 | []=>some []
 | x :: l=>match evA E t x,evAll E t l with
   | some v,some r=>some (v :: r)
   | _,_=>none
inductive OO where
 | val (v:Value) (h:T Blk) (n:Nat)
 | skip (h:T Blk) (n:Nat)
 | dfr (d:Deferred)
 | enter (f:FuncId) (args:List Value)
 | round (l:Nat) (args:List Value)
 | pan (v:Value)
 | no (why:String)
def isAgg:TypeDesc→Bool
 | .struct _=>true
 | .array _ _=>true
 | _=>false
def cellsOf(h:T Blk)(b:Nat):Option (List Value) :=
 match h.get b with
 | some (.cells cs)=>some cs
 | some (.ro cs)=>some cs
 | _=>none
def ldA(i:TyI)(cs:List Value)(o:Nat):Option Value :=
 bif isAgg i.d then (match seg cs o i.size with|some l=>some (.agg ⟨l⟩)|none=>none) else nth cs o
def loadA(E:Env)(h:T Blk)(t:TypeId)(a:Value):Option Value :=
 match a with
 | .pointer (some ⟨b,o,none⟩) =>
   match E.ty.get t,cellsOf h b with
   | some i,some cs=>ldA i cs o
   | _,_=>none
 | _=>none
def isCell:Value→Bool
 | .agg _=>false
 | .tuple _=>false
 | _=>true
def allCells:List Value→Bool
 | []=>true
 | v :: l=>bif isCell v then allCells l else false
def putA(h:T Blk)(b o:Nat)(vs:List Value):Option (T Blk) :=
 match h.get b with
 | some (.cells cs) =>
   bif allCells vs then
    (match overAt vs cs o with
     | some cs'=>some (h.upd (some (.cells cs')) b)
     | none=>none)
   else none
 | _=>none
def storeA(E:Env)(h:T Blk)(t:TypeId)(a v:Value):Option (T Blk) :=
 match a with
 | .pointer (some ⟨b,o,none⟩) =>
   match E.ty.get t with
   | some i=>bif Nat.beq (cellsL v).length i.size then putA h b o (cellsL v) else none
   | none=>none
 | _=>none
def newA(h:T Blk)(n:Nat)(x:Blk):T Blk:=h.upd (some x) n
def ptrTo(n:Nat):Value:= .pointer (some ⟨n,0,none⟩)
def fillA(place:Nat→Option (Nat×Nat)):List (Nat×Value)→List Value→Option (List Value)
 | [],cs=>some cs
 | (i,v) :: rest,cs =>
   match place i with
   | some (off,size) =>
     bif Nat.beq (cellsL v).length size then
      (match overAt (cellsL v) cs off with
       | some cs'=>fillA place rest cs'
       | none=>none)
     else none
   | none=>none
def evParts(E:Env)(t:T Value):List (Nat×Operand)→Option (List (Nat×Value))
 | []=>some []
 | (i,x) :: l=>match evA E t x,evParts E t l with
   | some v,some r=>some ((i,v) :: r)
   | _,_=>none
def fieldPlaces(E:Env)(fs:List Field)(k:Nat):Option (Nat×Nat) :=
 match nth fs k with
 | some f=>(match E.ty.get f.type with|some j=>some (f.offset,j.size)|none=>none)
 | none=>none
def repL{α:Type}(l:List α):Nat→List α
 | 0=>[]
 | n+1=>l ++ repL l n
def buildA(E:Env)(t:TypeId)(parts:List (Nat×Value)):Option Value :=
 match E.ty.get t with
 | some i =>
   bif i.zok then
    (match i.d with
     | .struct fs=>(match fillA (fieldPlaces E fs.toList) parts i.zero with|some cs=>some (.agg ⟨cs⟩)|none=>none)
     | .array _ e=>(match E.ty.get e with
      | some j=>(match fillA (fun k=>some (k * j.size,j.size)) parts i.zero with|some cs=>some (.agg ⟨cs⟩)|none=>none)
      | none=>none)
     | _=>none)
   else none
 | none=>none
def buildSliceA(E:Env)(t:TypeId)(len:Nat)(parts:List (Nat×Value)):Option (List Value) :=
 match E.ty.get t with
 | some i =>
   match i.d with
   | .slice e =>
     match E.ty.get e with
     | some j=>bif j.zok&&Nat.ble (len * j.size) 100000&&Nat.beq j.zero.length j.size&&Nat.blt 0 j.size then fillA (fun k=>some (k * j.size,j.size)) parts (repL j.zero len) else none
     | none=>none
   | _=>none
 | none=>none
def fieldOff(E:Env)(s:TypeId)(k:Nat):Option Nat :=
 match E.ty.get s with
 | some i =>
   match i.d with
   | .struct fs =>
     match nth fs.toList k with
     | some f=>(match E.ty.get f.type with|some j=>bif Nat.beq j.size 0 then none else some f.offset|none=>none)
     | none=>none
   | _=>none
 | none=>none
def natV(v:Value)(hi:Nat):Option Nat :=
 match v with
 | .int _ (.ofNat n)=>bif Nat.ble n hi then some n else none
 | _=>none
def idxA(E:Env)(t:TypeId)(x i:Value):Option Value :=
 match E.ty.get t with
 | some ti =>
   match ti.d,x with
   | .array len e,.pointer (some ⟨b,o,none⟩) =>
     (match E.ty.get e,natV i (len-1) with
      | some j,some k=>bif Nat.blt k len then some (.pointer (some ⟨b,o+k * j.size,none⟩)) else none
      | _,_=>none)
   | .slice e,.slice (some ⟨b,o,none⟩) len _ =>
     (match E.ty.get e,natV i (len-1) with
      | some j,some k=>bif Nat.blt k len then some (.pointer (some ⟨b,o+k * j.size,none⟩)) else none
      | _,_=>none)
   | _,_=>none
 | none=>none
def bytesEq:List UInt8→List UInt8→Bool
 | [],[]=>true
 | a :: x,b :: y=>Nat.beq a.toNat b.toNat&&bytesEq x y
 | _,_=>false
def bytesLt:List UInt8→List UInt8→Bool
 | _,[]=>false
 | [],_ :: _=>true
 | a :: x,b :: y=>Nat.blt a.toNat b.toNat||(Nat.beq a.toNat b.toNat&&bytesLt x y)
def kindEq(j k:IntKind):Bool:=decide (j=k)
def fitC:CK→Value→Bool
 | .int k,.int j n=>kindEq k j&&decide (k.min≤n)&&decide (n≤k.max)
 | .bool,.bool _=>true
 | .str,.string s=>Nat.ble s.size 16000000
 | _,_=>false
def fitsK:List CK→List Value→Bool
 | [],[]=>true
 | k :: ks,v :: vs=>fitC k v&&fitsK ks vs
 | _,_=>false
def eqC:Value→Value→Bool
 | .int _ a,.int _ b=>decide (a=b)
 | .bool a,.bool b=>a == b
 | .string a,.string b=>bytesEq a.data.toList b.data.toList
 | _,_=>false
def eqCs:List Value→List Value→Bool
 | [],[]=>true
 | a :: x,b :: y=>eqC a b&&eqCs x y
 | _,_=>false
def flatKs(t:TypeId):List (TypeId×List CK)→Option (List CK)
 | []=>none
 | x :: l=>bif Nat.beq x.1 t then some x.2 else flatKs t l
def eqFlat(ks:List CK)(a b:List Value):Option Bool:=bif fitsK ks a&&fitsK ks b then some (eqCs a b) else none
def memN(n:Nat):List Nat→Bool
 | []=>false
 | k :: l=>Nat.beq k n||memN n l
def isConstO:Operand→Bool
 | .const _=>true
 | _=>false
def eqA(E:Env)(t:TypeId)(c:Bool)(x y:Value):Option Bool :=
 match E.ty.get t with
 | some i =>
   (match i.d,x,y with
    | .bool,.bool a,.bool b=>some (a == b)
    | .pointer _,.pointer none,.pointer none=>some true
    | .pointer _,.pointer none,.pointer (some _)=>some false
    | .pointer _,.pointer (some _),.pointer none=>some false
    | .slice _,.slice none _ _,.slice none _ _=>some true
    | .slice _,.slice none _ _,.slice (some _) _ _=>some false
    | .slice _,.slice (some _) _ _,.slice none _ _=>some false
    | .map _ _,.map none,.map none=>some true
    | .map _ _,.map none,.map (some _)=>some false
    | .map _ _,.map (some _),.map none=>some false
    | .func _ _ _,.nilFunc,.nilFunc=>some true
    | .func _ _ _,.nilFunc,.func _ _ _=>some false
    | .func _ _ _,.func _ _ _,.nilFunc=>some false
    | .interface _,.nilIface,.nilIface=>bif c then some true else none
    | .interface _,.nilIface,.iface _ _=>some false
    | .interface _,.iface _ _,.nilIface=>some false
    | .struct _,.agg a,.agg b=>(match flatKs t E.flat with|some ks=>eqFlat ks a.toList b.toList|none=>none)
    | .array _ _,.agg a,.agg b=>(match flatKs t E.flat with|some ks=>eqFlat ks a.toList b.toList|none=>none)
    | _,_,_=>none)
 | none=>none
def cmpA(op:BinOp)(a b:Int):Option Value :=
 match op with
 | .eql=>some (.bool (decide (a=b)))
 | .neq=>some (.bool (!decide (a=b)))
 | .lss=>some (.bool (decide (a<b)))
 | .leq=>some (.bool (decide (a≤b)))
 | .gtr=>some (.bool (decide (b<a)))
 | .geq=>some (.bool (decide (b≤a)))
 | _=>none
def binA(E:Env)(op:BinOp)(t:TypeId)(c:Bool)(x y:Value):Option Value :=
 match x,y with
 | .int j a,.int k b =>
   (match op with
    | .add=>bif kindEq j k then some (.int j (j.wrap (a+b))) else none
    | .sub=>bif kindEq j k then some (.int j (j.wrap (a-b))) else none
    | .mul=>bif kindEq j k then some (.int j (j.wrap (a * b))) else none
    | .quo=>bif kindEq j k&& !decide (b=0) then some (.int j (j.wrap (a.tdiv b))) else none
    | .rem=>bif kindEq j k&& !decide (b=0) then some (.int j (a.tmod b)) else none
    | .and=>bif kindEq j k then some (.int j (j.wrap (BitVec.ofInt j.bits a &&& BitVec.ofInt j.bits b).toNat)) else none
    | .or=>bif kindEq j k then some (.int j (j.wrap (BitVec.ofInt j.bits a ||| BitVec.ofInt j.bits b).toNat)) else none
    | .xor=>bif kindEq j k then some (.int j (j.wrap (BitVec.ofInt j.bits a ^^^ BitVec.ofInt j.bits b).toNat)) else none
    | .shl=>(match b with| .ofNat s=>some (.int j (j.wrap (a * 2 ^ min s j.bits)))|_=>none)
    | .shr=>(match b with| .ofNat s=>some (.int j (a.fdiv (2 ^ min s j.bits)))|_=>none)
    | _=>bif kindEq j k then cmpA op a b else none)
 | .string a,.string b =>
   (match op with
    | .eql=>some (.bool (bytesEq a.data.toList b.data.toList))
    | .neq=>some (.bool (!bytesEq a.data.toList b.data.toList))
    | .lss=>some (.bool (bytesLt a.data.toList b.data.toList))
    | .gtr=>some (.bool (!(bytesLt a.data.toList b.data.toList||bytesEq a.data.toList b.data.toList)))
    | _=>none)
 | x,y =>
   (match op with
    | .eql=>(match eqA E t c x y with|some b=>some (.bool b)|none=>none)
    | .neq=>(match eqA E t c x y with|some b=>some (.bool (!b))|none=>none)
    | _=>none)
def unA(op:UnOp)(x:Value):Option Value :=
 match op,x with
 | .not,.bool b=>some (.bool (!b))
 | .neg,.int k n=>some (.int k (k.wrap (0-n)))
 | _,_=>none
def evOpt(E:Env)(t:T Value):Option Operand→Option (Option Value)
 | none=>some none
 | some x=>match evA E t x with
   | some v=>some (some v)
   | none=>none
def unkCap(c:Nat):Bool:=Nat.ble UNK c
def lowCap(c:Nat):Nat:=c % UNK
def boundsA(len cap:Nat)(lo hi mx:Option Value):Option (Nat×Nat×Nat) :=
 match mx,hi with
 | none,none=>low len cap lo
 | none,some v=>(match natV v cap with|some h=>low h cap lo|none=>none)
 | some u,some v=>(match natV u cap with|some m=>(match natV v m with|some h=>low h m lo|none=>none)|none=>none)
 | some _,none=>none
where
 low (h m:Nat) (lo:Option Value):Option (Nat×Nat×Nat) :=
  match lo with
  | none=>some (0,h,m)
  | some v=>(match natV v h with|some l=>some (l,h,m)|none=>none)
def sliceA(E:Env)(t:TypeId)(x:Value)(lo hi mx:Option Value):Option Value :=
 match E.ty.get t with
 | some ti =>
   match ti.d,x with
   | .string,.string s =>
     (match mx,boundsA s.size s.size lo hi none with
      | none,some (l,h,_)=>some (.string ⟨⟨(s.data.toList.drop l).take (h-l)⟩⟩)
      | _,_=>none)
   | .slice e,.slice a len cap =>
     (match E.ty.get e,boundsA len (lowCap cap) lo hi mx with
      | some j,some (l,h,m) =>
        (match a with
         | none=>bif unkCap cap then none else some (.slice none (h-l) (m-l))
         | some ⟨b,o,none⟩ =>
           bif unkCap cap then
            (match mx with
             | none=>bif Nat.beq (cap / UNK) j.size then some (.slice (some ⟨b,o+l * j.size,none⟩) (h-l) (cap-l)) else none
             | some _=>bif Nat.beq (lowCap cap) 0 then none else bif Nat.beq m l then some (.slice (some ⟨b,o,none⟩) (h-l) 0) else some (.slice (some ⟨b,o+l * j.size,none⟩) (h-l) (m-l)))
           else bif Nat.beq m l then some (.slice (some ⟨b,o,none⟩) (h-l) 0)
           else some (.slice (some ⟨b,o+l * j.size,none⟩) (h-l) (m-l))
         | _=>none)
      | _,_=>none)
   | _,_=>none
 | none=>none
def sliceArrA(E:Env)(t:TypeId)(x:Value)(lo hi mx:Option Value):Option Value :=
 match E.ty.get t with
 | some ti =>
   match ti.d,x with
   | .array n e,.pointer (some ⟨b,o,none⟩) =>
     (match E.ty.get e,boundsA n n lo hi mx with
      | some j,some (l,h,m)=>bif Nat.ble UNK n then none else bif Nat.beq m l then some (.slice (some ⟨b,o,none⟩) (h-l) 0) else some (.slice (some ⟨b,o+l * j.size,none⟩) (h-l) (m-l))
      | _,_=>none)
   | _,_=>none
 | none=>none
def makeSliceA(E:Env)(t:TypeId)(len cap:Value)(n:Nat):Option (Value×List Value) :=
 match E.ty.get t with
 | some i =>
   match i.d with
   | .slice e =>
     (match E.ty.get e,natV cap 1000000000 with
      | some j,some c =>
        (match natV len c with
         | some l=>bif j.zok&&Nat.ble j.bytes 4096&&Nat.beq j.zero.length j.size&&Nat.blt 0 j.size then some (.slice (some ⟨n,0,none⟩) l c,repL j.zero c) else none
         | none=>none)
      | _,_=>none)
   | _=>none
 | none=>none
def rowA(h:T Blk)(size n:Nat):Value→Option (List Value)
 | .slice none _ _=>bif Nat.beq n 0 then some [] else none
 | .slice (some ⟨b,o,none⟩) _ _=>match cellsOf h b with
   | some cs=>seg cs o (n * size)
   | none=>none
 | _=>none
def newCells(E:Env)(h:T Blk)(j:TyI)(xt:Option TypeId)(x:Value):Option (Nat×List Value) :=
 match xt with
 | none=>none
 | some xt =>
   (match E.ty.get xt with
    | some xi =>
      (match xi.d with
       | .int _=>(match natV x 1000000000 with
         | some l=>some (l,repL j.zero l)
         | none=>none)
       | _=>(match x with
         | .slice xb xl xc=>(match rowA h j.size xl (.slice xb xl xc) with
           | some new=>bif Nat.ble xl 1000000000 then some (xl,new) else none
           | none=>none)
         | .string s=>bif Nat.beq j.size 1&&Nat.ble s.size 1000000000 then some (s.size,s.data.toList.map fun b=> .int .u8 b.toNat) else none
         | _=>none))
    | none=>none)
def appendA(E:Env)(st:TypeId)(xt:Option TypeId)(s x:Value)(h:T Blk)(n:Nat):Option (Value×T Blk×Nat) :=
 match E.ty.get st with
 | some i =>
   match i.d with
   | .slice e =>
     match E.ty.get e with
     | some j =>
       match s with
       | .slice base sl cap =>
         bif Nat.ble j.bytes 4096&&Nat.blt 0 j.size&&Nat.blt 0 j.bytes&&j.zok&&Nat.beq j.zero.length j.size&&Nat.ble sl 1000000000&&Nat.ble sl (lowCap cap) then
          (match newCells E h j xt x with
           | some (xl,new) =>
             (bif Nat.beq xl 0 then
              (match base with
               | none=>some (.slice none sl cap,h,n)
               | some ⟨b,o,none⟩=>some (.slice (some ⟨b,o,none⟩) sl cap,h,n)
               | _=>none)
             else
              (bif Nat.ble (sl+xl) (lowCap cap) then
               (match base with
                | some ⟨b,o,none⟩=>(match putA h b (o+sl * j.size) new with
                 | some h'=>some (.slice (some ⟨b,o,none⟩) (sl+xl) cap,h',n)
                 | none=>none)
                | _=>none)
              else
               match rowA h j.size sl (.slice base sl cap) with
               | some old =>
                 (bif unkCap cap then
                  bif !(Nat.beq (cap / UNK) j.size&&allCells new) then none else
                  (match base with
                   | some ⟨b,_,none⟩ =>
                     (match h.get b with
                      | some (.cells _)=>some (.slice (some ⟨n,0,none⟩) (sl+xl) (UNK * j.size+(sl+xl)),(h.upd none b).upd (some (.cells (old ++ new))) n,n+1)
                      | _=>none)
                   | _=>none)
                 else some (.slice (some ⟨n,0,none⟩) (sl+xl) (UNK * j.size+(sl+xl)),h.upd (some (.cells (old ++ new))) n,n+1))
               | none=>none))
           | none=>none)
         else none
       | _=>none
     | none=>none
   | _=>none
 | none=>none
def copyA(E:Env)(st:TypeId)(d x:Value)(h:T Blk):Option (Value×T Blk) :=
 match E.ty.get st with
 | some i =>
   match i.d with
   | .slice e =>
     match E.ty.get e with
     | some j =>
       match d,x with
       | .slice (some ⟨b,o,none⟩) dl _,.slice xb xl xc =>
         (match rowA h j.size (Nat.min xl dl) (.slice xb xl xc) with
          | some new=>(match putA h b o new with
           | some h'=>some (.int .i64 (Nat.min xl dl),h')
           | none=>none)
          | none=>none)
       | .slice none dl _,.slice _ _ _=>bif Nat.beq dl 0 then some (.int .i64 0,h) else none
       | _,_=>none
     | none=>none
   | _=>none
 | none=>none
def clearA(E:Env)(st:TypeId)(d:Value)(h:T Blk):Option (T Blk) :=
 match E.ty.get st with
 | some i =>
   match i.d with
   | .slice e =>
     match E.ty.get e with
     | some j =>
       match d with
       | .slice none _ _=>some h
       | .slice (some ⟨b,o,none⟩) n _=>bif Nat.beq n 0 then some h else bif j.zok&&Nat.beq j.zero.length j.size&&Nat.blt 0 j.size then putA h b o (repL j.zero n) else none
       | _=>none
     | none=>none
   | _=>none
 | none=>none
def lenA(E:Env)(t:TypeId)(x:Value):Option Nat :=
 match E.ty.get t with
 | some i=>(match i.d,x with
   | .string,.string s=>some s.size
   | .slice _,.slice _ n _=>some n
   | _,_=>none)
 | none=>none
def capA(E:Env)(t:TypeId)(x:Value):Option Nat :=
 match E.ty.get t with
 | some i=>(match i.d,x with
   | .slice _,.slice _ _ c=>bif unkCap c then none else some c
   | _,_=>none)
 | none=>none
def maxA(big:Bool):List Value→Option Value
 | [.int j a,.int k b]=>bif kindEq j k then some (.int j (bif big then (bif decide (b>a) then b else a) else (bif decide (b<a) then b else a))) else none
 | _=>none
inductive KK where
 | int
 | str
 | flat (ks:List CK)
def kkOf(E:Env)(kt:TypeId):Option KK :=
 match E.ty.get kt with
 | some i=>(match i.d with
   | .string=>some .str
   | .int _=>some .int
   | .struct _=>(match flatKs kt E.flat with|some ks=>some (.flat ks)|none=>none)
   | .array _ _=>(match flatKs kt E.flat with|some ks=>some (.flat ks)|none=>none)
   | _=>none)
 | none=>none
def eqKK:KK→Value→Value→Option Bool
 | .int,.int j a,.int k b=>bif kindEq j k then some (decide (a=b)) else none
 | .str,.string a,.string b=>some (bytesEq a.data.toList b.data.toList)
 | .flat ks,.agg a,.agg b=>eqFlat ks a.toList b.toList
 | _,_,_=>none
def fitKK:KK→Value→Bool
 | .int,.int _ _=>true
 | .str,.string _=>true
 | .flat ks,.agg a=>fitsK ks a.toList
 | _,_=>false
def findA(kk:KK)(k:Value):List (Value×Value)→Option (Option Value)
 | []=>some none
 | e :: es =>
   match findA kk k es with
   | none=>none
   | some r =>
     (match eqKK kk k e.1 with
      | some true=>some (some e.2)
      | some false=>some r
      | none=>none)
def putKey(kk:KK)(k v:Value):List (Value×Value)→List (Value×Value)
 | []=>[(k,v)]
 | e :: es =>
   match eqKK kk k e.1 with
   | some true=>(e.1,v) :: es
   | _=>e :: putKey kk k v es
def lookupA(E:Env)(mt:TypeId)(m k:Value)(ok:Bool)(h:T Blk):Option Value :=
 match E.ty.get mt with
 | some i =>
   match i.d with
   | .map kt et =>
     (match kkOf E kt,m with
      | some kk,.map (some r) =>
        bif fitKK kk k then
         (match h.get r with
          | some (.map es) =>
            (match findA kk k es with
             | some (some v)=>some (bif ok then .tuple #[v,.bool true] else v)
             | some none =>
               (match E.ty.get et with
                | some j=>bif j.zok then (let z:Value:=(bif isAgg j.d then .agg ⟨j.zero⟩ else j.zero.headD .nilIface);some (bif ok then .tuple #[z,.bool false] else z)) else none
                | none=>none)
             | none=>none)
          | _=>none)
        else none
      | some kk,.map none =>
        bif fitKK kk k then
         (match E.ty.get et with
          | some j=>bif j.zok then (let z:Value:=(bif isAgg j.d then .agg ⟨j.zero⟩ else j.zero.headD .nilIface);some (bif ok then .tuple #[z,.bool false] else z)) else none
          | none=>none)
        else none
      | _,_=>none)
   | _=>none
 | none=>none
def mapPutA(E:Env)(mt:TypeId)(m k v:Value)(h:T Blk):Option (T Blk) :=
 match E.ty.get mt with
 | some i =>
   match i.d with
   | .map kt _ =>
     (match kkOf E kt,m with
      | some kk,.map (some r) =>
        bif fitKK kk k then
         (match h.get r with
          | some (.map es)=>(match findA kk k es with|some _=>some (h.upd (some (.map (putKey kk k v es))) r)|none=>none)
          | _=>none)
        else none
      | _,_=>none)
   | _=>none
 | none=>none
def val?(h:T Blk)(n:Nat)(why:String):Option Value→OO
 | some v=> .val v h n
 | none=> .no why
def callA(E:Env)(h:T Blk)(n:Nat)(f:Value)(args:List Value):OO :=
 match f with
 | .func (.func k) first capt =>
   (match E.fn.get k with
    | some _=> .enter k (first.toList ++ args ++ capt.toList)
    | none=> .no "call: no such function")
 | .func (.yield l) first _=>bif first.toList.isEmpty then .round l args else .no "yield"
 | _=> .no "call of what"
def builtinA(E:Env)(b:Builtin)(argTypes:List TypeId)(args:List Value)(h:T Blk)(n:Nat):OO :=
 match b,argTypes,args with
 | .len,st :: _,[x]=>val? h n "len" (match lenA E st x with|some k=>some (.int .i64 k)|none=>none)
 | .append,st :: ts,[s,x]=>(match appendA E st (nth ts 0) s x h n with|some (v,h',n')=> .val v h' n'|none=> .no "append")
 | .copy,st :: _,[d,x]=>(match copyA E st d x h with|some (v,h')=> .val v h' n|none=> .no "copy")
 | .clear,st :: _,[d]=>(match clearA E st d h with|some h'=> .val (.tuple #[]) h' n|none=> .no "clear")
 | .max,_,l=>val? h n "max" (maxA true l)
 | .min,_,l=>val? h n "min" (maxA false l)
 | .cap,st :: _,[x]=>val? h n "cap" (match capA E st x with|some k=>some (.int .i64 k)|none=>none)
 | _,_,_=> .no "builtin"
def convA(E:Env)(dst:TypeId)(x:Value):Option Value :=
 match E.ty.get dst with
 | some i=>(match i.d,x with
   | .int k,.int _ n=>some (.int k (k.wrap n))
   | .string,.string s=>some (.string s)
   | _,_=>none)
 | none=>none
def opA(E:Env)(t:T Value)(h:T Blk)(n:Nat)(o:Oper):OO :=
 match o.op with
 | .move x=>val? h n "move" (evA E t x)
 | .assign x=>val? h n "assign" (evA E t x)
 | .pick c a b =>
   (match evA E t c with
    | some (.bool true)=>val? h n "pick" (evA E t a)
    | some (.bool false)=>val? h n "pick" (evA E t b)
    | _=> .no "pick")
 | .load ty a=>(match evA E t a with|some v=>val? h n "load" (loadA E h ty v)|none=> .no "load")
 | .store ty a x =>
   (match evA E t a,evA E t x with
    | some p,some v=>(match storeA E h ty p v with|some h'=> .skip h' n|none=> .no "store")
    | _,_=> .no "store")
 | .alloc e=>(match E.ty.get e with|some i=>bif i.zok then .val (ptrTo n) (newA h n (.cells i.zero)) (n+1) else .no "alloc" |none=> .no "alloc")
 | .box _ x=>(match evA E t x with|some v=> .val (ptrTo n) (newA h n (.cells (cellsL v))) (n+1)|none=> .no "box")
 | .build ty ps=>(match evParts E t ps.toList with|some l=>val? h n "build" (buildA E ty l)|none=> .no "build")
 | .buildSlice ty len ps =>
   (match evParts E t ps.toList with
    | some l=>(match buildSliceA E ty len l with
     | some cs=> .val (.slice (some ⟨n,0,none⟩) len len) (newA h n (.cells cs)) (n+1)
     | none=> .no "buildSlice")
    | none=> .no "buildSlice")
 | .fieldAddr s x k =>
   (match evA E t x,fieldOff E s k with
    | some (.pointer (some ⟨b,o,none⟩)),some f=> .val (.pointer (some ⟨b,o+f,none⟩)) h n
    | _,_=> .no "fieldAddr")
 | .indexAddr ty x i=>(match evA E t x,evA E t i with|some v,some k=>val? h n "indexAddr" (idxA E ty v k)|_,_=> .no "indexAddr")
 | .index ty x i =>
   (match E.ty.get ty,evA E t x,evA E t i with
    | some ti,some (.string s),some k =>
      (match ti.d,natV k (s.size-1) with
       | .string,some j=>(match nth s.data.toList j with|some b=> .val (.int .u8 b.toNat) h n|none=> .no "index")
       | _,_=> .no "index")
    | _,_,_=> .no "index")
 | .binOp op ty x y _=>(match evA E t x,evA E t y with|some a,some b=>val? h n "binOp" (binA E op ty (isConstO x||isConstO y) a b)|_,_=> .no "binOp")
 | .unOp op _ x=>(match evA E t x with|some a=>val? h n "unOp" (unA op a)|none=> .no "unOp")
 | .convert src dst x=>(match E.ty.get src,evA E t x with|some _,some a=>val? h n "convert" (convA E dst a)|_,_=> .no "convert")
 | .nilCheck x =>
   (match evA E t x with
    | some (.pointer (some a))=> .val (.pointer (some a)) h n
    | some (.func (.func f) a b)=> .val (.func (.func f) a b) h n
    | some (.func (.yield f) a b)=> .val (.func (.yield f) a b) h n
    | _=> .no "nilCheck")
 | .extract x k =>
   (match evA E t x with
    | some (.tuple vs)=>val? h n "extract" (nth vs.toList k)
    | _=> .no "extract")
 | .makeInterface ty x =>
   (match E.ty.get ty,evA E t x with
    | some i,some v=>(match i.d with| .interface _=> .no "makeInterface" |_=> .val (.iface ty v) h n)
    | _,_=> .no "makeInterface")
 | .makeFunc f first capt =>
   (match f,evAll E t first.toList,evAll E t capt.toList with
    | .func k,some a,some b=> .val (.func (.func k) ⟨a⟩ ⟨b⟩) h n
    | _,_,_=> .no "makeFunc")
 | .makeMap _ none=> .val (.map (some n)) (newA h n (.map [])) (n+1)
 | .makeSlice ty l c =>
   (match evA E t l,evA E t c with
    | some l,some c=>(match makeSliceA E ty l c n with|some (v,cs)=> .val v (newA h n (.cells cs)) (n+1)|none=> .no "makeSlice")
    | _,_=> .no "makeSlice")
 | .slice ty x lo hi mx =>
   (match evA E t x,evOpt E t lo,evOpt E t hi,evOpt E t mx with
    | some v,some lo,some hi,some mx =>
      (match v with
       | .pointer _=>val? h n "slice" (sliceArrA E ty v lo hi mx)
       | _=>val? h n "slice" (sliceA E ty v lo hi mx))
    | _,_,_,_=> .no "slice")
 | .lookup ty x i ok=>(match evA E t x,evA E t i with|some m,some k=>val? h n "lookup" (lookupA E ty m k ok h)|_,_=> .no "lookup")
 | .mapUpdate ty m k x| .insert ty m k x =>
   (match evA E t m,evA E t k,evA E t x with
    | some m,some k,some v=>(match mapPutA E ty m k v h with|some h'=> .skip h' n|none=> .no "mapUpdate")
    | _,_,_=> .no "mapUpdate")
 | .range ty x =>
   (match E.ty.get ty,evA E t x with
    | some i,some (.string s)=>(match i.d with| .string=> .val (ptrTo n) (newA h n (.iter s 0)) (n+1)|_=> .no "range")
    | _,_=> .no "range")
 | .next x true =>
   (match evA E t x with
    | some (.pointer (some ⟨b,0,none⟩)) =>
      (match h.get b with
       | some (.iter s pos) =>
         (match nth s.data.toList pos with
          | some c=>bif Nat.blt c.toNat 128 then .val (.tuple #[.bool true,.int .i64 pos,.int .i32 c.toNat]) (h.upd (some (.iter s (pos+1))) b) n
            else .val (.tuple #[.bool true,.int .i64 pos,.int .i32 (Utf8.decode s pos).1]) (h.upd (some (.iter s (pos+(Utf8.decode s pos).2))) b) n
          | none=> .val (.tuple #[.bool false]) h n)
       | _=> .no "next")
    | _=> .no "next")
 | .call c =>
   (match evAll E t c.args.toList with
    | some args =>
      (match c.callee with
       | .value f=>(match evA E t f with|some v=>callA E h n v args|none=> .no "call")
       | .builtin b=>builtinA E b c.argTypes.toList args h n
       | .invoke _ _=> .no "invoke")
    | none=> .no "call: arguments")
 | .defer c =>
   (match c.callee,evAll E t c.args.toList with
    | .value f,some args =>
      (match evA E t f with
       | some (.func (.func k) first capt)=> .dfr {target:= .fn (.func k) capt,args:=⟨first.toList ++ args⟩}
       | _=> .no "defer")
    | _,_=> .no "defer")
 | .panic x=>(match evA E t x with|some (.iface ty v)=> .pan (.iface ty v)|_=> .no "panic")
 | _=> .no "another operation"
end
noncomputable section
inductive Ex where
 | normal
 | exit (id:Nat)
 | ret
inductive Out where
 | ok (e:Ex) (t:T Value) (d:List Deferred) (h:T Blk) (n:Nat)
 | no (why:String)
inductive COut where
 | ret (v:Value) (h:T Blk) (n:Nat)
 | no (why:String)
def undefV:Value:= .tuple #[]
def putT(many:Nat)(dst:Option Tmp)(v:Value)(t:T Value):Option (T Value) :=
 match dst with
 | none=>some t
 | some d=>bif Nat.blt d many then some (t.upd (some v) d) else none
def wantedA(all:List Oper)(t:T Value)(o:Oper):Option Bool :=
 match o.guard with
 | none=>some true
 | some (j,want) =>
   match nth all j with
   | some oj=>(match oj.dst with
     | some d=>(match t.get d with
       | some (.bool b)=>some (b == want)
       | some (.tuple _)=>some false
       | _=>none)
     | none=>some false)
   | none=>some false
def argsT:List Value→Nat→T Value→T Value
 | [],_,t=>t
 | v :: l,i,t=>argsT l (i+1) (t.upd (some v) i)
def resL(E:Env)(t:T Value)(h:T Blk):List ResultVar→Option (List Value)
 | []=>some []
 | .tmp k :: l=>(match t.get k,resL E t h l with|some v,some r=>some (v :: r)|_,_=>none)
 | .cell a ty :: l=>(match t.get a with
   | some p=>(match loadA E h ty p,resL E t h l with|some v,some r=>some (v :: r)|_,_=>none)
   | none=>none)
def resA(E:Env)(fn:Func)(t:T Value)(h:T Blk):Option Value :=
 match resL E t h fn.results.toList with
 | some [v]=>some v
 | some l=>some (.tuple ⟨l⟩)
 | none=>none
abbrev Run:=Code→Option Nat→Nat→T Value→List Deferred→T Blk→Nat→Out
def deferA(E:Env)(ih:Run)(f:FuncId)(args:List Value)(h:T Blk)(n:Nat):COut :=
 match E.fn.get f with
 | some fn =>
   (match fn.body with
    | some (.seq (.region _ ops false) rest) =>
      (match ops.toList with
       | [o] =>
         (match o.op,o.dst,o.guard with
          | .call {callee:= .builtin .recover,args:=as,..},some d,none =>
            bif as.toList.isEmpty&&Nat.blt d fn.ntmps&&Nat.ble args.length fn.ntmps then
             (match ih rest none fn.ntmps ((argsT args 0 .leaf).upd (some .nilIface) d) [] h n with
              | .ok .normal t [] h' n'=>(match resA E fn t h' with|some v=> .ret v h' n'|none=> .no "results of a deferred call")
              | .ok .ret t [] h' n'=>(match resA E fn t h' with|some v=> .ret v h' n'|none=> .no "results of a deferred call")
              | .ok _ _ _ _ _=> .no "a deferred call's end"
              | .no w=> .no w)
            else .no "a deferred call"
          | _,_,_=> .no "a deferred call's first operation")
       | _=> .no "a deferred call's first region")
    | _=> .no "a deferred call's body")
 | none=> .no "a deferred call of what"
def leaveA(E:Env)(ih:Run):List Deferred→T Blk→Nat→Option (T Blk×Nat)
 | [],h,n=>some (h,n)
 | d :: l,h,n =>
   match d.target with
   | .collected r=>(match h.get r with
     | some (.dfr true)=>leaveA E ih l (h.upd (some (.dfr false)) r) n
     | _=>none)
   | .fn (.func f) capt=>(match deferA E ih f (d.args.toList ++ capt.toList) h n with
     | .ret _ h' n'=>leaveA E ih l h' n'
     | .no _=>none)
   | _=>none
def sameV:Nat→Value→Value→Bool
 | _,.bool a,.bool b=>a == b
 | _,.int j a,.int k b=>kindEq j k&&decide (a=b)
 | _,.string a,.string b=>bytesEq a.data.toList b.data.toList
 | _,.pointer none,.pointer none=>true
 | _,.pointer (some ⟨a,o,none⟩),.pointer (some ⟨b,p,none⟩)=>Nat.beq a b&&Nat.beq o p
 | _,.slice none l c,.slice none m e=>Nat.beq l m&&Nat.beq c e
 | _,.slice (some ⟨a,o,none⟩) l c,.slice (some ⟨b,p,none⟩) m e=>Nat.beq a b&&Nat.beq o p&&Nat.beq l m&&Nat.beq c e
 | _,.map none,.map none=>true
 | _,.map (some a),.map (some b)=>Nat.beq a b
 | _,.nilFunc,.nilFunc=>true
 | _,.nilIface,.nilIface=>true
 | f+1,.func (.func a) x y,.func (.func b) z w=>Nat.beq a b&&sameL f x.toList z.toList&&sameL f y.toList w.toList
 | f+1,.agg a,.agg b=>sameL f a.toList b.toList
 | f+1,.tuple a,.tuple b=>sameL f a.toList b.toList
 | _,_,_=>false
where
 sameL (f:Nat):List Value→List Value→Bool
  | [],[]=>true
  | a :: x,b :: y=>sameV f a b&&sameL f x y
  | _,_=>false
def hitC(h:T Blk):Ct→List Value→Option (List Value)
 | .nil,vs=>some vs
 | .lit v next,x :: vs=>bif sameV 6 v x then hitC h next vs else none
 | .sl len cap kids next,x :: vs =>
   (match x with
    | .slice (some ⟨b,o,none⟩) l c =>
      bif Nat.beq l len&&Nat.beq c cap then
       (match cellsOf h b with
        | some cs=>bif Nat.ble o cs.length then (match hitC h kids (dropL cs o) with|some _=>hitC h next vs|none=>none) else none
        | none=>none)
      else none
    | _=>none)
 | .agg kids next,x :: vs =>
   (match x with
    | .agg cs=>(match hitC h kids cs.toList with|some []=>hitC h next vs|_=>none)
    | _=>none)
 | _,[]=>none
def groOK(h:T Blk):List (Nat×List Value)→Bool
 | []=>true
 | x :: l=>(match h.get x.1 with|some (.ro cs)=>sameV.sameL 6 x.2 cs|_=>false)&&groOK h l
def findM(h:T Blk)(args:List Value):List (Ct×Value)→Option Value
 | []=>none
 | e :: l=>(match hitC h e.1 args with
   | some []=>some e.2
   | _=>findM h args l)
def memoA(E:Env)(f:FuncId)(args:List Value)(h:T Blk):Option Value :=
 match E.memo.get f with
 | some l=>bif groOK h E.gro then findM h args l else none
 | none=>none
def callG(E:Env)(ih:Run)(f:FuncId)(args:List Value)(h:T Blk)(n:Nat):COut :=
 match E.fn.get f with
 | some fn =>
   (match fn.body with
    | some c =>
      bif Nat.ble args.length fn.ntmps then
       (match ih c none fn.ntmps (argsT args 0 .leaf) [] h n with
        | .ok (.exit _) _ _ _ _=> .no "a body's exit"
        | .ok _ t d h' n' =>
          (match leaveA E ih d h' n' with
           | some (h'',n'')=>(match resA E fn t h'' with|some v=> .ret v h'' n''|none=> .no "results")
           | none=> .no "deferred calls")
        | .no w=> .no w)
      else .no "arguments"
    | none=> .no "no body")
 | none=> .no "no such function"
def callF(E:Env)(ih:Run)(f:FuncId)(args:List Value)(h:T Blk)(n:Nat):COut :=
 match memoA E f args h with
 | some v=> .ret v h n
 | none =>
   match E.ext f args h n with
   | some r=> .ret r.1 r.2.1 r.2.2
   | none=>callG E ih f args h n
def setParams:List Tmp→List Value→T Value→Nat→Option (T Value)
 | [],[],t,_=>some t
 | p :: ps,v :: vs,t,many=>bif Nat.blt p many then setParams ps vs (t.upd (some v) p) many else none
 | _,_,_,_=>none
def getL(h:T Blk)(l:Nat):Option ALoop :=
 match h.get l with
 | some (.loop r)=>some r
 | _=>none
def roundF(_E:Env)(ih:Run)(l:Nat)(args:List Value)(h:T Blk)(n:Nat):COut :=
 match getL h l with
 | some r =>
   (match setParams r.params args r.tmps r.many with
    | some t =>
      (match ih r.assign (some l) r.many t [] h n with
       | .ok .normal t1 [] h1 n1 =>
         (match getL h1 l with
          | some r1 =>
            (match r1.state with
             | .ready =>
               (match ih r.body (some l) r.many t1 [] (h1.upd (some (.loop {r1 with state:= .busy})) l) n1 with
                | .ok e _ [] h2 n2 =>
                  (match getL h2 l with
                   | some r2 =>
                     (match e with
                      | .normal=> .ret (.bool true) (h2.upd (some (.loop {r2 with state:= .ready,pending:=none})) l) n2
                      | .exit id=> .ret (.bool false) (h2.upd (some (.loop {r2 with state:= .done,pending:=some (.exit id)})) l) n2
                      | .ret=> .ret (.bool false) (h2.upd (some (.loop {r2 with state:= .done,pending:=some .ret})) l) n2)
                   | none=> .no "round: the record")
                | .ok _ _ _ _ _=> .no "round: deferred"
                | .no w=> .no w)
             | _=> .no "round: not ready")
          | none=> .no "round: the record")
       | .ok _ _ _ _ _=> .no "round: assign"
       | .no w=> .no w)
    | none=> .no "round: parameters")
 | none=> .no "round: no record"
def opC(E:Env)(ih:Run)(rd:Option Nat)(t:T Value)(d:List Deferred)(h:T Blk)(n:Nat)(o:Oper):Option (Value×List Deferred×T Blk×Nat) ⊕ String :=
 match opA E t h n o with
 | .val v h' n'=> .inl (some (v,d,h',n'))
 | .skip h' n'=> .inl (some (undefV,d,h',n'))
 | .dfr dd=>(match rd with|none=> .inl (some (undefV,dd :: d,h,n))|some _=> .inr "defer in a round")
 | .enter f args=>(match callF E ih f args h n with| .ret v h' n'=> .inl (some (v,d,h',n'))| .no w=> .inr w)
 | .round l args=>(match roundF E ih l args h n with| .ret v h' n'=> .inl (some (v,d,h',n'))| .no w=> .inr w)
 | .pan _=> .inr "panic"
 | .no w=> .inr w
def opsS(E:Env)(ih:Run)(rd:Option Nat)(many:Nat)(all:List Oper):List Oper→T Value→List Deferred→T Blk→Nat→Out
 | [],t,d,h,n=> .ok .normal t d h n
 | o :: l,t,d,h,n =>
   match wantedA all t o with
   | some true =>
     (match opC E ih rd t d h n o with
      | .inl (some (v,d',h',n')) =>
        (match putT many o.dst v t with
         | some t'=>opsS E ih rd many all l t' d' h' n'
         | none=> .no "a temporary")
      | .inl none=> .no "operation"
      | .inr w=> .no w)
   | some false =>
     (match putT many o.dst undefV t with
      | some t'=>opsS E ih rd many all l t' d h n
      | none=> .no "a temporary")
   | none=> .no "a guard"
inductive Kd where
 | pure|read|alloc|loud
def kindOf(o:Oper):Kd :=
 match o.op with
 | .move _| .assign _| .pick _ _ _| .build _ _| .fieldAddr _ _ _| .indexAddr _ _ _| .index _ _ _| .binOp _ _ _ _ _| .unOp _ _ _| .convert _ _ _| .nilCheck _| .extract _ _| .makeInterface _ _| .makeFunc _ _ _| .slice _ _ _ _ _=> .pure
 | .load _ _| .lookup _ _ _ _=> .read
 | .alloc _| .box _ _| .buildSlice _ _ _| .makeMap _ none| .makeSlice _ _ _=> .alloc
 | .call {callee:= .builtin .len,..}| .call {callee:= .builtin .cap,..}| .call {callee:= .builtin .max,..}| .call {callee:= .builtin .min,..}=> .pure
 | _=> .loud
def isLoud(o:Oper):Bool:=match kindOf o with| .loud=>true|_=>false
def isRead(o:Oper):Bool:=match kindOf o with| .read=>true|_=>false
def bindsA(e:Edge):Bool :=
 match e.ground with
 | .textOnly _=>false
 | .gcOnly _=>false
 | _=>true
def anc1(acc:List Nat):List Edge→Nat
 | []=>0
 | e :: l=>bif bindsA e then Nat.lor (Nat.lor (2 ^ e.on) ((nth acc e.on).getD 0)) (anc1 acc l) else anc1 acc l
def ancs:List Oper→List Nat→List Nat
 | [],acc=>acc
 | o :: l,acc=>ancs l (acc ++ [anc1 acc o.after.toList])
def opTmps(o:Oper):List Tmp:=o.op.operands.toList.filterMap fun| .tmp t=>some t|_=>none
def guardTmps(all:List Oper)(o:Oper):List Tmp :=
 match o.guard with
 | some (j,_)=>(match nth all j with|some oj=>oj.dst.toList|none=>[])
 | none=>[]
def looks(all:List Oper)(o:Oper):List Tmp:=opTmps o ++ guardTmps all o
def clash(all:List Oper)(a b:Oper):Bool :=
 match a.dst,b.dst with
 | some d,some e=>Nat.beq d e||memN d (looks all b)||memN e (looks all a)
 | some d,none=>memN d (looks all b)
 | none,some e=>memN e (looks all a)
 | none,none=>false
def pairOK(all:List Oper)(a b:Oper)(bitOf:Bool):Bool :=
 bitOf|| !(clash all a b||(isLoud a&&isLoud b))
def laterOK(all:List Oper)(i:Nat)(a:Oper):List Oper→List Nat→Bool
 | b :: bs,m :: ms=>pairOK all a b (Nat.testBit m i)&&laterOK all i a bs ms
 | _,_=>true
def allOK(all:List Oper):Nat→List Oper→List Nat→Bool
 | i,a :: as,_ :: ms=>laterOK all i a as ms&&allOK all (i+1) as ms
 | _,_,_=>true
def edgesOK:Nat→List Oper→Bool
 | _,[]=>true
 | i,o :: l=>o.after.toList.all (fun e=> !bindsA e||Nat.blt e.on i)&&(match o.guard with|some (j,_)=>o.after.toList.any (fun e=>Nat.beq e.on j&&bindsA e)|none=>true)&&edgesOK (i+1) l
def floats1(i:Nat)(a:Oper):Nat→List Oper→List Nat→List (Nat×Nat)
 | k,b :: bs,m :: ms =>
   bif Nat.testBit m i then floats1 i a (k+1) bs ms
   else bif isLoud a&&isRead b then (k,i) :: floats1 i a (k+1) bs ms
   else bif isRead a&&isLoud b then (i,k) :: floats1 i a (k+1) bs ms
   else floats1 i a (k+1) bs ms
 | _,_,_=>[]
def floats:Nat→List Oper→List Nat→List (Nat×Nat)
 | i,a :: as,_ :: ms=>floats1 i a (i+1) as ms ++ floats (i+1) as ms
 | _,_,_=>[]
def regOK(ops:List Oper):Bool:=edgesOK 0 ops&&allOK ops 0 ops (ancs ops [])
def regFl(ops:List Oper):List (Nat×Nat):=floats 0 ops (ancs ops [])
def opN(E:Env)(ih:Run)(t:T Value)(h:T Blk)(n:Nat)(o:Oper):(Value×T Blk×Nat) ⊕ String :=
 match opA E t h n o with
 | .val v h' n'=> .inl (v,h',n')
 | .skip h' n'=> .inl (undefV,h',n')
 | .enter f args=>(match callF E ih f args h n with| .ret v h' n'=> .inl (v,h',n')| .no w=> .inr w)
 | .round l args=>(match roundF E ih l args h n with| .ret v h' n'=> .inl (v,h',n')| .no w=> .inr w)
 | .dfr _=> .inr "defer in a region that draws"
 | .pan _=> .inr "panic"
 | .no w=> .inr w
def belowV(n:Nat):Nat→Value→Bool
 | _,.pointer (some a)=>Nat.blt a.block n
 | _,.slice (some a) _ _=>Nat.blt a.block n
 | _,.map (some b)=>Nat.blt b n
 | f+1,.agg cs=>belowL n f cs.toList
 | f+1,.tuple cs=>belowL n f cs.toList
 | f+1,.iface _ v=>belowV n f v
 | f+1,.func g a b=>(match g with| .yield l=>Nat.blt l n|_=>true)&&belowL n f a.toList&&belowL n f b.toList
 | _,.bool _=>true
 | _,.int _ _=>true
 | _,.string _=>true
 | _,.pointer none=>true
 | _,.slice none _ _=>true
 | _,.map none=>true
 | _,.nilFunc=>true
 | _,.nilIface=>true
 | _,_=>false
where
 belowL (n f:Nat):List Value→Bool
  | []=>true
  | v :: l=>belowV n f v&&belowL n f l
def belowT(n:Nat)(t:T Value):List Tmp→Bool
 | []=>true
 | k :: l=>(match t.get k with|some v=>belowV n 8 v|none=>true)&&belowT n t l
structure Ent where
 did:Bool
 t:T Value
 v:Value
 h0:T Blk
 h1:T Blk
 n0:Nat
 n1:Nat
inductive DOut where
 | ok (l:List Ent) (t:T Value) (h:T Blk) (n:Nat)
 | no (why:String)
def opsD(E:Env)(ih:Run)(many:Nat)(all:List Oper):List Oper→List Ent→T Value→T Blk→Nat→DOut
 | [],l,t,h,n=> .ok l t h n
 | o :: os,l,t,h,n =>
   match wantedA all t o with
   | some true =>
     (match opN E ih t h n o with
      | .inl (v,h',n') =>
        (match putT many o.dst v t with
         | some t'=>bif belowT n t (opTmps o) then opsD E ih many all os (l ++ [⟨true,t,v,h,h',n,n'⟩]) t' h' n' else .no "a region that draws: numbers"
         | none=> .no "a temporary")
      | .inr w=> .no w)
   | some false =>
     (match putT many o.dst undefV t with
      | some t'=>opsD E ih many all os (l ++ [⟨false,t,undefV,h,h,n,n⟩]) t' h n
      | none=> .no "a temporary")
   | none=> .no "a guard"
def readsSame(E:Env)(o:Oper)(x:Ent)(h:T Blk):Bool :=
 bif x.did then (match opA E x.t h 0 o with
  | .val v _ _=>sameV 8 v x.v
  | _=>false)
 else true
def floatOK(E:Env)(all:List Oper)(log:List Ent):List (Nat×Nat)→Bool
 | []=>true
 | (r,l) :: rest =>
   (match nth all r,nth log r,nth log l with
    | some o,some x,some y=>readsSame E o x (bif Nat.blt r l then y.h1 else y.h0)
    | _,_,_=>false)&&floatOK E all log rest
def edgeOn(a b:Nat)(e:Edge):Bool:=bindsA e&&(Nat.beq e.on a||Nat.beq e.on b)
def belowAll(o:Oper):Nat→Bool
 | 0=>true
 | i+1=>o.after.toList.any (fun e=>bindsA e&&Nat.beq e.on i)&&belowAll o i
def tailOK:Nat→List Oper→Bool
 | _,[]=>true
 | i,o :: l=>belowAll o i&&o.guard.isNone&&o.after.toList.all (fun e=>Nat.blt e.on i)&&tailOK (i+1) l
def mapPairs(E:Env)(mt:TypeId)(m:Tmp):Nat→List Oper→Option (List (Tmp×Value×Value)×List Oper)
 | i,b :: s :: rest =>
   (match b.op,b.dst,s.op with
    | .build ty ps,some d,.insert mt' (.tmp m') (.tmp d') (.const v) =>
      bif b.guard.isNone&&b.after.toList.isEmpty&&ps.toList.all (fun p=>isConstO p.2)&&s.guard.isNone&&s.dst.isNone
       && s.after.toList.all (edgeOn 0 i)&&s.after.toList.any (fun e=>Nat.beq e.on 0)&&s.after.toList.any (fun e=>Nat.beq e.on i)
       && Nat.beq mt mt'&&Nat.beq m m'&&Nat.beq d d'&& !Nat.beq d m&&lit 6 v then
       (match evParts E .leaf ps.toList with
        | some l=>(match buildA E ty l,mapPairs E mt m (i+2) rest with
         | some k,some (r,tl)=>bif lit 6 k&&r.all (fun x=> !Nat.beq x.1 d) then some ((d,k,v) :: r,tl) else none
         | _,_=>none)
        | none=>none)
      else none
    | _,_,_=>bif tailOK i (b :: s :: rest) then some ([],b :: s :: rest) else none)
 | i,l=>bif tailOK i l then some ([],l) else none
def putTs:List (Tmp×Value×Value)→T Value→T Value
 | [],t=>t
 | x :: l,t=>putTs l (t.upd (some x.2.1) x.1)
def keysApart(kk:KK):List (Tmp×Value×Value)→Bool
 | []=>true
 | x :: l=>l.all (fun y=>match eqKK kk x.2.1 y.2.1 with|some false=>true|_=>false)&&keysApart kk l
def regM(E:Env)(ih:Run)(rd:Option Nat)(many:Nat)(ops:List Oper)(t:T Value)(d:List Deferred)(h:T Blk)(n:Nat):Out :=
 match ops with
 | o :: rest =>
   (match o.op,o.dst with
    | .makeMap mt none,some m =>
      bif o.guard.isNone&&o.after.toList.isEmpty then
       (match mapPairs E mt m 1 rest,E.ty.get mt with
        | some (l,tl),some i =>
          (match i.d with
           | .map kt _ =>
             (match kkOf E kt with
              | some kk =>
                bif l.all (fun x=>Nat.blt x.1 many&&fitKK kk x.2.1)&&Nat.blt m many&&keysApart kk l then
                 opsS E ih rd many ops tl (putTs l (t.upd (some (.map (some n))) m)) d (h.upd (some (.map (l.map (·.2)))) n) (n+1)
                else .no "a map's literal: keys"
              | none=> .no "a map's literal: type")
           | _=> .no "a map's literal: type")
        | _,_=> .no "a region that draws, no map's literal")
      else .no "a region that draws"
    | _,_=> .no "a region that draws")
 | []=> .no "a region that draws"
def cutLast{α:Type}:List α→Option (List α×α)
 | []=>none
 | [a]=>some ([],a)
 | a :: l=>match cutLast l with
   | some (m,b)=>some (a :: m,b)
   | none=>none
def blockOf:Value→Option Nat
 | .pointer (some ⟨b,_,none⟩)=>some b
 | _=>none
def farOK(E:Env)(b:Nat)(o:Oper)(x:Ent):Bool :=
 match kindOf o with
 | .pure=>true
 | .alloc=>true
 | _ =>
   (match o.op with
    | .load _ a=>(match evA E x.t a with|some v=>(match blockOf v with|some c=> !Nat.beq b c|none=>false)|none=>false)
    | .store _ a _=>(match evA E x.t a with|some v=>(match blockOf v with|some c=> !Nat.beq b c|none=>false)|none=>false)
    | _=>false)
def farAll(E:Env)(b m:Nat):Nat→List Oper→List Ent→Bool
 | i,o :: os,x :: xs=>(Nat.testBit m i||(o.guard.isNone&&farOK E b o x))&&farAll E b m (i+1) os xs
 | _,_,_=>true
def regL(E:Env)(ih:Run)(rd:Option Nat)(many:Nat)(ops os:List Oper)(o:Oper)(t:T Value)(d:List Deferred)(h:T Blk)(n:Nat):Out :=
 bif regOK os&&o.guard.isNone&&o.dst.isNone&&laterOK1 ops o os (anc1 (ancs os []) o.after.toList) 0&&o.after.toList.all (fun e=> !bindsA e||Nat.blt e.on os.length) then
  (match o.op with
   | .store ty a x =>
     (match opsD E ih many ops os [] t h n with
      | .ok log t' h' n' =>
        (match evA E t' a,evA E t' x with
         | some p,some v =>
           (match blockOf p,storeA E h' ty p v with
            | some b,some h''=>bif floatOK E os log (regFl os)&&farAll E b (anc1 (ancs os []) o.after.toList) 0 os log then .ok .normal t' d h'' n' else .no "a region that draws: its order matters"
            | _,_=> .no "a region that draws: the last store")
         | _,_=> .no "a region that draws: the last store")
      | .no w=> .no w)
   | _=> .no "a region that draws")
 else .no "a region that draws"
where
 laterOK1 (ops:List Oper) (o:Oper):List Oper→Nat→Nat→Bool
  | [],_,_=>true
  | a :: as,m,i=>(Nat.testBit m i|| !clash ops a o)&&laterOK1 ops o as m (i+1)
def regD(E:Env)(ih:Run)(rd:Option Nat)(many:Nat)(ops:List Oper)(t:T Value)(d:List Deferred)(h:T Blk)(n:Nat):Out :=
 bif regOK ops then
  (match opsD E ih many ops ops [] t h n with
   | .ok log t' h' n'=>bif floatOK E ops log (regFl ops) then .ok .normal t' d h' n' else .no "a region that draws: its order matters"
   | .no w=> .no w)
 else
  (match cutLast ops with
   | some (os,o) =>
     (match o.op with
      | .store _ _ _=>regL E ih rd many ops os o t d h n
      | _=>regM E ih rd many ops t d h n)
   | none=> .no "a region that draws")
def stepA(E:Env)(ih:Run):Run:=fun c rd many t d h n =>
 match c with
 | .skip=> .ok .normal t d h n
 | .label _=> .ok .normal t d h n
 | .seq a b =>
   (match ih a rd many t d h n with
    | .ok .normal t' d' h' n'=>ih b rd many t' d' h' n'
    | r=>r)
 | .cond x a b =>
   (match evA E t x with
    | some (.bool true)=>ih a rd many t d h n
    | some (.bool false)=>ih b rd many t d h n
    | _=> .no "cond")
 | .block id b =>
   (match ih b rd many t d h n with
    | .ok (.exit i) t' d' h' n'=>bif Nat.beq i id then .ok .normal t' d' h' n' else .ok (.exit i) t' d' h' n'
    | r=>r)
 | .loop b =>
   (match ih b rd many t d h n with
    | .ok .normal t' d' h' n'=>ih (.loop b) rd many t' d' h' n'
    | r=>r)
 | .scope b=>(match rd with|none=>ih b rd many t d h n|some _=> .no "a scope in a round")
 | .exit id=> .ok (.exit id) t d h n
 | .ret=> .ok .ret t d h n
 | .region _ ops false=>opsS E ih rd many ops.toList ops.toList t d h n
 | .region _ ops true=>regD E ih rd many ops.toList t d h n
 | .rangeFunc f params assign body =>
   (match rd,evA E t f with
    | none,some g =>
      (match callA E ((h.upd (some (.dfr true)) n).upd (some (.loop {state:= .ready,pending:=none,tmps:=t,many:=many,params:=params.toList,assign:=assign,body:=body,defers:=n})) (n+1)) (n+2) g [.func (.yield (n+1)) #[] #[]] with
       | .enter k args =>
         (match callF E ih k args ((h.upd (some (.dfr true)) n).upd (some (.loop {state:= .ready,pending:=none,tmps:=t,many:=many,params:=params.toList,assign:=assign,body:=body,defers:=n})) (n+1)) (n+2) with
          | .ret _ h' n' =>
            (match getL h' (n+1) with
             | some r =>
               (match r.state with
                | .busy=> .no "rangeFunc: busy"
                | _ =>
                  (match r.pending with
                   | none=> .ok .normal t ({target:= .collected n,args:=#[]} :: d) (h'.upd (some (.loop {r with state:= .exhausted})) (n+1)) n'
                   | some c=>ih c rd many t ({target:= .collected n,args:=#[]} :: d) (h'.upd (some (.loop {r with state:= .exhausted})) (n+1)) n'))
             | none=> .no "rangeFunc: the record")
          | .no w=> .no w)
       | _=> .no "rangeFunc: the call")
    | _,_=> .no "rangeFunc")
 | _=> .no "code"
def exec(E:Env):Nat→Run
 | 0=>fun _ _ _ _ _ _ _=> .no "fuel"
 | k+1=>stepA E (exec E k)
end
noncomputable section
def T.tab{α:Type}(d:Nat):(Nat→Option α)→T α :=
 Nat.rec (motive:=fun _=>(Nat→Option α)→T α) (fun _=> .leaf) (fun _ ih g=> .node (ih fun m=>g (2 * m+1)) (g 0) (ih fun m=>g (2 * m+2))) d
def drop32{α:Type}(l:List α):List α:=l.drop 32
def blkL{α:Type}(l:List α)(k:Nat):List α:=Nat.rec (motive:=fun _=>List α) l (fun _ ih=>drop32 ih) k
def nthR{α:Type}(l:List α)(n:Nat):Option α :=
 List.rec (motive:=fun _=>Nat→Option α) (fun _=>none) (fun a _ ih n=>Nat.rec (motive:=fun _=>Option α) (some a) (fun m _=>ih m) n) l n
def atL{α:Type}(l:List α)(n:Nat):Option α:=nthR (blkL l (Nat.div n 32)) (Nat.mod n 32)
def descOf(P:Program)(d:TypeDesc):Option TypeDesc :=
 match d with
 | .named _ u=>(match atL P.types.toList u with|some i=>some i.desc|none=>none)
 | d=>some d
def tyI(P:Program)(t:TypeId):Option TyI :=
 match atL P.types.toList t with
 | some i =>
   (match descOf P i.desc with
    | some d =>
      (match i.zero with
       | some z=>some {size:=i.size,bytes:=i.bytes,d:=d,zero:=cellsL z,zok:=lit 6 z&&Nat.beq (cellsL z).length i.size&&(match z with| .agg _=>isAgg d|_=> !isAgg d)}
       | none=>some {size:=i.size,bytes:=i.bytes,d:=d,zero:=[],zok:=false})
    | none=>none)
 | none=>none
def fnI(P:Program)(f:FuncId):Option Func :=
 match atL P.funcs.toList f with
 | some fn=>bif fn.body.isSome then some fn else none
 | none=>none
def envOf(P:Program)(flat:List (TypeId×List CK))(memo:T (List (Ct×Value)))(gro:List (Nat×List Value)):Env:={ty:=T.tab 10 (tyI P),fn:=T.tab 9 (fnI P),flat:=flat,glob:=P.globals.size,memo:=memo,gro:=gro}
end
theorem biE{α:Type}(b:Bool)(x y:α):(bif b then x else y)=if b=true then x else y:=by cases b<;>rfl
theorem beqT(a b:Nat):(Nat.beq a b=true)=(a=b):=propext ⟨Nat.eq_of_beq_eq_true,fun h=>h▸Nat.beq_refl a⟩
theorem bleT(a b:Nat):(Nat.ble a b=true)=(a≤b):=propext ⟨Nat.le_of_ble_eq_true,Nat.ble_eq_true_of_le⟩
theorem bltT(a b:Nat):(Nat.blt a b=true)=(a<b):=propext ⟨fun h=>Nat.le_of_ble_eq_true h,fun h=>Nat.ble_eq_true_of_le h⟩
def Pth.val:Pth→Nat
 | .z=>0
 | .l p=>2 * p.val+1
 | .r p=>2 * p.val+2
theorem pthF_val:∀ (f n:Nat),n<f→(pthF f n).val=n:=by
 intro f
 induction f with
 | zero=>intro n h;omega
 | succ f ih =>
   intro n h;show(Bool.rec (motive:=fun _=>Pth) (Bool.rec (motive:=fun _=>Pth) (.r (pthF f (n / 2-1))) (.l (pthF f (n / 2))) (Nat.beq (n % 2) 1)) .z (Nat.beq n 0):Pth).val=n;cases h0:Nat.beq n 0 with
   | true =>
     rw[beqT] at h0;subst h0;rfl
   | false =>
     have hn:n≠0:=fun e=>by rw[e] at h0;cases h0
     cases h1:Nat.beq (n % 2) 1 with
     | true =>
       rw[beqT] at h1;show 2 * (pthF f (n / 2)).val+1=n;rw[ih _ (by omega)];omega
     | false =>
       have h2:n % 2≠1:=fun e=>by rw[e] at h1;cases h1
       show 2 * (pthF f (n / 2-1)).val+2=n;rw[ih _ (by omega)];omega
theorem pth_inj{n m:Nat}(h:pth n=pth m):n=m:=by rw[←pthF_val (n+1) n (by omega),← pthF_val (m+1) m (by omega)];exact congrArg Pth.val h
theorem T.get_leaf{α:Type}(j:Nat):(T.leaf:T α).get j=none:=rfl
theorem T.getP_mkP_same{α:Type}(o:Option α):∀ p:Pth,(T.mkP o p).getP p=o
 | .z=>rfl
 | .l p=>T.getP_mkP_same o p
 | .r p=>T.getP_mkP_same o p
theorem T.getP_mkP_ne{α:Type}(o:Option α):∀ p q:Pth,q≠p→(T.mkP o p).getP q=none
 | .z,.z,h=>absurd rfl h
 | .z,.l _,_=>rfl
 | .z,.r _,_=>rfl
 | .l _,.z,_=>rfl
 | .l p,.l q,h=>T.getP_mkP_ne o p q fun e=>h (by rw[e])
 | .l _,.r _,_=>rfl
 | .r _,.z,_=>rfl
 | .r _,.l _,_=>rfl
 | .r p,.r q,h=>T.getP_mkP_ne o p q fun e=>h (by rw[e])
theorem T.getP_updP_same{α:Type}(o:Option α):∀ (t:T α)(p:Pth),(T.updP o t p).getP p=o
 | .leaf,p=>T.getP_mkP_same o p
 | .node _ _ _,.z=>rfl
 | .node l _ _,.l p=>T.getP_updP_same o l p
 | .node _ _ r,.r p=>T.getP_updP_same o r p
theorem T.getP_updP_ne{α:Type}(o:Option α):∀ (t:T α)(p q:Pth),q≠p→(T.updP o t p).getP q=t.getP q
 | .leaf,p,q,h=>T.getP_mkP_ne o p q h
 | .node _ _ _,.z,.z,h=>absurd rfl h
 | .node _ _ _,.z,.l _,_=>rfl
 | .node _ _ _,.z,.r _,_=>rfl
 | .node _ _ _,.l _,.z,_=>rfl
 | .node l _ _,.l p,.l q,h=>T.getP_updP_ne o l p q fun e=>h (by rw[e])
 | .node _ _ _,.l _,.r _,_=>rfl
 | .node _ _ _,.r _,.z,_=>rfl
 | .node _ _ _,.r _,.l _,_=>rfl
 | .node _ _ r,.r p,.r q,h=>T.getP_updP_ne o r p q fun e=>h (by rw[e])
theorem T.get_upd{α:Type}(o:Option α):∀ (t:T α)(n j:Nat),(T.upd o t n).get j=if j=n then o else t.get j:=by
 intro t n j;split
 ·rename_i h;subst h;exact T.getP_updP_same o t _
 ·rename_i h;exact T.getP_updP_ne o t _ _ fun e=>h (pth_inj e)
theorem T.gsE{α:Type}(o:Option α)(t:T α)(n:Nat):(T.upd o t n).get n=o:=by simp[T.get_upd]
theorem T.gnE{α:Type}(o:Option α)(t:T α){n j:Nat}(h:j≠n):(T.upd o t n).get j=t.get j:=by simp[T.get_upd,h]
theorem nth_eq{α:Type}:∀ (l:List α)(n:Nat),nth l n=l[n]?
 | [],n=>by simp[nth]
 | a :: l,n=>by
   cases n with
   | zero=>simp[nth,biE,beqT]
   | succ n =>
     have:=nth_eq l n;simp[nth,biE,beqT,this]
theorem dropL_eq{α:Type}:∀ (l:List α)(n:Nat),dropL l n=l.drop n
 | [],n=>by simp[dropL]
 | a :: l,n=>by
   cases n with
   | zero=>simp[dropL,biE,beqT]
   | succ n =>
     have:=dropL_eq l n;simp[dropL,biE,beqT,this]
theorem takeL_some{α:Type}:∀ (n:Nat)(l r:List α),takeL n l=some r→r=l.take n∧n≤l.length
 | 0,l,r,h=>by simp[takeL] at h;simp[h]
 | n+1,[],r,h=>by simp[takeL] at h
 | n+1,a :: l,r,h=>by
   simp only[takeL] at h;split at h
   ·rename_i r' hr;have:=takeL_some n l r' hr;simp at h;subst h;simp[this.1];exact this.2
   ·cases h
theorem seg_some{α:Type}{l r:List α}{o n:Nat}(h:seg l o n=some r):r.length=n∧∀ i,i<n→r[i]? =l[o+i]? ∧o+i<l.length:=by rw[seg,dropL_eq] at h;obtain⟨h1,h2⟩:=takeL_some _ _ _ h;rw[List.length_drop] at h2;subst h1;refine⟨by simp;omega,fun i hi=>⟨?_,by omega⟩⟩;rw[List.getElem?_take_of_lt hi,List.getElem?_drop]
theorem over_some{α:Type}:∀ (l m r:List α),over l m=some r→r.length=l.length∧m.length≤l.length∧∀ i,r[i]? =if i<m.length then m[i]? else l[i]?
 | l,[],r,h=>by simp[over] at h;simp[h]
 | [],_ :: _,r,h=>by simp[over] at h
 | a :: l,b :: m,r,h=>by
   simp only[over] at h;split at h
   ·rename_i r' hr;have⟨h1,h2,h3⟩:=over_some l m r' hr;simp at h;subst h;refine⟨by simp[h1],by simp[h2],fun i=>?_⟩;cases i with
    | zero=>simp
    | succ i=>simp[h3]
   ·cases h
theorem overAt_some{α:Type}(m:List α):∀ (l:List α)(n:Nat)(r:List α),overAt m l n=some r →
 r.length=l.length∧n+m.length≤l.length∧∀ i,r[i]? =if n≤i∧i<n+m.length then m[i-n]? else l[i]?
 | [],n,r,h=>by
   simp only[overAt,biE,beqT] at h;split at h
   ·rename_i h0;subst h0;have⟨h1,h2,h3⟩:=over_some [] m r h;refine⟨h1,by simpa using h2,fun i=>?_⟩;rw[h3];by_cases hi:i<m.length<;>simp[hi]
   ·cases h
 | a :: l,n,r,h=>by
   simp only[overAt,biE,beqT] at h;split at h
   ·rename_i h0;subst h0;have⟨h1,h2,h3⟩:=over_some (a :: l) m r h;refine⟨h1,by simpa using h2,fun i=>?_⟩;rw[h3];by_cases hi:i<m.length<;>simp[hi]
   ·rename_i h0;split at h
    ·rename_i r' hr;have⟨h1,h2,h3⟩:=overAt_some m l (n-1) r' hr;simp at h;subst h;refine⟨by simp[h1],by simp;omega,fun i=>?_⟩;cases i with
     | zero=>rw[if_neg (by omega)];simp
     | succ i =>
       simp only[List.getElem?_cons_succ,h3];by_cases hi:n-1≤i∧i<n-1+m.length
       ·rw[if_pos hi,if_pos (by omega)]
        congr 1;omega
       ·rw[if_neg hi,if_neg (by omega)]
    ·cases h
structure Pl where
 blk:Nat
 sh:Nat
 size:Nat
abbrev Ren:=Nat→Option Pl
def Ext(ρ ρ':Ren):Prop:=∀ b L,ρ b=some L→ρ' b=some L
theorem Ext.refl(ρ:Ren):Ext ρ ρ:=fun _ _ h=>h
theorem Ext.trans{ρ ρ' ρ'':Ren}(h:Ext ρ ρ')(h':Ext ρ' ρ''):Ext ρ ρ'':=fun b L e=>h' b L (h b L e)
def Ren.add(ρ:Ren)(n:Nat)(L:Pl):Ren:=fun b=>if b=n then some L else ρ b
theorem Ren.add_same(ρ:Ren)(n:Nat)(L:Pl):ρ.add n L n=some L:=by simp[Ren.add]
theorem Ren.add_ne(ρ:Ren){n b:Nat}(L:Pl)(h:b≠n):ρ.add n L b=ρ b:=by simp[Ren.add,h]
theorem Ext.add{ρ:Ren}{n:Nat}(L:Pl)(h:ρ n=none):Ext ρ (ρ.add n L):=by
 intro b M e;by_cases hb:b=n
 ·subst hb;rw[h] at e;cases e
 ·rw[Ren.add_ne _ _ hb];exact e
def FRel(ρ:Ren):Fn→Fn→Prop
 | .func f,.func g=>f=g
 | .yield l,.yield m=>∃ L,ρ l=some L∧m=L.blk
 | _,_=>False
inductive VRel (ρ:Ren):Value→Value→Prop
 | bool (b:Bool):VRel ρ (.bool b) (.bool b)
 | int (k:IntKind) (n:Int):VRel ρ (.int k n) (.int k n)
 | string (s:ByteArray):VRel ρ (.string s) (.string s)
 | ptr0:VRel ρ (.pointer none) (.pointer none)
 | ptr {b o:Nat} {L:Pl} (h:ρ b=some L):VRel ρ (.pointer (some ⟨b,o,none⟩)) (.pointer (some ⟨L.blk,L.sh+o,none⟩))
 | slice0 (l c:Nat):VRel ρ (.slice none l c) (.slice none l c)
 | slice {b o:Nat} {L:Pl} (l c:Nat) (h:ρ b=some L) (hc:c<UNK):VRel ρ (.slice (some ⟨b,o,none⟩) l c) (.slice (some ⟨L.blk,L.sh+o,none⟩) l c)
 | sliceU {b o o' c' k low:Nat} {L:Pl} (l:Nat) (h:ρ b=some L) (hu:low<UNK) (hk:0<k) (hl:l≤low) (hc:low≤c') (hs:o'+c' * k≤L.size)
  (ho:low=0∨o'=L.sh+o):VRel ρ (.slice (some ⟨b,o,none⟩) l (UNK * k+low)) (.slice (some ⟨L.blk,o',none⟩) l c')
 | sliceZ {b o k low:Nat} {L:Pl} (a:Addr) (h:ρ b=some L) (hk:0<k) (hz:low=0):VRel ρ (.slice (some ⟨b,o,none⟩) 0 (UNK * k+low)) (.slice (some a) 0 0)
 | map0:VRel ρ (.map none) (.map none)
 | map {b:Nat} {L:Pl} (h:ρ b=some L):VRel ρ (.map (some b)) (.map (some L.blk))
 | nilFunc:VRel ρ .nilFunc .nilFunc
 | nilIface:VRel ρ .nilIface .nilIface
 | func {f g:Fn} {a b a' b':Array Value} (hf:FRel ρ f g) (ha:a.toList.length=a'.toList.length) (hb:b.toList.length=b'.toList.length)
  (h:∀ (i:Nat) (x y:Value),a.toList[i]? =some x→a'.toList[i]? =some y→VRel ρ x y) (h':∀ (i:Nat) (x y:Value),b.toList[i]? =some x→b'.toList[i]? =some y→VRel ρ x y) :
  VRel ρ (.func f a b) (.func g a' b')
 | iface (t:TypeId) {x y:Value} (h:VRel ρ x y):VRel ρ (.iface t x) (.iface t y)
 | agg {a a':Array Value} (ha:a.toList.length=a'.toList.length) (h:∀ (i:Nat) (x y:Value),a.toList[i]? =some x→a'.toList[i]? =some y→VRel ρ x y):VRel ρ (.agg a) (.agg a')
 | tuple {a a':Array Value} (ha:a.toList.length=a'.toList.length) (h:∀ (i:Nat) (x y:Value),a.toList[i]? =some x→a'.toList[i]? =some y→VRel ρ x y):VRel ρ (.tuple a) (.tuple a')
def LRel(ρ:Ren)(l l':List Value):Prop:=l.length=l'.length∧∀ (i:Nat)(x y:Value),l[i]? =some x→l'[i]? =some y→VRel ρ x y
theorem FRel.mono{ρ ρ':Ren}(e:Ext ρ ρ'){f g:Fn}(h:FRel ρ f g):FRel ρ' f g:=by
 unfold FRel at *;split
 ·simpa using h
 ·obtain⟨L,h1,h2⟩:=h;exact⟨L,e _ _ h1,h2⟩
 ·split at h<;>simp_all
theorem VRel.mono{ρ ρ':Ren}(e:Ext ρ ρ'){v y:Value}(h:VRel ρ v y):VRel ρ' v y:=by
 induction h with
 | bool b=>exact .bool b
 | int k n=>exact .int k n
 | string s=>exact .string s
 | ptr0=>exact .ptr0
 | ptr h=>exact .ptr (e _ _ h)
 | slice0 l c=>exact .slice0 l c
 | slice l c h hc=>exact .slice l c (e _ _ h) hc
 | sliceU l h hu hk hl hc hs ho=>exact .sliceU l (e _ _ h) hu hk hl hc hs ho
 | sliceZ a h hk hz=>exact .sliceZ a (e _ _ h) hk hz
 | map0=>exact .map0
 | map h=>exact .map (e _ _ h)
 | nilFunc=>exact .nilFunc
 | nilIface=>exact .nilIface
 | func hf ha hb _ _ ih ih'=>exact .func (hf.mono e) ha hb ih ih'
 | iface t _ ih=>exact .iface t ih
 | agg ha _ ih=>exact .agg ha ih
 | tuple ha _ ih=>exact .tuple ha ih
theorem LRel.mono{ρ ρ':Ren}(e:Ext ρ ρ'){l l':List Value}(h:LRel ρ l l'):LRel ρ' l l':=⟨h.1,fun i x y hx hy=>(h.2 i x y hx hy).mono e⟩
theorem LRel.nil(ρ:Ren):LRel ρ [] []:=⟨rfl,fun _ _ _ h=>by simp at h⟩
theorem LRel.cons{ρ:Ren}{x y:Value}{l l':List Value}(h:VRel ρ x y)(hl:LRel ρ l l'):LRel ρ (x :: l) (y :: l'):=by
 refine⟨by simp[hl.1],fun i a b ha hb=>?_⟩;cases i with
 | zero=>simp at ha hb;subst ha;subst hb;exact h
 | succ i=>exact hl.2 i a b (by simpa using ha) (by simpa using hb)
theorem LRel.head{ρ:Ren}{x y:Value}{l l':List Value}(h:LRel ρ (x :: l) (y :: l')):VRel ρ x y:=h.2 0 x y rfl rfl
theorem LRel.tail{ρ:Ren}{x y:Value}{l l':List Value}(h:LRel ρ (x :: l) (y :: l')):LRel ρ l l' :=
 ⟨by simpa using h.1,fun i a b ha hb=>h.2 (i+1) a b (by simpa using ha) (by simpa using hb)⟩
theorem LRel.nil_left{ρ:Ren}{l':List Value}(h:LRel ρ [] l'):l'=[]:=by
 cases l' with
 | nil=>rfl
 | cons _ _=>have:=h.1;simp at this
theorem LRel.cons_left{ρ:Ren}{x:Value}{l l':List Value}(h:LRel ρ (x :: l) l'):∃ y m,l'=y :: m∧VRel ρ x y∧LRel ρ l m:=by
 cases l' with
 | nil=>have:=h.1;simp at this
 | cons y m=>exact⟨y,m,rfl,h.head,h.tail⟩
theorem LRel.append{ρ:Ren}:∀ {l l' m m':List Value},LRel ρ l l'→LRel ρ m m'→LRel ρ (l ++ m) (l' ++ m')
 | [],l',m,m',h,h'=>by rw[h.nil_left];exact h'
 | x :: l,l',m,m',h,h'=>by obtain⟨y,l'',rfl,hx,hl⟩:=h.cons_left;exact .cons hx (hl.append h')
theorem LRel.get{ρ:Ren}{l l':List Value}(h:LRel ρ l l'){i:Nat}{x:Value}(hx:l[i]? =some x):∃ y,l'[i]? =some y∧VRel ρ x y:=by have hi:i<l.length:=(gsI hx).1;have hi':i<l'.length:=h.1▸hi;exact⟨l'[i],ggE hi',h.2 i x _ hx (ggE hi')⟩
theorem LRel.of{ρ:Ren}{l l':List Value}(hl:l.length=l'.length)(h:∀ (i:Nat)(x:Value),l[i]? =some x→∃ y,l'[i]? =some y∧VRel ρ x y):LRel ρ l l' :=
 ⟨hl,fun i x y hx hy=>by obtain⟨y',h1,h2⟩:=h i x hx;rw[hy] at h1;cases h1;exact h2⟩
theorem VRel.agg_inv{ρ:Ren}{a:Array Value}{v:Value}(h:VRel ρ (.agg a) v):∃ a',v= .agg a'∧LRel ρ a.toList a'.toList:=by
 cases h with
 | agg ha h=>exact⟨_,rfl,ha,h⟩
theorem VRel.tuple_inv{ρ:Ren}{a:Array Value}{v:Value}(h:VRel ρ (.tuple a) v):∃ a',v= .tuple a'∧LRel ρ a.toList a'.toList:=by
 cases h with
 | tuple ha h=>exact⟨_,rfl,ha,h⟩
theorem VRel.mkAgg{ρ:Ren}{l l':List Value}(h:LRel ρ l l'):VRel ρ (.agg ⟨l⟩) (.agg ⟨l'⟩):= .agg h.1 h.2
theorem VRel.mkTuple{ρ:Ren}{l l':List Value}(h:LRel ρ l l'):VRel ρ (.tuple ⟨l⟩) (.tuple ⟨l'⟩):= .tuple h.1 h.2
theorem all_rel{ρ:Ren}{p:Value→Bool}(ih:∀ v,p v=true→VRel ρ v v){l:List Value}(h:l.all p=true):LRel ρ l l:=by refine⟨rfl,fun i x y hx hy=>?_⟩;rw[hx] at hy;cases hy;exact ih x (List.all_eq_true.1 h x (List.mem_of_getElem? hx))
theorem empty_rel{ρ:Ren}{f:Fn}{a b:Array Value}(hf:FRel ρ f f)(h:(a.toList.isEmpty&&b.toList.isEmpty)=true):VRel ρ (.func f a b) (.func f a b):=by
 simp only[baT,List.isEmpty_iff] at h;refine .func hf rfl rfl ?_ ?_
 ·rw[h.1];simp
 ·rw[h.2];simp
theorem lit_rel(ρ:Ren):∀ (f:Nat)(v:Value),lit f v=true→VRel ρ v v
 | _,.bool _,_=> .bool _
 | _,.int _ _,_=> .int _ _
 | _,.string _,_=> .string _
 | _,.pointer none,_=> .ptr0
 | _,.slice none _ _,_=> .slice0 _ _
 | _,.map none,_=> .map0
 | _,.nilFunc,_=> .nilFunc
 | _,.nilIface,_=> .nilIface
 | _,.func (.func f) a b,h=>empty_rel (f:= .func f) rfl (by simpa only[lit] using h)
 | f+1,.agg cs,h=>by have:=all_rel (ρ:=ρ) (lit_rel ρ f) (l:=cs.toList) (by simpa only[lit] using h);exact .agg this.1 this.2
 | f+1,.tuple cs,h=>by have:=all_rel (ρ:=ρ) (lit_rel ρ f) (l:=cs.toList) (by simpa only[lit] using h);exact .tuple this.1 this.2
 | f+1,.iface _ v,h=> .iface _ (lit_rel ρ f v (by simpa only[lit] using h))
 | 0,.agg _,h=>by simp[lit] at h
 | 0,.tuple _,h=>by simp[lit] at h
 | 0,.iface _ _,h=>by simp[lit] at h
 | _,.float _ _,h=>by simp[lit] at h
 | _,.complex _ _ _,h=>by simp[lit] at h
 | _,.pointer (some _),h=>by simp[lit] at h
 | _,.slice (some _) _ _,h=>by simp[lit] at h
 | _,.map (some _),h=>by simp[lit] at h
 | _,.chan _,h=>by simp[lit] at h
 | _,.func (.method _) _ _,h=>by simp[lit] at h
 | _,.func (.methodOf _ _) _ _,h=>by simp[lit] at h
 | _,.func (.via _ _ _ _) _ _,h=>by simp[lit] at h
 | _,.func (.yield _) _ _,h=>by simp[lit] at h
def CellsRel(ρ:Ren)(cs:List Value)(L:Pl)(c:Array Value):Prop :=
 L.sh+cs.length≤L.size∧L.size≤c.size∧∀ (i:Nat) (x:Value),cs[i]? =some x→∃ y,c[L.sh+i]? =some y∧VRel ρ x y
def KeysApart(es:List (Value×Value)):Prop:=es.Pairwise fun a b=>a.1≠b.1
def MapRel(ρ:Ren)(es:List (Value×Value))(l:List MapEntry):Prop :=
 KeysApart es∧∃ es':List (Value×Value),es'.Perm es∧es'.map (·.1)=l.map (·.key)∧LRel ρ (es'.map (·.2)) (l.map (·.val))
def TR(ρ:Ren)(t:T Value)(a:Array Value):Prop:=∀ (k:Nat)(x:Value),t.get k=some x→∃ y,a[k]? =some y∧VRel ρ x y
def LoopRel(ρ:Ren)(l:ALoop)(r:Loop):Prop :=
 r.state=l.state∧r.pending=l.pending∧r.params.toList=l.params∧r.assign=l.assign∧r.body=l.body∧(∃ D,ρ l.defers=some D∧r.defers=D.blk) ∧
 r.tmps.size=l.many∧TR ρ l.tmps r.tmps
def BRel(ρ:Ren)(L:Pl):Blk→Option Obj→Prop
 | .cells cs,o=>∃ c e fr,o=some (.cells c e fr)∧fr.2≤fr.1∧CellsRel ρ cs L c
 | .ro cs,o=>∃ c e fr,o=some (.cells c e fr)∧CellsRel ρ cs L c
 | .map es,o=>∃ ents clock,o=some (.map ents clock)∧MapRel ρ es ents.toList∧MapKept.Stamped ents clock
 | .iter s pos,o=>o=some (.stringIter s pos)∧L.sh=0
 | .loop l,o=>∃ r,o=some (.loop r)∧LoopRel ρ l r
 | .dfr b,o=>o=some (.deferred (if b then some [] else none))
def isRo:Blk→Bool
 | .ro _=>true
 | _=>false
theorem CellsRel.mono{ρ ρ':Ren}(e:Ext ρ ρ'){cs:List Value}{L:Pl}{c:Array Value}(h:CellsRel ρ cs L c):CellsRel ρ' cs L c :=
 ⟨h.1,h.2.1,fun i x hx=>let ⟨y,h1,h2⟩:=h.2.2 i x hx;⟨y,h1,h2.mono e⟩⟩
theorem TR.mono{ρ ρ':Ren}(e:Ext ρ ρ'){t:T Value}{a:Array Value}(h:TR ρ t a):TR ρ' t a :=
 fun k x hx=>let ⟨y,h1,h2⟩:=h k x hx;⟨y,h1,h2.mono e⟩
theorem BRel.mono{ρ ρ':Ren}(e:Ext ρ ρ'){L:Pl}{k:Blk}{o:Option Obj}(h:BRel ρ L k o):BRel ρ' L k o:=by
 cases k with
 | cells cs=>obtain⟨c,el,fr,h1,h2,h3⟩:=h;exact⟨c,el,fr,h1,h2,h3.mono e⟩
 | ro cs=>obtain⟨c,el,fr,h1,h3⟩:=h;exact⟨c,el,fr,h1,h3.mono e⟩
 | map es=>obtain⟨c,cl,h1,⟨h2,es',h3,h4,h5⟩,h6⟩:=h;exact⟨c,cl,h1,⟨h2,es',h3,h4,h5.mono e⟩,h6⟩
 | iter s pos=>exact h
 | loop l =>
   obtain⟨r,h1,h2,h3,h4,h5,h6,⟨D,h7,h7'⟩,h8,h9⟩:=h;exact⟨r,h1,h2,h3,h4,h5,h6,⟨D,e _ _ h7,h7'⟩,h8,h9.mono e⟩
 | dfr b=>exact h
theorem BRel.some{ρ:Ren}{L:Pl}{k:Blk}{o:Option Obj}(h:BRel ρ L k o):∃ x,o=some x:=by
 cases k with
 | cells cs=>obtain⟨c,el,fr,h1,_⟩:=h;exact⟨_,h1⟩
 | ro cs=>obtain⟨c,el,fr,h1,_⟩:=h;exact⟨_,h1⟩
 | map es=>obtain⟨c,cl,h1,_⟩:=h;exact⟨_,h1⟩
 | iter s pos=>exact⟨_,h.1⟩
 | loop l=>obtain⟨r,h1,_⟩:=h;exact⟨_,h1⟩
 | dfr b=>exact⟨_,h⟩
structure Gh where
 heap:Array Obj
 own:Nat→Prop
 ng:Nat
 oo:Os×Array (Nat×ByteArray)
def Oo(w:World):Os×Array (Nat×ByteArray):=(w.os,w.output)
def Lk(w w':World):Prop:=w'.heap=w.heap∧Oo w'=Oo w
structure WRel(G:Gh)(ρ:Ren)(h:T Blk)(w:World):Prop where
 blk:∀ b L k,ρ b=some L→h.get b=some k→BRel ρ L k w.heap[L.blk]?
 apart:∀ b b' L L' k k',b≠b'→ρ b=some L→ρ b'=some L'→h.get b=some k→h.get b'=some k'→(isRo k=false∨isRo k'=false)→L.blk≠L'.blk
 own:∀ b L k,ρ b=some L→h.get b=some k→isRo k=false→G.own L.blk∨G.heap.size≤L.blk
 frame:∀ r,r<G.heap.size→¬ G.own r→w.heap[r]? =G.heap[r]?
 size:G.heap.size≤w.heap.size
 glob:∀ g,g<G.ng→∃ s,ρ g=some ⟨g,0,s⟩
 out:Oo w=G.oo
structure HSet(w:World)(r:Nat)(o:Obj)(w':World):Prop where
 size:w'.heap.size=w.heap.size
 at_:w'.heap[r]? =some o
 rest:∀ r',r'≠r→w'.heap[r']? =w.heap[r']?
 out:Oo w'=Oo w
structure HPush(w:World)(o:Obj)(w':World):Prop where
 size:w'.heap.size=w.heap.size+1
 at_:w'.heap[w.heap.size]? =some o
 rest:∀ r',r'≠w.heap.size→w'.heap[r']? =w.heap[r']?
 out:Oo w'=Oo w
theorem HPush.mk'(w:World)(o:Obj):HPush w o {w with heap:=w.heap.push o} :=
 ⟨by simp,by simp,fun r' h=>by simp[Array.getElem?_push,h],rfl⟩
theorem HPush.of_drawn{w w0:World}{o:Obj}(h0:Lk w w0):HPush w o {w0 with heap:=w0.heap.push o}:=by have h:=h0.1;have:=HPush.mk' w0 o;exact⟨by rw[this.size,h],by rw[←h];exact this.at_,fun r' h'=>by rw[this.rest r' (by rw[h];exact h'),h],h0.2⟩
theorem HSet.mk'{w:World}{r:Nat}(o:Obj)(hr:r<w.heap.size):HSet w r o {w with heap:=w.heap.setIfInBounds r o} :=
 ⟨by simp,by simp[hr],fun r' h=>by simp[Ne.symm h],rfl⟩
section
variable {G:Gh}{ρ:Ren}{h:T Blk}{n:Nat}{w w':World}
theorem WRel.same(H:WRel G ρ h w)(hl:Lk w w'):WRel G ρ h w' :=
 have hh:=hl.1
 ⟨fun b L k h1 h2=>hh▸H.blk b L k h1 h2,H.apart,H.own,fun r h1 h2=>hh▸H.frame r h1 h2,hh▸H.size,H.glob,hl.2.trans H.out⟩
theorem WRel.lt(H:WRel G ρ h w){b:Nat}{L:Pl}{k:Blk}(h1:ρ b=some L)(h2:h.get b=some k):L.blk<w.heap.size:=by obtain⟨x,hx⟩:=(H.blk b L k h1 h2).some;exact(Array.getElem?_eq_some_iff.1 hx).1
theorem WRel.alloc(H:WRel G ρ h w)(hn:ρ n=none){o:Obj}{k:Blk}{L:Pl}(hL:L.blk=w.heap.size)(hw:HPush w o w')(hk:BRel (ρ.add n L) L k (some o)) :
 WRel G (ρ.add n L) (h.upd (some k) n) w'∧Ext ρ (ρ.add n L):=by
 have hx:Ext ρ (ρ.add n L):=Ext.add L hn;refine⟨⟨?_,?_,?_,?_,?_,?_,hw.out.trans H.out⟩,hx⟩
 ·intro b M k' h1 h2;by_cases hb:b=n
  ·subst hb;rw[Ren.add_same] at h1;cases h1;rw[T.gsE] at h2;cases h2;rw[hL,hw.at_];exact hk
  ·rw[Ren.add_ne _ _ hb] at h1;rw[T.gnE _ _ hb] at h2;rw[hw.rest _ (Nat.ne_of_lt (H.lt h1 h2))];exact(H.blk b M k' h1 h2).mono hx
 ·intro b b' M M' k1 k2 hne h1 h1' h2 h2' hr;by_cases hb:b=n
  ·subst hb;rw[Ren.add_same] at h1;cases h1;rw[Ren.add_ne _ _ (Ne.symm hne)] at h1';rw[T.gnE _ _ (Ne.symm hne)] at h2';rw[hL];exact Nat.ne_of_gt (H.lt h1' h2')
  ·rw[Ren.add_ne _ _ hb] at h1;rw[T.gnE _ _ hb] at h2;by_cases hb':b'=n
   ·subst hb';rw[Ren.add_same] at h1';cases h1';rw[hL];exact Nat.ne_of_lt (H.lt h1 h2)
   ·rw[Ren.add_ne _ _ hb'] at h1';rw[T.gnE _ _ hb'] at h2';exact H.apart b b' M M' k1 k2 hne h1 h1' h2 h2' hr
 ·intro b M k' h1 h2 hr;by_cases hb:b=n
  ·subst hb;rw[Ren.add_same] at h1;cases h1;rw[hL];exact .inr H.size
  ·rw[Ren.add_ne _ _ hb] at h1;rw[T.gnE _ _ hb] at h2;exact H.own b M k' h1 h2 hr
 ·intro r hr ho;rw[hw.rest r (Nat.ne_of_lt (Nat.lt_of_lt_of_le hr H.size))];exact H.frame r hr ho
 ·rw[hw.size];exact Nat.le_succ_of_le H.size
 ·intro g hg;obtain⟨s,hs⟩:=H.glob g hg;exact⟨s,hx _ _ hs⟩
theorem WRel.kill(H:WRel G ρ h w)(b:Nat):WRel G ρ (h.upd none b) w:=by
 have key:∀ c k,(h.upd none b).get c=some k→h.get c=some k:=by
  intro c k hc;rw[T.get_upd] at hc;split at hc
  ·cases hc
  ·exact hc
 exact⟨fun c L k h1 h2=>H.blk c L k h1 (key _ _ h2),fun c c' L L' k k' hne h1 h1' h2 h2'=>H.apart c c' L L' k k' hne h1 h1' (key _ _ h2) (key _ _ h2'),
  fun c L k h1 h2=>H.own c L k h1 (key _ _ h2),H.frame,H.size,H.glob,H.out⟩
theorem WRel.set(H:WRel G ρ h w){b:Nat}{L:Pl}{k k':Blk}{o:Obj}(hb:ρ b=some L)(hk:h.get b=some k)(hr:isRo k=false)
 (hw:HSet w L.blk o w') (hk':BRel ρ L k' (some o)):WRel G ρ (h.upd (some k') b) w':=by
 have far:∀ c M k1,c≠b→ρ c=some M→h.get c=some k1→M.blk≠L.blk:=fun c M k1 hc h1 h2=>H.apart c b M L k1 k hc h1 hb h2 hk (.inr hr)
 refine⟨?_,?_,?_,?_,?_,H.glob,hw.out.trans H.out⟩
 ·intro c M k1 h1 h2;by_cases hc:c=b
  ·subst hc;rw[hb] at h1;cases h1;rw[T.gsE] at h2;cases h2;rw[hw.at_];exact hk'
  ·rw[T.gnE _ _ hc] at h2;rw[hw.rest _ (far c M k1 hc h1 h2)];exact H.blk c M k1 h1 h2
 ·intro c c' M M' k1 k2 hne h1 h1' h2 h2' hro;by_cases hc:c=b
  ·subst hc;rw[hb] at h1;cases h1;rw[T.gnE _ _ (Ne.symm hne)] at h2';exact(far c' M' k2 (Ne.symm hne) h1' h2').symm
  ·rw[T.gnE _ _ hc] at h2;by_cases hc':c'=b
   ·subst hc';rw[hb] at h1';cases h1';exact far c M k1 hc h1 h2
   ·rw[T.gnE _ _ hc'] at h2';exact H.apart c c' M M' k1 k2 hne h1 h1' h2 h2' hro
 ·intro c M k1 h1 h2 hro;by_cases hc:c=b
  ·subst hc;rw[hb] at h1;cases h1;exact H.own c L k hb hk hr
  ·rw[T.gnE _ _ hc] at h2;exact H.own c M k1 h1 h2 hro
 ·intro r hr' ho;rw[hw.rest r ?_];exact H.frame r hr' ho;intro e;subst e;rcases H.own b L k hb hk hr with h1|h1
  ·exact ho h1
  ·omega
 ·rw[hw.size];exact H.size
theorem WRel.take(H:WRel G ρ h w)(hn:ρ n=none){b:Nat}{L M:Pl}{k k':Blk}{o:Obj}(hb:ρ b=some L)(hk:h.get b=some k)(hr:isRo k=false)
 (hM:M.blk=L.blk) (hw:HSet w L.blk o w') (hk':BRel (ρ.add n M) M k' (some o)) :
 WRel G (ρ.add n M) ((h.upd none b).upd (some k') n) w'∧Ext ρ (ρ.add n M):=by
 have hx:Ext ρ (ρ.add n M):=Ext.add M hn;have hbn:b≠n:=fun e=>by rw[e,hn] at hb;cases hb
 have far:∀ c N k1,c≠b→ρ c=some N→h.get c=some k1→N.blk≠L.blk:=fun c N k1 hc h1 h2=>H.apart c b N L k1 k hc h1 hb h2 hk (.inr hr)
 have key:∀ c k1,c≠n→((h.upd none b).upd (some k') n).get c=some k1→h.get c=some k1∧c≠b:=by
  intro c k1 hc h2;rw[T.gnE _ _ hc,T.get_upd] at h2;split at h2
  ·cases h2
  ·rename_i hcb;exact⟨h2,hcb⟩
 refine⟨⟨?_,?_,?_,?_,?_,?_,hw.out.trans H.out⟩,hx⟩
 ·intro c N k1 h1 h2;by_cases hc:c=n
  ·subst hc;rw[Ren.add_same] at h1;cases h1;rw[T.gsE] at h2;cases h2;rw[hM,hw.at_];exact hk'
  ·rw[Ren.add_ne _ _ hc] at h1;obtain⟨h2,hcb⟩:=key c k1 hc h2;rw[hw.rest _ (far c N k1 hcb h1 h2)];exact(H.blk c N k1 h1 h2).mono hx
 ·intro c c' N N' k1 k2 hne h1 h1' h2 h2' hro;by_cases hc:c=n
  ·subst hc;rw[Ren.add_same] at h1;cases h1;rw[Ren.add_ne _ _ (Ne.symm hne)] at h1';obtain⟨h2',hcb⟩:=key c' k2 (Ne.symm hne) h2';rw[hM];exact(far c' N' k2 hcb h1' h2').symm
  ·rw[Ren.add_ne _ _ hc] at h1;obtain⟨q2,hcb⟩:=key c k1 hc h2;by_cases hc':c'=n
   ·subst hc';rw[Ren.add_same] at h1';cases h1';rw[hM];exact far c N k1 hcb h1 q2
   ·rw[Ren.add_ne _ _ hc'] at h1';obtain⟨q2',hcb'⟩:=key c' k2 hc' h2';exact H.apart c c' N N' k1 k2 hne h1 h1' q2 q2' hro
 ·intro c N k1 h1 h2 hro;by_cases hc:c=n
  ·subst hc;rw[Ren.add_same] at h1;cases h1;rw[hM];exact H.own b L k hb hk hr
  ·rw[Ren.add_ne _ _ hc] at h1;obtain⟨h2,hcb⟩:=key c k1 hc h2;exact H.own c N k1 h1 h2 hro
 ·intro r hr' ho;rw[hw.rest r ?_];exact H.frame r hr' ho;intro e;subst e;rcases H.own b L k hb hk hr with h1|h1
  ·exact ho h1
  ·omega
 ·rw[hw.size];exact H.size
 ·intro g hg;obtain⟨s,hs⟩:=H.glob g hg;exact⟨s,hx _ _ hs⟩
end
structure St(G:Gh)(ρ:Ren)(h:T Blk)(n:Nat)(w:World):Prop where
 wr:WRel G ρ h w
 fr:∀ b,n≤b→ρ b=none
 hb:∀ b,n≤b→h.get b=none
structure Stp(G:Gh)(ρ:Ren)(h:T Blk)(n:Nat)(ρ':Ren)(h':T Blk)(n':Nat)(w':World):Prop where
 st:St G ρ' h' n' w'
 ext:Ext ρ ρ'
 new:∀ b,b<n→ρ b=none→ρ' b=none
 newOwn:∀ b L,ρ b=none→ρ' b=some L→G.own L.blk∨G.heap.size≤L.blk
 dead:∀ b,b<n→h.get b=none→h'.get b=none
 tot:∀ b k,n≤b→h'.get b=some k→∃ L,ρ' b=some L
 afr:∀ b,b<n→ρ b=none→h'.get b=h.get b
 le:n≤n'
section
variable {G:Gh}{ρ ρ' ρ'':Ren}{h h' h'':T Blk}{n n' n'':Nat}{w w' w'':World}
theorem Stp.refl(H:St G ρ h n w):Stp G ρ h n ρ h n w:=⟨H,.refl _,fun _ _ h=>h,(fun b L h1 h2=>by rw[h1] at h2;cases h2),fun _ _ h=>h,(fun b k hb hk=>by rw[H.hb b hb] at hk;cases hk),fun _ _ _=>rfl,nlR _⟩
theorem Stp.trans(a:Stp G ρ h n ρ' h' n' w')(b:Stp G ρ' h' n' ρ'' h'' n'' w''):Stp G ρ h n ρ'' h'' n'' w'' :=
 ⟨b.st,a.ext.trans b.ext,fun c hc hn=>b.new c (Nat.lt_of_lt_of_le hc a.le) (a.new c hc hn),
  fun c L h1 h2=>by
   cases hc:ρ' c with
   | none=>exact b.newOwn c L hc h2
   | some M =>
     have:=b.ext c M hc;rw[h2] at this;cases this;exact a.newOwn c L h1 hc,
  fun c hc hn=>b.dead c (Nat.lt_of_lt_of_le hc a.le) (a.dead c hc hn),
  (fun c k hc hk=>by
   by_cases hcn:n'≤c
   ·exact b.tot c k hcn hk
   ·cases hh:h'.get c with
    | none=>rw[b.dead c (by omega) hh] at hk;cases hk
    | some k1 =>
      obtain⟨L,hL⟩:=a.tot c k1 hc hh;exact⟨L,b.ext c L hL⟩),
  fun c hc hn=>(b.afr c (Nat.lt_of_lt_of_le hc a.le) (a.new c hc hn)).trans (a.afr c hc hn),Nat.le_trans a.le b.le⟩
theorem St.same(H:St G ρ h n w)(hh:Lk w w'):St G ρ h n w':=⟨H.wr.same hh,H.fr,H.hb⟩
theorem St.alloc(H:St G ρ h n w){o:Obj}{k:Blk}{L:Pl}(hL:L.blk=w.heap.size)(hw:HPush w o w')(hk:BRel (ρ.add n L) L k (some o)) :
 Stp G ρ h n (ρ.add n L) (h.upd (some k) n) (n+1) w':=by
 obtain⟨h1,h2⟩:=H.wr.alloc (H.fr n (nlR n)) hL hw hk;refine⟨⟨h1,fun b hb=>?_,fun b hb=>?_⟩,h2,fun b hb hn=>?_,fun b M e1 e2=>?_,fun b hb hn=>?_,fun b k1 hb hk1=>?_,fun b hb _=>?_,Nat.le_succ n⟩
 ·rw[Ren.add_ne _ _ (by omega)];exact H.fr b (by omega)
 ·rw[T.gnE _ _ (by omega)];exact H.hb b (by omega)
 ·rw[Ren.add_ne _ _ (by omega)];exact hn
 ·by_cases hbn:b=n
  ·subst hbn;rw[Ren.add_same] at e2;cases e2;rw[hL];exact .inr H.wr.size
  ·rw[Ren.add_ne _ _ hbn,e1] at e2;cases e2
 ·rw[T.gnE _ _ (by omega)];exact hn
 ·by_cases hbn:b=n
  ·subst hbn;exact⟨L,Ren.add_same _ _ _⟩
  ·rw[T.gnE _ _ hbn,H.hb b hb] at hk1;cases hk1
 ·rw[T.gnE _ _ (by omega)]
theorem St.kill(H:St G ρ h n w)(b:Nat):St G ρ (h.upd none b) n w:=by
 refine⟨H.wr.kill b,H.fr,fun c hc=>?_⟩;rw[T.get_upd];split
 ·rfl
 ·exact H.hb c hc
theorem Stp.kill(H:St G ρ h n w){b:Nat}{L:Pl}(hb:ρ b=some L):Stp G ρ h n ρ (h.upd none b) n w:=by
 refine⟨H.kill b,.refl _,fun _ _ h=>h,(fun b L h1 h2=>by rw[h1] at h2;cases h2),fun c _ hc=>?_,fun c k hc hk=>?_,fun c _ hc=>?_,nlR _⟩
 ·rw[T.get_upd];split
  ·rfl
  ·exact hc
 ·rw[(H.kill b).hb c hc] at hk;cases hk
 ·exact T.gnE _ _ (fun e=>by rw[e,hb] at hc;cases hc)
theorem St.set(H:St G ρ h n w){b:Nat}{L:Pl}{k k':Blk}{o:Obj}(hb:ρ b=some L)(hk:h.get b=some k)(hr:isRo k=false)
 (hw:HSet w L.blk o w') (hk':BRel ρ L k' (some o)):Stp G ρ h n ρ (h.upd (some k') b) n w' :=
 ⟨⟨H.wr.set hb hk hr hw hk',H.fr,fun c hc=>by rw[T.gnE _ _ (fun e=>by rw[←e,H.fr c hc] at hb;cases hb)];exact H.hb c hc⟩,.refl _,fun _ _ h=>h,(fun b L h1 h2=>by rw[h1] at h2;cases h2),
   (fun c _ hc=>by rw[T.gnE _ _ (fun e=>by rw[e,hk] at hc;cases hc)];exact hc),
   (fun c k1 hc hk1=>by rw[T.gnE _ _ (fun e=>by rw[←e,H.fr c hc] at hb;cases hb),H.hb c hc] at hk1;cases hk1),
   fun c _ hc=>T.gnE _ _ (fun e=>by rw[e,hb] at hc;cases hc),nlR _⟩
theorem St.take(H:St G ρ h n w){b:Nat}{L M:Pl}{k k':Blk}{o:Obj}(hb:ρ b=some L)(hk:h.get b=some k)(hr:isRo k=false)
 (hM:M.blk=L.blk) (hw:HSet w L.blk o w') (hk':BRel (ρ.add n M) M k' (some o)) :
 Stp G ρ h n (ρ.add n M) ((h.upd none b).upd (some k') n) (n+1) w':=by
 obtain⟨h1,h2⟩:=H.wr.take (H.fr n (nlR n)) hb hk hr hM hw hk';refine⟨⟨h1,fun c hc=>?_,fun c hc=>?_⟩,h2,fun c hc hn=>?_,fun c N e1 e2=>?_,fun c hc hn=>?_,fun c k1 hc hk1=>?_,fun c hc hn=>?_,Nat.le_succ n⟩
 ·rw[Ren.add_ne _ _ (by omega)];exact H.fr c (by omega)
 ·rw[T.gnE _ _ (by omega),T.get_upd];split;· rfl
  ·exact H.hb c (by omega)
 ·rw[Ren.add_ne _ _ (by omega)];exact hn
 ·by_cases hcn:c=n
  ·subst hcn;rw[Ren.add_same] at e2;cases e2;rw[hM];exact H.wr.own b L k hb hk hr
  ·rw[Ren.add_ne _ _ hcn,e1] at e2;cases e2
 ·rw[T.gnE _ _ (by omega),T.get_upd];split;· rfl
  ·exact hn
 ·by_cases hcn:c=n
  ·subst hcn;exact⟨M,Ren.add_same _ _ _⟩
  ·rw[T.gnE _ _ hcn,T.get_upd] at hk1;split at hk1
   ·cases hk1
   ·rw[H.hb c hc] at hk1;cases hk1
 ·rw[T.gnE _ _ (by omega),T.gnE];intro e;rw[e,hb] at hn;cases hn
end
structure EOk(E:Env)(P:Program):Prop where
 ty:∀ t i,E.ty.get t=some i→∃ ti,P.info? t=some ti∧P.underlying t=some i.d∧ti.size=i.size∧ti.bytes=i.bytes ∧
  (i.zok=true→∃ z,ti.zero=some z∧lit 6 z=true∧cellsL z=i.zero∧i.zero.length=i.size∧(isAgg i.d=true→z= .agg ⟨i.zero⟩)∧(isAgg i.d=false→i.zero=[z]))
 fld:∀ (t:TypeId) (i:TyI) (fs:Array Field) (k:Nat) (f:Field),E.ty.get t=some i→i.d= .struct fs→fs[k]? =some f→∃ j,E.ty.get f.type=some j
 flat:∀ t ks,flatKs t E.flat=some ks →
  (∀ (xs ys:Array Value) (w:World),fitsK ks xs.toList=true→fitsK ks ys.toList=true→(Op.equal t (.agg xs) (.agg ys)).run P w= .ok (eqCs xs.toList ys.toList) w) ∧
  P.eqGuardType P.depth t=false∧(∀ (em:Bool) (xs:Array Value) (w:World),fitsK ks xs.toList=true→(Instr.checkKey em 10000 t (.agg xs)).run P w= .ok () w)
 fn:∀ f fn,E.fn.get f=some fn→P.funcs[f]? =some fn∧fn.body.isNone=false∧(fn.name == "runtime.NumGoroutine")=false
 memo:∀ f args h v,memoA E f args h=some v→∀ (G:Gh) (ρ:Ren) (n:Nat) (ys:Array Value) (w:World),E.glob≤G.ng→St G ρ h n w→LRel ρ args ys.toList →
  CallsIn Fence.wide 0 P f ys w (fun e w'=>∃ y,e= .returned y∧VRel ρ v y∧St G ρ h n w')
 ext:∀ f args h n r,E.ext f args h n=some r→∀ (G:Gh) (ρ:Ren) (ys:Array Value) (w:World),E.glob≤G.ng→St G ρ h n w→LRel ρ args ys.toList →
  CallsIn Fence.wide 0 P f ys w (fun e w'=>∃ y ρ',e= .returned y∧VRel ρ' r.1 y∧Stp G ρ h n ρ' r.2.1 r.2.2 w')
section
variable {E:Env}{P:Program}{w w':World}
theorem run_info{t:TypeId}{ti:TypeInfo}(h:P.info? t=some ti):(typeInfo t).run P w= .ok ti w:=by simp[typeInfo,Sem.run_bind,program,Sem.run,h,Result.andThen]
theorem run_und{t:TypeId}{d:TypeDesc}(h:P.underlying t=some d):(underlying t).run P w= .ok d w:=by simp[underlying,Sem.run_bind,program,Sem.run,h,Result.andThen]
theorem run_zero{t:TypeId}{ti:TypeInfo}{z:Value}(h:P.info? t=some ti)(hz:ti.zero=some z):(zeroValue t).run P w= .ok z w:=by simp[zeroValue,Sem.run_bind,run_info h,hz,Sem.run_pure]
theorem run_size{t:TypeId}{ti:TypeInfo}(h:P.info? t=some ti):(sizeOf t).run P w= .ok ti.size w:=by simp[sizeOf,Sem.run_bind,run_info h,Sem.run_pure]
theorem run_isAgg{t:TypeId}{d:TypeDesc}(h:P.underlying t=some d):(Go.isAgg t).run P w= .ok (isAgg d) w:=by simp only[Go.isAgg,Sem.run_bind,run_und h,Result.andThen_ok];cases d<;>simp[isAgg,Sem.run_pure]
theorem cell_at{a:Addr}{c:Array Value}{e:TypeId}{fr:Nat×Nat}(hh:w.heap[a.block]? =some (.cells c e fr))(hs:a.spot=none):w.cell? a=c[a.off]? :=by simp[World.cell?,hh,hs]
theorem add_eq{a:Addr}(hs:a.spot=none)(i:Nat):a.add i=⟨a.block,a.off+i,none⟩:=by
 cases a with
 | mk b o s =>
   simp only at hs;subst hs;unfold Addr.add;split
   ·rename_i h;subst h;rfl
   ·rfl
theorem run_ld{a:Addr}{c:Array Value}{e:TypeId}{fr:Nat×Nat}{v:Value}(hh:w.heap[a.block]? =some (.cells c e fr))(hs:a.spot=none)(hv:c[a.off]? =some v) :
 (load a).run P w= .ok v w:=by
 simp[load,Sem.run,cell_at hh hs,hv]
theorem run_loadFrom{a:Addr}{c:Array Value}{e:TypeId}{fr:Nat×Nat}(hh:w.heap[a.block]? =some (.cells c e fr))(hs:a.spot=none) :
 ∀ (n i:Nat) (acc:Array Value),a.off+i+n≤c.size →
   (loadCellsFrom a i n acc).run P w= .ok ⟨acc.toList ++ (c.toList.drop (a.off+i)).take n⟩ w:=by
 intro n
 induction n with
 | zero=>intro i acc _;simp[loadCellsFrom,Sem.run_pure]
 | succ n ih =>
   intro i acc h;have hi:a.off+i<c.size:=by omega
   simp only[loadCellsFrom,Sem.run_bind];rw[add_eq hs,run_ld (v:=c[a.off+i]) (c:=c) (e:=e) (fr:=fr) (a:=⟨a.block,a.off+i,none⟩) hh rfl (by simp[hi])];simp only[Result.andThen_ok];rw[ih (i+1) _ (by omega)]
   congr 2
   rw[show a.off+(i+1)=a.off+i+1 from rfl];rw[←List.getElem_cons_drop (as:=c.toList) (i:=a.off+i) (by simpa using hi)];simp
theorem run_loadCells{a:Addr}{c:Array Value}{e:TypeId}{fr:Nat×Nat}{n:Nat}(hh:w.heap[a.block]? =some (.cells c e fr))(hs:a.spot=none)(hn:n=0∨a.off+n≤c.size) :
 (loadCells a n).run P w= .ok ⟨(c.toList.drop a.off).take n⟩ w:=by
 rcases hn with rfl|hn
 ·simp[loadCells,loadCellsFrom,Sem.run_pure]
 ·rw[loadCells,run_loadFrom hh hs n 0 #[] (by simpa using hn)];simp
theorem cut_rel{ρ:Ren}{cs:List Value}{L:Pl}{c:Array Value}(H:CellsRel ρ cs L c){o n:Nat}{l:List Value}(h:seg cs o n=some l) :
 LRel ρ l ((c.toList.drop (L.sh+o)).take n)∧(n=0∨L.sh+o+n≤c.size):=by
 obtain⟨h1,h2⟩:=seg_some h;obtain⟨H1,H2,H3⟩:=H;by_cases hn:n=0
 ·subst hn;have:l=[]:=List.length_eq_zero_iff.1 h1;subst this;exact⟨by simpa using LRel.nil ρ,.inl rfl⟩
 ·obtain⟨_,h4⟩:=h2 (n-1) (by omega);refine⟨.of (by simp[h1];omega) fun i x hx=>?_,.inr (by omega)⟩;have hi:i<n:=h1▸(gsI hx).1;obtain⟨h5,h6⟩:=h2 i hi;obtain⟨y,h7,h8⟩:=H3 (o+i) x (by rw[←h5];exact hx);refine⟨y,?_,h8⟩;rw[List.getElem?_take_of_lt hi,List.getElem?_drop,← h7,Array.getElem?_toList,Nat.add_assoc]
theorem ld_rel(K:EOk E P){ρ:Ren}{t:TypeId}{i:TyI}(ht:E.ty.get t=some i){cs:List Value}{L:Pl}{c:Array Value}{e:TypeId}{fr:Nat×Nat}
 (hh:w.heap[L.blk]? =some (.cells c e fr)) (H:CellsRel ρ cs L c) {o:Nat} {v:Value} (h:ldA i cs o=some v) :
 ∃ y,(loadVar t ⟨L.blk,L.sh+o,none⟩).run P w= .ok y w∧VRel ρ v y:=by
 obtain⟨ti,t1,t2,t3,t4,t5⟩:=K.ty t i ht;simp only[loadVar,Sem.run_bind,run_isAgg t2,Result.andThen_ok];unfold ldA at h;rw[biE] at h;split at h
 ·rename_i hagg;simp only[hagg,if_true,Sem.run_bind,run_size t1,Result.andThen_ok,t3];split at h
  ·rename_i l hl;cases h;obtain⟨q1,q2⟩:=cut_rel H hl;rw[run_loadCells (a:=⟨L.blk,L.sh+o,none⟩) hh rfl q2];exact⟨_,by simp only[Result.andThen_ok,Sem.run_pure],.mkAgg q1⟩
  ·cases h
 ·rename_i hagg;simp only[hagg];rw[nth_eq] at h;obtain⟨y,h1,h2⟩:=H.2.2 o v h;exact⟨y,run_ld (a:=⟨L.blk,L.sh+o,none⟩) hh rfl h1,h2⟩
theorem run_st{a:Addr}{c:Array Value}{e:TypeId}{fr:Nat×Nat}{v:Value}(hh:w.heap[a.block]? =some (.cells c e fr))(hs:a.spot=none)(hf:fr.2≤fr.1)
 (hv:isCell v=true) (ha:a.off<c.size):(store a v).run P w= .ok () (w.setCell a v)∧HSet w a.block (.cells (c.setIfInBounds a.off v) e fr) (w.setCell a v):=by
 have hc:w.cell? a=some c[a.off]:=by rw[cell_at hh hs];simp[ha]
 have hfr:w.frozen? a=false:=by obtain⟨lo,hi⟩:=fr;simp only at hf;simp only[World.frozen?,hh];simp;omega
 constructor
 ·unfold store;cases v<;>first|(simp[isCell] at hv;done)|simp[Sem.run,hc,hfr]
 ·have hb:a.block<w.heap.size:=(Array.getElem?_eq_some_iff.1 hh).1;refine⟨by simp[World.setCell],?_,fun r' hr'=>?_,rfl⟩
  ·simp only[World.setCell,Array.getElem?_modify,if_pos rfl,hh,Option.map_some,hs];simp
  ·simp only[World.setCell,Array.getElem?_modify,if_neg (Ne.symm hr')]
theorem run_storeCells{a:Addr}{e:TypeId}{fr:Nat×Nat}(hs:a.spot=none)(hf:fr.2≤fr.1) :
 ∀ (vs:List Value) (i:Nat) (w:World) (c:Array Value),w.heap[a.block]? =some (.cells c e fr)→allCells vs=true→(vs=[]∨a.off+i+vs.length≤c.size) →
   ∃ w' c',(storeCells a vs i).run P w= .ok () w'∧HSet w a.block (.cells c' e fr) w'∧c'.size=c.size ∧
     ∀ j,c'[j]? =if a.off+i≤j∧j<a.off+i+vs.length then vs[j-(a.off+i)]? else c[j]? :=by
 intro vs
 induction vs with
 | nil =>
   intro i w c hh _ _;refine⟨w,c,by simp[storeCells,Sem.run_pure],⟨rfl,hh,fun _ _=>rfl,rfl⟩,rfl,fun j=>?_⟩;rw[if_neg];simp only[List.length_nil];omega
 | cons v vs ih =>
   intro i w c hh hc hn;have hn:a.off+i+(vs.length+1)≤c.size:=by simpa using hn
   simp only[allCells,biE] at hc;split at hc
   ·rename_i hv;simp only[storeCells,Sem.run_bind];obtain⟨s1,s2⟩:=run_st (P:=P) (a:=⟨a.block,a.off+i,none⟩) hh rfl hf hv (by show a.off+i<c.size;omega);rw[add_eq hs,s1];simp only[Result.andThen_ok];obtain⟨w',c',r1,r2,r3,r4⟩:=ih (i+1) (w.setCell ⟨a.block,a.off+i,none⟩ v) (c.setIfInBounds (a.off+i) v) s2.at_ hc (.inr (by rw[Array.size_setIfInBounds];omega));refine⟨w',c',r1,⟨r2.size.trans s2.size,r2.at_,fun r' hr'=>(r2.rest r' hr').trans (s2.rest r' hr'),r2.out.trans s2.out⟩,by simpa using r3,fun j=>?_⟩;rw[r4];by_cases hj:a.off+(i+1)≤j∧j<a.off+(i+1)+vs.length
    ·rw[if_pos hj,if_pos (by simp only[List.length_cons];omega)];obtain⟨m,hm⟩:∃ m,j=a.off+i+1+m:=⟨j-(a.off+i+1),by omega⟩
     subst hm;rw[show a.off+i+1+m-(a.off+i)=m+1 by omega,List.getElem?_cons_succ]
     congr 1;omega
    ·rw[if_neg hj,Array.getElem?_setIfInBounds];by_cases hj':a.off+i=j
     ·subst hj';rw[if_pos rfl,if_pos (by omega),if_pos (by simp only[List.length_cons];omega)];simp
     ·rw[if_neg hj',if_neg (by simp only[List.length_cons];omega)]
   ·cases hc
theorem over_rel{ρ:Ren}{cs cs' vs:List Value}{L:Pl}{c c':Array Value}{us:List Value}(H:CellsRel ρ cs L c){o:Nat}(h:overAt vs cs o=some cs')(hu:LRel ρ vs us)
 (hs:c'.size=c.size) (hc:∀ j,c'[j]? =if L.sh+o≤j∧j<L.sh+o+us.length then us[j-(L.sh+o)]? else c[j]?):CellsRel ρ cs' L c':=by
 obtain⟨h1,h2,h3⟩:=overAt_some _ _ _ _ h;obtain⟨H1,H2,H3⟩:=H;refine⟨by rw[h1];exact H1,by rw[hs];exact H2,fun i x hx=>?_⟩;rw[h3] at hx;by_cases hi:o≤i∧i<o+vs.length
 ·rw[if_pos hi] at hx;obtain⟨y,e1,e2⟩:=hu.get hx;refine⟨y,?_,e2⟩;rw[hc,if_pos (by have:=hu.1;omega),← e1]
  congr 1;omega
 ·rw[if_neg hi] at hx;obtain⟨y,e1,e2⟩:=H3 i x hx;exact⟨y,by rw[hc,if_neg (by have:=hu.1;omega)];exact e1,e2⟩
theorem allCells_rel{ρ:Ren}:∀ {vs us:List Value},LRel ρ vs us→allCells vs=true→allCells us=true
 | [],us,h,_=>by rw[h.nil_left];rfl
 | v :: vs,us,h,hc=>by
   obtain⟨u,us',rfl,h1,h2⟩:=h.cons_left;simp only[allCells,biE] at hc ⊢;split at hc
   ·rename_i hv;rw[if_pos,allCells_rel h2 hc];cases h1<;>first|rfl|(simp[isCell] at hv)
   ·cases hc
variable {G:Gh}{ρ:Ren}{h:T Blk}{n:Nat}
theorem put_sim(H:St G ρ h n w){b o:Nat}{vs us:List Value}{h':T Blk}(hp:putA h b o vs=some h'){L:Pl}(hb:ρ b=some L)(hu:LRel ρ vs us) :
 ∃ w',(storeCells ⟨L.blk,L.sh+o,none⟩ us).run P w= .ok () w'∧Stp G ρ h n ρ h' n w':=by
 unfold putA at hp;split at hp
 ·rename_i cs hcs;rw[biE] at hp;split at hp
  ·rename_i hc;split at hp
   ·rename_i cs' hcs';cases hp;obtain⟨c,e,fr,k1,k2,k3⟩:=H.wr.blk b L _ hb hcs;have hbound:us=[]∨L.sh+o+0+us.length≤c.size:=by
     have:=(overAt_some _ _ _ _ hcs').2.1;have h1:=k3.1;have h2:=k3.2.1;have h3:=hu.1;exact .inr (by omega)
    obtain⟨w',c',r1,r2,r3,r4⟩:=run_storeCells (P:=P) (a:=⟨L.blk,L.sh+o,none⟩) rfl k2 us 0 w c k1 (allCells_rel hu hc) hbound;refine⟨w',r1,H.set hb hcs rfl r2 ⟨c',e,fr,rfl,k2,over_rel k3 hcs' hu r3 ?_⟩⟩;intro j;simpa using r4 j
   ·cases hp
  ·cases hp
 ·cases hp
end
def DR(ρ:Ren)(d d':Deferred):Prop :=
 match d.target,d'.target with
 | .fn f a,.fn g b=>FRel ρ f g∧LRel ρ a.toList b.toList∧LRel ρ d.args.toList d'.args.toList
 | .collected m,.collected k=>∃ L,ρ m=some L∧k=L.blk
 | _,_=>False
def OSim(G:Gh)(ρ:Ren)(h:T Blk)(n:Nat)(w:World):OO→Result Next→Prop
 | .val v h' n',r=>∃ ρ' w' y,r= .ok (.value y) w'∧VRel ρ' v y∧Stp G ρ h n ρ' h' n' w'
 | .skip h' n',r=>∃ ρ' w',r= .ok .skip w'∧Stp G ρ h n ρ' h' n' w'
 | .dfr d,r=>∃ d',r= .ok (.defer d') w∧DR ρ d d'
 | .enter f args,r=>∃ args',r= .ok (.enter f args') w∧LRel ρ args args'.toList
 | .round l args,r=>∀ lr,h.get l=some (.loop lr)→args.length=lr.params.length→∃ L args' R,ρ l=some L∧w.heap[L.blk]? =some (.loop R)∧LRel ρ args args'.toList ∧
  r= .ok (.round L.blk R.fn ((R.params.zip args').foldl (fun tmps (t,a)=>tmps.setIfInBounds t a) R.tmps) R.assign R.body) w
 | _,_=>True
section
variable {E:Env}{P:Program}{w:World}{G:Gh}{ρ:Ren}{h:T Blk}{n:Nat}{t:T Value}{a:Act}
def VSim(ρ:Ren)(P:Program)(w:World)(v:Option Value)(s:Sem Value):Prop:=∀ x,v=some x→∃ y,s.run P w= .ok y w∧VRel ρ x y
theorem VSim.osim{v:Option Value}{s:Sem Value}(H:St G ρ h n w)(hv:VSim ρ P w v s){why:String} :
 OSim G ρ h n w (val? h n why v) ((do pure (.value (← s)):Sem Next).run P w):=by
 cases v with
 | none=>exact trivial
 | some x =>
   obtain⟨y,h1,h2⟩:=hv x rfl;exact⟨ρ,w,y,by simp[Sem.run_bind,h1],h2,.refl H⟩
theorem ev_sim(H:WRel G ρ h w)(hg:E.glob≤G.ng)(ht:TR ρ t a.tmps){x:Operand}{v:Value}(hx:evA E t x=some v):VRel ρ v (a.eval x):=by
 cases x with
 | tmp k =>
   obtain⟨y,h1,h2⟩:=ht k v hx;simpa [Act.eval,Array.getD_eq_getD_getElem?,h1] using h2
 | const c =>
   simp only[evA,biE] at hx;split at hx
   ·rename_i hl;cases hx;exact lit_rel ρ 6 _ hl
   ·cases hx
 | global g =>
   simp only[evA,biE,bltT] at hx;split at hx
   ·rename_i hl;cases hx;obtain⟨s,hs⟩:=H.glob g (Nat.lt_of_lt_of_le hl hg);simpa [Act.eval] using VRel.ptr (o:=0) hs
   ·cases hx
 | func f =>
   cases hx;exact empty_rel (f:= .func f) rfl rfl
theorem evAll_sim(H:WRel G ρ h w)(hg:E.glob≤G.ng)(ht:TR ρ t a.tmps):∀ {xs:List Operand}{vs:List Value},evAll E t xs=some vs→LRel ρ vs (xs.map a.eval)
 | [],vs,hx=>by cases hx;exact .nil ρ
 | x :: xs,vs,hx=>by
   simp only[evAll] at hx;split at hx
   ·rename_i v r h1 h2;cases hx;exact .cons (ev_sim H hg ht h1) (evAll_sim H hg ht h2)
   ·cases hx
theorem cellsL_rel{v y:Value}(hv:VRel ρ v y):LRel ρ (cellsL v) y.cells.toList:=by
 cases hv with
 | agg ha hh=>exact⟨ha,hh⟩
 | tuple ha hh=>exact .cons (.tuple ha hh) (.nil ρ)
 | bool b=>exact .cons (.bool b) (.nil ρ)
 | int k n=>exact .cons (.int k n) (.nil ρ)
 | string s=>exact .cons (.string s) (.nil ρ)
 | ptr0=>exact .cons .ptr0 (.nil ρ)
 | ptr h=>exact .cons (.ptr h) (.nil ρ)
 | slice0 l c=>exact .cons (.slice0 l c) (.nil ρ)
 | slice l c h hc=>exact .cons (.slice l c h hc) (.nil ρ)
 | sliceU l h hu hk hl hc hs ho=>exact .cons (.sliceU l h hu hk hl hc hs ho) (.nil ρ)
 | sliceZ a h hk hz=>exact .cons (.sliceZ a h hk hz) (.nil ρ)
 | map0=>exact .cons .map0 (.nil ρ)
 | map h=>exact .cons (.map h) (.nil ρ)
 | nilFunc=>exact .cons .nilFunc (.nil ρ)
 | nilIface=>exact .cons .nilIface (.nil ρ)
 | func hf ha hb h h'=>exact .cons (.func hf ha hb h h') (.nil ρ)
 | iface t h=>exact .cons (.iface t h) (.nil ρ)
theorem load_sim(K:EOk E P)(hw:∀ b L k,ρ b=some L→h.get b=some k→BRel ρ L k w.heap[L.blk]?){ty:TypeId}{p q:Value}(hp:VRel ρ p q) :
 VSim ρ P w (loadA E h ty p) (Instr.loadAt ty q):=by
 intro x hx;unfold loadA at hx;split at hx
 ·rename_i b o;split at hx
  ·rename_i i cs hi hcs;cases hp with
   | ptr hb =>
     rename_i L;simp only[Instr.loadAt,Instr.sureAddr,Sem.run_bind,Sem.run_pure,Result.andThen_ok];unfold cellsOf at hcs;split at hcs
     ·rename_i cs' hk;cases hcs;obtain⟨c,e,fr,k1,k2,k3⟩:=hw b L _ hb hk;exact ld_rel K hi k1 k3 hx
     ·rename_i cs' hk;cases hcs;obtain⟨c,e,fr,k1,k3⟩:=hw b L _ hb hk;exact ld_rel K hi k1 k3 hx
     ·cases hcs
  ·cases hx
 ·cases hx
theorem store_sim(K:EOk E P)(H:St G ρ h n w){ty:TypeId}{p q v y:Value}(hp:VRel ρ p q)(hv:VRel ρ v y){h':T Blk}(hs:storeA E h ty p v=some h') :
 ∃ w',(Instr.storeAt ty q y).run P w= .ok () w'∧Stp G ρ h n ρ h' n w':=by
 unfold storeA at hs;split at hs
 ·rename_i b o;split at hs
  ·rename_i i hi;simp only[biE,beqT] at hs;split at hs
   ·rename_i hlen;obtain⟨ti,t1,t2,t3,t4,t5⟩:=K.ty ty i hi;have hcell:=cellsL_rel hv;cases hp with
    | ptr hb =>
      rename_i L;simp only[Instr.storeAt,Instr.sureAddr,Sem.run_bind,Sem.run_pure,Result.andThen_ok,storeVar,run_size t1];have hsz:¬ (y.cells.size≠ti.size):=by rw[t3,← hlen,hcell.1];simp
      rw[if_neg hsz];exact put_sim H hs hb hcell
   ·cases hs
  ·cases hs
 ·cases hs
theorem push_row{c:Array Value}{e:TypeId}:(newRow e c).run P w= .ok ⟨w.heap.size,0,none⟩ {w with heap:=w.heap.push (.cells c e)}:=by simp[newRow,newObj,Sem.run_bind,Sem.run]
theorem row_sim(H:St G ρ h n w){vs:List Value}{c:Array Value}{e:TypeId}(hc:LRel ρ vs (c.toList.take vs.length))(hl:vs.length≤c.size){w1:World}(hw1:Lk w w1) :
 Stp G ρ h n (ρ.add n ⟨w.heap.size,0,c.size⟩) (h.upd (some (.cells vs)) n) (n+1) {w1 with heap:=w1.heap.push (.cells c e)}:=by
 refine H.alloc rfl (HPush.of_drawn hw1) ⟨c,e,(0,0),rfl,nlR _,?_,nlR _,?_⟩
 ·simpa using hl
 ·intro i x hx;obtain⟨y,h1,h2⟩:=hc.get hx;have hi:i<vs.length:=(gsI hx).1;refine⟨y,?_,h2.mono (Ext.add _ (H.fr n (nlR n)))⟩;rw[List.getElem?_take_of_lt hi] at h1;simpa using h1
theorem row_sim'(H:St G ρ h n w){vs:List Value}{c:Array Value}{e:TypeId}(hc:LRel ρ vs c.toList){w1:World}(hw1:Lk w w1) :
 Stp G ρ h n (ρ.add n ⟨w.heap.size,0,c.size⟩) (h.upd (some (.cells vs)) n) (n+1) {w1 with heap:=w1.heap.push (.cells c e)}:=by
 have hl:=hc.1;refine row_sim H ?_ (by simp at hl;omega) hw1;rw[hl,List.take_length];exact hc
theorem alloc_sim(K:EOk E P)(H:St G ρ h n w){e:TypeId}{i:TyI}(hi:E.ty.get e=some i)(hz:i.zok=true) :
 OSim G ρ h n w (.val (ptrTo n) (newA h n (.cells i.zero)) (n+1)) ((do pure (.value (← Instr.alloc e true (.tuple #[]))):Sem Next).run P w):=by
 obtain⟨ti,t1,t2,t3,t4,t5⟩:=K.ty e i hi;obtain⟨z,z1,z2,z3,z4⟩:=t5 hz;have hcell:=cellsL_rel (lit_rel ρ 6 z z2);rw[z3] at hcell;refine⟨_,_,.pointer (some ⟨w.heap.size,0,none⟩),?_,?_,row_sim' (e:=e) H hcell ⟨rfl,rfl⟩⟩
 ·simp only[Instr.alloc,Sem.run_bind,run_zero t1 z1,Result.andThen_ok,newVar,push_row,Sem.run_pure]
 ·simpa [ptrTo] using VRel.ptr (o:=0) (Ren.add_same ρ n ⟨w.heap.size,0,z.cells.size⟩)
theorem box_sim(H:St G ρ h n w){e:TypeId}{v y:Value}(hv:VRel ρ v y) :
 OSim G ρ h n w (.val (ptrTo n) (newA h n (.cells (cellsL v))) (n+1)) ((do pure (.value (← Instr.box e y)):Sem Next).run P w):=by
 have hcell:=cellsL_rel hv;refine⟨_,_,.pointer (some ⟨w.heap.size,0,none⟩),?_,?_,row_sim' (e:=e) H hcell ⟨rfl,rfl⟩⟩
 ·simp only[Instr.box,Sem.run_bind,Result.andThen_ok,newVar,push_row,Sem.run_pure]
 ·simpa [ptrTo] using VRel.ptr (o:=0) (Ren.add_same ρ n ⟨w.heap.size,0,y.cells.size⟩)
theorem fold_set(off:Nat):∀ (us:List Value)(k:Nat)(cs:Array Value),off+k+us.length≤cs.size →
 ((us.zipIdx k).foldl (fun cs (x:Value×Nat)=>cs.setIfInBounds (off+x.2) x.1) cs).size=cs.size ∧
 ∀ j,((us.zipIdx k).foldl (fun cs (x:Value×Nat)=>cs.setIfInBounds (off+x.2) x.1) cs)[j]? =if off+k≤j∧j<off+k+us.length then us[j-(off+k)]? else cs[j]? :=by
 intro us
 induction us with
 | nil=>intro k cs _;refine⟨rfl,fun j=>?_⟩;rw[if_neg (by simp only[List.length_nil];omega)];rfl
 | cons u us ih =>
   intro k cs hb;simp only[List.length_cons] at hb;simp only[List.zipIdx_cons,List.foldl_cons];obtain⟨h1,h2⟩:=ih (k+1) (cs.setIfInBounds (off+k) u) (by rw[Array.size_setIfInBounds];omega);refine⟨by rw[h1,Array.size_setIfInBounds],fun j=>?_⟩;rw[h2];by_cases hj:off+(k+1)≤j∧j<off+(k+1)+us.length
   ·rw[if_pos hj,if_pos (by simp only[List.length_cons];omega)];obtain⟨m,hm⟩:∃ m,j=off+k+1+m:=⟨j-(off+k+1),by omega⟩
    subst hm;rw[show off+k+1+m-(off+k)=m+1 by omega,List.getElem?_cons_succ]
    congr 1;omega
   ·rw[if_neg hj,Array.getElem?_setIfInBounds];by_cases hj':off+k=j
    ·subst hj';rw[if_pos rfl,if_pos (by omega),if_pos (by simp only[List.length_cons];omega)];simp
    ·rw[if_neg hj',if_neg (by simp only[List.length_cons];omega)]
def PRel(ρ:Ren)(l l':List (Nat×Value)):Prop:=l.map (·.1)=l'.map (·.1)∧LRel ρ (l.map (·.2)) (l'.map (·.2))
theorem evParts_sim(H:WRel G ρ h w)(hg:E.glob≤G.ng)(ht:TR ρ t a.tmps):∀ {ps:List (Nat×Operand)}{l:List (Nat×Value)},evParts E t ps=some l →
 PRel ρ l (ps.map fun x=>(x.1,a.eval x.2))
 | [],l,hx=>by cases hx;exact⟨rfl,.nil ρ⟩
 | (i,x) :: ps,l,hx=>by
   simp only[evParts] at hx;split at hx
   ·rename_i v r h1 h2;cases hx;have:=evParts_sim H hg ht h2;exact⟨by simp[this.1],.cons (ev_sim H hg ht h1) this.2⟩
   ·cases hx
theorem fill_sim{place place':Nat→Option (Nat×Nat)}(hp:∀ i x,place i=some x→place' i=some x):∀ {l l':List (Nat×Value)}{cs cs':List Value}{c:Array Value},
 fillA place l cs=some cs'→PRel ρ l l'→LRel ρ cs c.toList→∃ c',Instr.fill place' c l'=some c'∧LRel ρ cs' c'.toList
 | [],l',cs,cs',c,hf,hl,hc=>by
   cases hf;have:l'=[]:=by have:=hl.1;simp at this;exact this.symm▸rfl
   subst this;exact⟨c,rfl,hc⟩
 | (i,v) :: l,l',cs,cs',c,hf,hl,hc=>by
   cases l' with
   | nil=>have:=hl.1;simp at this
   | cons x l' =>
     obtain⟨j,y⟩:=x;obtain⟨e1,e2⟩:=hl;simp only[List.map_cons,List.cons.injEq] at e1 e2;obtain⟨e0,e1⟩:=e1;subst e0;have hv:=cellsL_rel e2.head;simp only[fillA] at hf;split at hf
     ·rename_i off size hpl;simp only[biE,beqT] at hf;split at hf
      ·rename_i hsz;split at hf
       ·rename_i cs1 ho;obtain⟨o1,o2,o3⟩:=overAt_some _ _ _ _ ho;have sz:∀ x:Array Value,x.toList.length=x.size:=fun x=>Array.length_toList
        have hl1:(cellsL v).length=y.cells.size:=hv.1.trans (sz _);have hl2:cs.length=c.size:=hc.1.trans (sz _);simp only[Instr.fill,hp _ _ hpl];rw[if_neg (by simp;omega)];obtain⟨q1,q2⟩:=fold_set off y.cells.toList 0 c (by rw[sz y.cells];omega);have hfold:(y.cells.zipIdx.foldl (fun cs (c,j)=>cs.setIfInBounds (off+j) c) c)=(y.cells.toList.zipIdx.foldl (fun cs (x:Value×Nat)=>cs.setIfInBounds (off+x.2) x.1) c):=by rw[←Array.foldl_toList,Array.toList_zipIdx]
        rw[hfold];refine fill_sim hp hf ⟨e1,e2.tail⟩ (.of ?_ fun i x hx=>?_)
        ·rw[o1,hl2];exact(q1.symm.trans (sz _).symm)
        ·rw[o3] at hx;rw[Array.getElem?_toList,q2];by_cases hi:off≤i∧i<off+(cellsL v).length
         ·rw[if_pos hi] at hx;rw[if_pos (by rw[sz y.cells];omega)];obtain⟨z,z1,z2⟩:=hv.get hx;exact⟨z,by simpa using z1,z2⟩
         ·rw[if_neg hi] at hx;rw[if_neg (by rw[sz y.cells];omega)];obtain⟨z,z1,z2⟩:=hc.get hx;exact⟨z,by simpa using z1,z2⟩
       ·cases hf
      ·cases hf
     ·cases hf
end
theorem sem_bind_pure{α:Type}(x:Sem α):x.bind Sem.pure=x:=by
 induction x<;>simp_all[Sem.bind]
 rename_i h
 funext b
 cases b
 ·exact h.1
 ·exact h.2
theorem sem_assoc{α β γ:Type}(x:Sem α)(f:α→Sem β)(g:β→Sem γ):(x.bind f).bind g=x.bind fun a=>(f a).bind g:=by
 induction x<;>simp_all[Sem.bind]
 rename_i h
 funext b
 cases b
 ·exact h.1
 ·exact h.2
instance lawfulSem:LawfulMonad Sem:=LawfulMonad.mk' (m:=Sem) (id_map:=fun x=>sem_bind_pure x) (pure_bind:=fun _ _=>rfl) (bind_assoc:=fun x f g=>sem_assoc x f g)
theorem run_mapList{α β:Type}{P:Program}{w:World}{f:α→Sem β}{g:α→β}:∀ (l:List α)(acc:Array β),(∀ x∈l,(f x).run P w= .ok (g x) w) →
 (l.foldlM (fun(bs:Array β) (x:α)=>do let y ← f x;pure (bs.push y)) acc).run P w= .ok (acc ++ (l.map g).toArray) w
 | [],acc,_=>by simp[Sem.run_pure]
 | x :: l,acc,h=>by
   simp only[List.foldlM_cons,Sem.run_bind,h x (mcS ..),Result.andThen_ok,Sem.run_pure];rw[run_mapList l _ fun y hy=>h y (mcM _ hy)]
   congr 1
   apply Array.toList_inj.1;simp
theorem run_mapM{α β:Type}{P:Program}{w:World}{f:α→Sem β}{g:α→β}(l:Array α)(h:∀ x∈l.toList,(f x).run P w= .ok (g x) w):(l.mapM f).run P w= .ok (l.map g) w:=by
 rw[Array.mapM_eq_foldlM,← Array.foldlM_toList];have:=run_mapList (P:=P) (w:=w) (f:=f) (g:=g) l.toList #[] h;simp only[map_eq_pure_bind];rw[this]
 congr 1
 apply Array.toList_inj.1;simp
section
variable {E:Env}{P:Program}{w:World}{G:Gh}{ρ:Ren}{h:T Blk}{n:Nat}{t:T Value}{a:Act}
theorem build_sim(K:EOk E P){ty:TypeId}{l:List (Nat×Value)}{ps:Array (Nat×Value)}(hl:PRel ρ l ps.toList):VSim ρ P w (buildA E ty l) (Instr.build ty ps):=by
 intro x hx;unfold buildA at hx;split at hx
 ·rename_i i hi;simp only[biE] at hx;split at hx
  ·rename_i hz;obtain⟨ti,t1,t2,t3,t4,t5⟩:=K.ty ty i hi;obtain⟨z,z1,z2,z3,z4,z5⟩:=t5 hz;have hcell:=cellsL_rel (lit_rel ρ 6 z z2);rw[z3] at hcell;simp only[Instr.build,Sem.run_bind,run_zero t1 z1,Result.andThen_ok,run_und t2];split at hx
   ·rename_i fs hd;split at hx
    ·rename_i cs hf;cases hx;rw[hd];simp only[Sem.run_bind];have hm:(fs.mapM fun f=>do pure (f.offset,← sizeOf f.type):Sem (Array (Nat×Nat))).run P w= .ok (fs.map fun f=>(f.offset,P.cellsOf f.type)) w:=by
      refine run_mapM fs fun f hf=>?_
      obtain⟨k,hk⟩:=List.getElem?_of_mem hf;obtain⟨j,hj⟩:=K.fld ty i fs k f hi hd (by simpa using hk);obtain⟨tj,j1,j2,j3,_⟩:=K.ty f.type j hj;simp[Sem.run_bind,run_size j1,Program.cellsOf,j1]
     rw[hm];simp only[Result.andThen_ok];obtain⟨c',f1,f2⟩:=fill_sim (place':=fun i=>(fs.map fun f=>(f.offset,P.cellsOf f.type))[i]?) (fun k x hx=>by
      simp only[fieldPlaces,nth_eq] at hx;split at hx
      ·rename_i f hf;split at hx
       ·rename_i j hj;cases hx;obtain⟨tj,j1,j2,j3,_⟩:=K.ty f.type j hj;have hf':fs[k]? =some f:=by simpa using hf
        simp[hf',Program.cellsOf,j1,j3]
       ·cases hx
      ·cases hx) hf hl hcell
     rw[f1];exact⟨_,by simp[Sem.run_pure],.mkAgg f2⟩
    ·cases hx
   ·rename_i m e hd;split at hx
    ·rename_i j hj;split at hx
     ·rename_i cs hf;cases hx;rw[hd];obtain⟨tj,j1,j2,j3,_⟩:=K.ty e j hj;simp only[Sem.run_bind,run_size j1,Result.andThen_ok];obtain⟨c',f1,f2⟩:=fill_sim (place':=fun i=>some (i * tj.size,tj.size)) (fun k x hx=>by rw[j3];exact hx) hf hl hcell;rw[f1];exact⟨_,by simp[Sem.run_pure],.mkAgg f2⟩
     ·cases hx
    ·cases hx
   ·cases hx
  ·cases hx
 ·cases hx
theorem repL_get{l:List Value}:∀ (n i:Nat),(repL l n)[i]? =if i<n * l.length then l[i % l.length]? else none
 | 0,i=>by simp[repL]
 | n+1,i=>by
   rw[repL,List.getElem?_append];split
   ·rename_i h;rw[if_pos (by rw[Nat.succ_mul];omega),Nat.mod_eq_of_lt h]
   ·rename_i h;rw[repL_get n,Nat.succ_mul];by_cases h':i-l.length<n * l.length
    ·rw[if_pos h',if_pos (by omega),← Nat.mod_eq_sub_mod (by omega)]
    ·rw[if_neg h',if_neg (by omega)]
theorem repL_length{l:List Value}:∀ (n:Nat),(repL l n).length=n * l.length
 | 0=>by simp[repL]
 | n+1=>by rw[repL,List.length_append,repL_length n,Nat.succ_mul];omega
theorem zeros_rel{zs:List Value}{z:Array Value}(hz:LRel ρ zs z.toList){m k:Nat}(hm:m=k * zs.length)(h0:0<zs.length) :
 LRel ρ (repL zs k) ((Array.range m).map fun i=>z[i % z.size]!).toList:=by
 have hs:zs.length=z.size:=hz.1.trans Array.length_toList;refine .of (by simp[repL_length,hm]) fun i x hx=>?_
 rw[repL_get] at hx;split at hx
 ·rename_i hi;obtain⟨y,h1,h2⟩:=hz.get hx;refine⟨y,?_,h2⟩;have hlt:i % z.size<z.size:=Nat.mod_lt _ (by omega);rw[hs] at h1;simp only[Array.toList_map,Array.toList_range,List.getElem?_map,List.getElem?_range (show i<m by omega),Option.map_some];rw[getElem!_pos z _ hlt];rw[Array.getElem?_toList,Array.getElem?_eq_getElem hlt] at h1;exact h1
 ·cases hx
theorem buildSlice_sim(K:EOk E P)(H:St G ρ h n w){ty:TypeId}{len:Nat}{l:List (Nat×Value)}{ps:Array (Nat×Value)}(hl:PRel ρ l ps.toList){cs:List Value}
 (hb:buildSliceA E ty len l=some cs) :
 OSim G ρ h n w (.val (.slice (some ⟨n,0,none⟩) len len) (newA h n (.cells cs)) (n+1)) ((do pure (.value (← Instr.buildSlice ty len ps)):Sem Next).run P w):=by
 unfold buildSliceA at hb;split at hb
 ·rename_i i hi;split at hb
  ·rename_i e hd;split at hb
   ·rename_i j hj;simp only[biE] at hb;split at hb
    ·rename_i hc;simp only[baT,bleT,beqT,bltT] at hc;obtain⟨⟨⟨c1,c2⟩,c3⟩,c4⟩:=hc;obtain⟨ti,t1,t2,t3,t4,t5⟩:=K.ty ty i hi;obtain⟨tj,j1,j2,j3,j4,j5⟩:=K.ty e j hj;obtain⟨z,z1,z2,z3,z4,z5⟩:=j5 c1;have hcell:=cellsL_rel (lit_rel ρ 6 z z2);rw[z3] at hcell;rw[hd] at t2;have hlen:len<UNK:=by
      have:len * 1≤len * j.size:=Nat.mul_le_mul_left _ c4;unfold UNK;omega
     have hrow:LRel ρ (repL j.zero len) (((Array.range (len * tj.size)).map fun i=>(if len * tj.size=0 then #[] else z.cells)[i % (if len * tj.size=0 then #[] else z.cells).size]!).toList):=by
      split
      ·rename_i h0;have hl0:len=0:=by
        rcases Nat.mul_eq_zero.1 h0 with h|h
        ·exact h
        ·omega
       subst hl0;simpa [repL] using LRel.nil ρ
      ·exact zeros_rel hcell (by rw[j3,c3]) (by omega)
     obtain⟨c',f1,f2⟩:=fill_sim (place':=fun i=>some (i * tj.size,tj.size)) (fun k x hx=>by rw[j3];exact hx) hb hl hrow;refine⟨_,_,.slice (some ⟨w.heap.size,0,none⟩) len len,?_,?_,row_sim' (e:=e) H f2 ⟨rfl,rfl⟩⟩
     ·simp only[Instr.buildSlice,Sem.run_bind,run_und t2,Result.andThen_ok,run_size j1];rw[if_neg (by rw[j3];omega)];by_cases h0:len * tj.size=0
      ·rw[if_pos h0] at f1;rw[if_pos h0];simp only[Sem.run_bind,Sem.run_pure,Result.andThen_ok];rw[f1];simp only[Sem.run_bind,push_row,Result.andThen_ok,Sem.run_pure]
      ·rw[if_neg h0] at f1;rw[if_neg h0];simp only[Sem.run_bind,Sem.run_pure,Result.andThen_ok,run_zero j1 z1];rw[f1];simp only[Sem.run_bind,push_row,Result.andThen_ok,Sem.run_pure]
     ·simpa using VRel.slice (o:=0) len len (Ren.add_same ρ n ⟨w.heap.size,0,c'.size⟩) hlen
    ·cases hb
   ·cases hb
  ·cases hb
 ·cases hb
end
section
variable {E:Env}{P:Program}{w:World}{G:Gh}{ρ:Ren}{h:T Blk}{n:Nat}{t:T Value}{a:Act}
theorem fieldAddr_sim(K:EOk E P){s:TypeId}{k f b o:Nat}(hf:fieldOff E s k=some f){q:Value}(hq:VRel ρ (.pointer (some ⟨b,o,none⟩)) q) :
 VSim ρ P w (some (.pointer (some ⟨b,o+f,none⟩))) (Instr.fieldAt s q k):=by
 intro x hx;cases hx;unfold fieldOff at hf;split at hf
 ·rename_i i hi;split at hf
  ·rename_i fs hd;split at hf
   ·rename_i fl hfl;split at hf
    ·rename_i j hj;simp only[biE,beqT] at hf;split at hf
     ·cases hf
     ·rename_i hsz;cases hf;obtain⟨ti,t1,t2,_⟩:=K.ty s i hi;obtain⟨tj,j1,j2,j3,_⟩:=K.ty fl.type j hj;rw[hd] at t2;have hfl':fs[k]? =some fl:=by rw[nth_eq] at hfl;simpa using hfl
      cases hq with
      | ptr hb =>
        rename_i L;simp only[Instr.fieldAt,Sem.run_bind,run_und t2,Result.andThen_ok,hfl',Instr.sureAddr,Sem.run_pure,fieldPlace,run_size j1];rw[if_neg (by rw[j3];exact hsz),add_eq rfl];simp only[Sem.run_pure,Result.andThen_ok,Nat.add_assoc];exact⟨_,rfl,.ptr hb⟩
    ·cases hf
   ·cases hf
  ·cases hf
 ·cases hf
theorem natV_some{v:Value}{hi k:Nat}(h:natV v hi=some k):∃ kd,v= .int kd (.ofNat k)∧k≤hi:=by
 unfold natV at h;split at h
 ·simp only[biE,bleT] at h;split at h
  ·cases h;exact⟨_,rfl,by assumption⟩
  ·cases h
 ·cases h
theorem VRel.int_inv{k:IntKind}{i:Int}{y:Value}(h:VRel ρ (.int k i) y):y= .int k i:=by cases h;rfl
theorem VRel.bool_inv{b:Bool}{y:Value}(h:VRel ρ (.bool b) y):y= .bool b:=by cases h;rfl
theorem VRel.string_inv{s:ByteArray}{y:Value}(h:VRel ρ (.string s) y):y= .string s:=by cases h;rfl
theorem indexAddr_sim(K:EOk E P){ty:TypeId}{v i q y:Value}(hv:VRel ρ v q)(hi:VRel ρ i y):VSim ρ P w (idxA E ty v i) (Instr.indexAt ty q y):=by
 intro x hx;unfold idxA at hx;split at hx
 ·rename_i ti hti;obtain⟨tt,t1,t2,_⟩:=K.ty ty ti hti;split at hx
  ·rename_i len e b o hd;split at hx
   ·rename_i j k hj hk;simp only[biE,bltT] at hx;split at hx
    ·rename_i hlt;cases hx;obtain⟨kd,rfl,_⟩:=natV_some hk;rw[hi.int_inv];obtain⟨tj,j1,j2,j3,_⟩:=K.ty e j hj;rw[hd] at t2;cases hv with
     | ptr hb =>
       rename_i L;have hc:(0:Int)≤Int.ofNat k∧Int.ofNat k<(len:Int):=⟨Int.natCast_nonneg k,Int.ofNat_lt.2 hlt⟩
       simp only[Instr.indexAt,asIntOf,Sem.run_bind,Sem.run_pure,Result.andThen_ok,run_und t2,Instr.sureAddr];rw[if_pos hc];simp only[Sem.run_bind,run_size j1,Result.andThen_ok,Sem.run_pure];rw[add_eq rfl,j3];simp only[Int.ofNat_eq_natCast,Int.toNat_natCast,Nat.add_assoc];exact⟨_,rfl,.ptr hb⟩
    ·cases hx
   ·cases hx
  ·rename_i e b o len cap hd;split at hx
   ·rename_i j k hj hk;simp only[biE,bltT] at hx;split at hx
    ·rename_i hlt;cases hx;obtain⟨kd,rfl,_⟩:=natV_some hk;rw[hi.int_inv];obtain⟨tj,j1,j2,j3,_⟩:=K.ty e j hj;rw[hd] at t2;have hc:(0:Int)≤Int.ofNat k∧Int.ofNat k<(len:Int):=⟨Int.natCast_nonneg k,Int.ofNat_lt.2 hlt⟩
     cases hv with
     | slice l c hb _ =>
       rename_i L;simp only[Instr.indexAt,asIntOf,Sem.run_bind,Sem.run_pure,Result.andThen_ok,run_und t2];rw[if_pos hc];simp only[Sem.run_bind,run_size j1,Result.andThen_ok,Sem.run_pure];rw[add_eq rfl,j3];simp only[Int.ofNat_eq_natCast,Int.toNat_natCast,Nat.add_assoc];exact⟨_,rfl,.ptr hb⟩
     | sliceU l hb hu hk hl hcc hs ho =>
       rename_i o' c' kk low L;have ho':o'=L.sh+o:=ho.resolve_left (by omega);subst ho';simp only[Instr.indexAt,asIntOf,Sem.run_bind,Sem.run_pure,Result.andThen_ok,run_und t2];rw[if_pos hc];simp only[Sem.run_bind,run_size j1,Result.andThen_ok,Sem.run_pure];rw[add_eq rfl,j3];simp only[Int.ofNat_eq_natCast,Int.toNat_natCast,Nat.add_assoc];exact⟨_,rfl,.ptr hb⟩
     | sliceZ a hb hk hz=>exact absurd hlt (Nat.not_lt_zero _)
    ·cases hx
   ·cases hx
  ·cases hx
 ·cases hx
theorem bytesEq_iff:∀ (a b:List UInt8),bytesEq a b=true↔a=b
 | [],[]=>by simp[bytesEq]
 | a :: x,b :: y=>by simp only[bytesEq,baT,beqT,bytesEq_iff x y,List.cons.injEq,UInt8.toNat_inj]
 | [],_ :: _=>by simp[bytesEq]
 | _ :: _,[]=>by simp[bytesEq]
theorem bytesLt_eq:∀ (a b:List UInt8),bytesLt a b=Op.bytesLess a b
 | _,[]=>by simp[bytesLt,Op.bytesLess]
 | [],_ :: _=>by simp[bytesLt,Op.bytesLess]
 | a :: x,b :: y=>by
   simp only[bytesLt,Op.bytesLess,bytesLt_eq x y];have h1:Nat.blt a.toNat b.toNat=decide (a<b):=by rw[Bool.eq_iff_iff,bltT];simp[UInt8.lt_iff_toNat_lt]
   have h2:Nat.beq a.toNat b.toNat=(a == b):=by rw[Bool.eq_iff_iff,beqT];simp[UInt8.toNat_inj]
   rw[h1,h2]
theorem index_sim(K:EOk E P){ty:TypeId}{ti:TyI}(hti:E.ty.get ty=some ti)(hd:ti.d= .string){s:ByteArray}{k y:Value}(hk:VRel ρ k y){j:Nat}(hj:natV k (s.size-1)=some j)
 {b:UInt8} (hb:nth s.data.toList j=some b):(Instr.index ty (.string s) y).run P w= .ok (.int .u8 b.toNat) w:=by
 obtain⟨tt,t1,t2,_⟩:=K.ty ty ti hti;obtain⟨kd,rfl,_⟩:=natV_some hj;rw[hk.int_inv];rw[hd] at t2;rw[nth_eq] at hb;have hsz:j<s.size:=by have:=(gsI hb).1;rw[Array.length_toList] at this;exact this
 have hget:s[j]? =some b:=by rw[getElem?_pos s j hsz];have:=(gsI hb).2;simpa [ByteArray.getElem_eq_getElem_data] using this
 unfold Instr.index;simp only[asIntOf,Sem.run_bind,Sem.run_pure,Result.andThen_ok];rw[run_und t2];simp only[Result.andThen_ok];have h0:(0:Int)≤Int.ofNat j:=Int.natCast_nonneg j;have ht:(Int.ofNat j).toNat=j:=rfl;rw[if_pos h0,ht,hget];rfl
theorem fitC_rel{k:CK}{v y:Value}(hf:fitC k v=true)(hv:VRel ρ v y):y=v:=by cases hv<;>first|rfl|(cases k<;>simp[fitC] at hf)
theorem fitsK_rel:∀ {ks:List CK}{vs ys:List Value},fitsK ks vs=true→LRel ρ vs ys→ys=vs
 | [],[],ys,_,h=>h.nil_left
 | [],_ :: _,ys,hf,_=>by simp[fitsK] at hf
 | _ :: _,[],ys,hf,_=>by simp[fitsK] at hf
 | k :: ks,v :: vs,ys,hf,h=>by simp only[fitsK,baT] at hf;obtain⟨y,ys',rfl,h1,h2⟩:=h.cons_left;rw[fitC_rel hf.1 h1,fitsK_rel hf.2 h2]
theorem agg_fit{ks:List CK}{xs:Array Value}{y:Value}(hf:fitsK ks xs.toList=true)(hv:VRel ρ (.agg xs) y):y= .agg xs:=by obtain⟨ys,rfl,hl⟩:=hv.agg_inv;have:=fitsK_rel hf hl;rw[Array.toList_inj.1 this]
theorem eqFlat_some{ks:List CK}{a b:List Value}{r:Bool}(h:eqFlat ks a b=some r):fitsK ks a=true∧fitsK ks b=true∧r=eqCs a b:=by
 simp only[eqFlat,biE] at h;split at h
 ·rename_i hc;simp only[baT] at hc;cases h;exact⟨hc.1,hc.2,rfl⟩
 ·cases h
section
variable {ty e:TypeId}(d:Nat)
theorem eqIn_bool(a b:Bool)(h:P.underlying ty=some .bool):(Op.equalIn (d+1) ty (.bool a) (.bool b)).run P w= .ok (a == b) w:=by simp[Op.equalIn,run_und h]
theorem eqIn_ptr(b:Option Addr)(h:P.underlying ty=some (.pointer e)):(Op.equalIn (d+1) ty (.pointer none) (.pointer b)).run P w= .ok b.isNone w:=by cases b<;>simp[Op.equalIn,run_und h]
theorem eqIn_ptr'(b:Addr)(h:P.underlying ty=some (.pointer e)):(Op.equalIn (d+1) ty (.pointer (some b)) (.pointer none)).run P w= .ok false w:=by simp[Op.equalIn,run_und h]
theorem eqIn_slice(l c m f:Nat)(b:Option Addr)(h:P.underlying ty=some (.slice e)):(Op.equalIn (d+1) ty (.slice none l c) (.slice b m f)).run P w= .ok b.isNone w:=by cases b<;>simp[Op.equalIn,run_und h]
theorem eqIn_slice'(l c m f:Nat)(b:Addr)(h:P.underlying ty=some (.slice e)):(Op.equalIn (d+1) ty (.slice (some b) l c) (.slice none m f)).run P w= .ok false w:=by simp[Op.equalIn,run_und h]
theorem eqIn_map{k:TypeId}(b:Option Nat)(h:P.underlying ty=some (.map k e)):(Op.equalIn (d+1) ty (.map none) (.map b)).run P w= .ok b.isNone w:=by cases b<;>simp[Op.equalIn,run_und h]
theorem eqIn_map'{k:TypeId}(b:Nat)(h:P.underlying ty=some (.map k e)):(Op.equalIn (d+1) ty (.map (some b)) (.map none)).run P w= .ok false w:=by simp[Op.equalIn,run_und h]
theorem eqIn_if0{ms:Array (String×TypeId)}(h:P.underlying ty=some (.interface ms)):(Op.equalIn (d+1) ty .nilIface .nilIface).run P w= .ok true w:=by simp[Op.equalIn,run_und h]
theorem eqIn_if1{ms:Array (String×TypeId)}(u:TypeId)(x:Value)(h:P.underlying ty=some (.interface ms)):(Op.equalIn (d+1) ty .nilIface (.iface u x)).run P w= .ok false w:=by simp[Op.equalIn,run_und h]
theorem eqIn_if2{ms:Array (String×TypeId)}(u:TypeId)(x:Value)(h:P.underlying ty=some (.interface ms)):(Op.equalIn (d+1) ty (.iface u x) .nilIface).run P w= .ok false w:=by simp[Op.equalIn,run_und h]
theorem eqIn_func0{p q:Array TypeId}{v:Bool}(h:P.underlying ty=some (.func p q v)):(Op.equalIn (d+1) ty .nilFunc .nilFunc).run P w= .ok true w:=by simp[Op.equalIn,run_und h]
theorem eqIn_func1{p q:Array TypeId}{v:Bool}(f:Fn)(x y:Array Value)(h:P.underlying ty=some (.func p q v)):(Op.equalIn (d+1) ty .nilFunc (.func f x y)).run P w= .ok false w:=by simp[Op.equalIn,run_und h]
theorem eqIn_func2{p q:Array TypeId}{v:Bool}(f:Fn)(x y:Array Value)(h:P.underlying ty=some (.func p q v)):(Op.equalIn (d+1) ty (.func f x y) .nilFunc).run P w= .ok false w:=by simp[Op.equalIn,run_und h]
end
theorem eqop_of{ty:TypeId}{q z:Value}{r:Bool}{op:BinOp}{xo yo:Operand}(hop:op= .eql∨op= .neq)(hq:binOp .eql ty q z=(do pure (.bool (← Op.equal ty q z))))(hn:binOp .neq ty q z=(do pure (.bool (!(← Op.equal ty q z)))))
 (hg:(eqGuard op ty xo yo q z).run P w= .ok () w) (he:(Op.equal ty q z).run P w= .ok r w):((do eqGuard op ty xo yo q z;binOp op ty q z):Sem Value).run P w= .ok (.bool (if op= .eql then r else !r)) w:=by
 rw[Sem.run_bind,hg,Result.andThen_ok];rcases hop with rfl|rfl
 ·rw[hq];simp[Sem.run_bind,he]
 ·rw[hn];simp[Sem.run_bind,he]
theorem eqA_sim(K:EOk E P){ty:TypeId}{c:Bool}{x y q z:Value}(hx:VRel ρ x q)(hy:VRel ρ y z){r:Bool}(h:eqA E ty c x y=some r){op:BinOp}(hop:op= .eql∨op= .neq)
 {xo yo:Operand} (hc:(isConstO xo||isConstO yo)=c):((do eqGuard op ty xo yo q z;binOp op ty q z):Sem Value).run P w= .ok (.bool (if op= .eql then r else !r)) w:=by
 have AG:∀ {a b:Array Value} {ks:List CK},x= .agg a→y= .agg b→flatKs ty E.flat=some ks→eqFlat ks a.toList b.toList=some r →
  ((do eqGuard op ty xo yo q z;binOp op ty q z):Sem Value).run P w= .ok (.bool (if op= .eql then r else !r)) w:=by
  intro a b ks ea eb hk hr;subst ea;subst eb;obtain⟨f1,f2,f3⟩:=eqFlat_some hr;have e1:=agg_fit f1 hx;have e2:=agg_fit f2 hy;subst e1;subst e2;obtain⟨l1,l2,l3⟩:=K.flat ty ks hk;refine eqop_of hop rfl rfl ?_ (f3▸l1 a b w f1 f2);rcases hop with rfl|rfl<;>simp[eqGuard,Sem.run_bind,program,Sem.run,l2]
 unfold eqA at h;split at h
 ·rename_i i hi;obtain⟨ti,t1,t2,_⟩:=K.ty ty i hi;split at h
  ·rename_i a b hd;rw[hd] at t2;cases h;cases hx;cases hy;exact eqop_of hop rfl rfl (by rcases hop with rfl|rfl<;>rfl) (eqIn_bool 9999 _ _ t2)
  ·rename_i hd;rw[hd] at t2;cases h;cases hx;cases hy;exact eqop_of hop rfl rfl (by rcases hop with rfl|rfl<;>rfl) (eqIn_ptr 9999 _ t2)
  ·rename_i hd;rw[hd] at t2;cases h;cases hx;cases hy;exact eqop_of hop rfl rfl (by rcases hop with rfl|rfl<;>rfl) (eqIn_ptr 9999 _ t2)
  ·rename_i hd;rw[hd] at t2;cases h;cases hx;cases hy;exact eqop_of hop rfl rfl (by rcases hop with rfl|rfl<;>rfl) (eqIn_ptr' 9999 _ t2)
  ·rename_i hd;rw[hd] at t2;cases h;cases hx;cases hy;exact eqop_of hop rfl rfl (by rcases hop with rfl|rfl<;>rfl) (eqIn_slice 9999 _ _ _ _ _ t2)
  ·rename_i hd;rw[hd] at t2;cases h;cases hx;cases hy
   ·exact eqop_of hop rfl rfl (by rcases hop with rfl|rfl<;>rfl) (eqIn_slice 9999 _ _ _ _ _ t2)
   ·exact eqop_of hop rfl rfl (by rcases hop with rfl|rfl<;>rfl) (eqIn_slice 9999 _ _ _ _ _ t2)
   ·exact eqop_of hop rfl rfl (by rcases hop with rfl|rfl<;>rfl) (eqIn_slice 9999 _ _ _ _ _ t2)
  ·rename_i hd;rw[hd] at t2;cases h;cases hy;cases hx
   ·exact eqop_of hop rfl rfl (by rcases hop with rfl|rfl<;>rfl) (eqIn_slice' 9999 _ _ _ _ _ t2)
   ·exact eqop_of hop rfl rfl (by rcases hop with rfl|rfl<;>rfl) (eqIn_slice' 9999 _ _ _ _ _ t2)
   ·exact eqop_of hop rfl rfl (by rcases hop with rfl|rfl<;>rfl) (eqIn_slice' 9999 _ _ _ _ _ t2)
  ·rename_i hd;rw[hd] at t2;cases h;cases hx;cases hy;exact eqop_of hop rfl rfl (by rcases hop with rfl|rfl<;>rfl) (eqIn_map 9999 _ t2)
  ·rename_i hd;rw[hd] at t2;cases h;cases hx;cases hy;exact eqop_of hop rfl rfl (by rcases hop with rfl|rfl<;>rfl) (eqIn_map 9999 _ t2)
  ·rename_i hd;rw[hd] at t2;cases h;cases hx;cases hy;exact eqop_of hop rfl rfl (by rcases hop with rfl|rfl<;>rfl) (eqIn_map' 9999 _ t2)
  ·rename_i hd;rw[hd] at t2;cases h;cases hx;cases hy;exact eqop_of hop rfl rfl (by rcases hop with rfl|rfl<;>rfl) (eqIn_func0 9999 t2)
  ·rename_i hd;rw[hd] at t2;cases h;cases hx;cases hy;exact eqop_of hop rfl rfl (by rcases hop with rfl|rfl<;>rfl) (eqIn_func1 9999 _ _ _ t2)
  ·rename_i hd;rw[hd] at t2;cases h;cases hx;cases hy;exact eqop_of hop rfl rfl (by rcases hop with rfl|rfl<;>rfl) (eqIn_func2 9999 _ _ _ t2)
  ·rename_i ms hd;rw[hd] at t2;simp only[biE] at h;split at h
   ·rename_i hcc;cases h;cases hx;cases hy;have C:∀ o:Operand,(match o with| .const _=>true|_=>false)=isConstO o:=fun o=>by cases o<;>rfl
    rw[hcc] at hc;refine eqop_of hop rfl rfl ?_ (eqIn_if0 9999 t2);rcases hop with rfl|rfl
    ·unfold eqGuard;cases xo<;>cases yo<;>first|rfl|(simp[isConstO] at hc)
    ·unfold eqGuard;cases xo<;>cases yo<;>first|rfl|(simp[isConstO] at hc)
   ·cases h
  ·rename_i hd;rw[hd] at t2;cases h;cases hx;cases hy;exact eqop_of hop rfl rfl (by rcases hop with rfl|rfl<;>rfl) (eqIn_if1 9999 _ _ t2)
  ·rename_i hd;rw[hd] at t2;cases h;cases hx;cases hy;exact eqop_of hop rfl rfl (by rcases hop with rfl|rfl<;>rfl) (eqIn_if2 9999 _ _ t2)
  ·rename_i a b hd;split at h
   ·rename_i ks hk;exact AG rfl rfl hk h
   ·cases h
  ·rename_i a b hd;split at h
   ·rename_i ks hk;exact AG rfl rfl hk h
   ·cases h
  ·cases h
 ·cases h
end
section
variable {E:Env}{P:Program}{w:World}{G:Gh}{ρ:Ren}{h:T Blk}{n:Nat}{t:T Value}{a:Act}
theorem guard_int{op:BinOp}{ty:TypeId}{xo yo:Operand}{j k:IntKind}{a b:Int}:(eqGuard op ty xo yo (.int j a) (.int k b)).run P w= .ok () w:=by unfold eqGuard;split<;>rfl
theorem guard_string{op:BinOp}{ty:TypeId}{xo yo:Operand}{a b:ByteArray}:(eqGuard op ty xo yo (.string a) (.string b)).run P w= .ok () w:=by unfold eqGuard;split<;>rfl
theorem kindEqT{j k:IntKind}:(kindEq j k=true)=(j=k):=by simp[kindEq]
theorem cmpA_sim{op:BinOp}{a b:Int}{v:Value}(h:cmpA op a b=some v):(Op.intCmp op a b).run P w= .ok v w∧VRel ρ v v:=by
 cases op<;>simp only[cmpA] at h<;>first|(cases h;done)|skip
 all_goals
  cases h;refine⟨?_,.bool _⟩
  first|rfl|skip
 all_goals
  simp only[Op.intCmp,Sem.run_pure]
  congr 2
  try (apply Bool.eq_iff_iff.2;simp;done)
theorem binInt_sim{op:BinOp}{ty:TypeId}{c:Bool}{j k:IntKind}{a b:Int}{v:Value}(h:binA E op ty c (.int j a) (.int k b)=some v) :
 (binOp op ty (.int j a) (.int k b)).run P w= .ok v w∧VRel ρ v v:=by
 have L:∀ q:Value,(∃ kd m,q= .int kd m)→v=q→VRel ρ v v:=by rintro q ⟨kd,m,rfl⟩ rfl;exact .int _ _
 cases op<;>simp only[binA,biE,kindEqT] at h
 case shl =>
  split at h
  ·rename_i s;cases h;refine⟨?_,.int _ _⟩;have hs:¬ ((Int.ofNat s)<0):=by simp
   simp only[binOp,Op.shift];rw[if_neg hs];rfl
  ·cases h
 case shr =>
  split at h
  ·rename_i s;cases h;refine⟨?_,.int _ _⟩;have hs:¬ ((Int.ofNat s)<0):=by simp
   simp only[binOp,Op.shift];rw[if_neg hs];rfl
  ·cases h
 case quo =>
  split at h
  ·rename_i hc;simp[kindEqT] at hc;cases h;obtain⟨rfl,hb⟩:=hc;refine⟨?_,.int _ _⟩;simp[binOp,Op.intDiv,hb,Sem.run_pure]
  ·cases h
 case rem =>
  split at h
  ·rename_i hc;simp[kindEqT] at hc;cases h;obtain⟨rfl,hb⟩:=hc;refine⟨?_,.int _ _⟩;simp[binOp,Op.intDiv,hb,Sem.run_pure]
  ·cases h
 all_goals
  split at h
  ·rename_i hc;subst hc
   first
    | (simp[cmpA] at h;done)
    | (cases h
       exact⟨by simp[binOp,Op.intArith,Op.intBits,Sem.run_pure],.int _ _⟩)
    | (obtain⟨h1,h2⟩:=cmpA_sim (P:=P) (w:=w) (ρ:=ρ) h
       refine⟨?_,h2⟩;rw[←h1]
       congr 1
       simp[binOp])
  ·cases h
theorem binString_sim{op:BinOp}{ty:TypeId}{c:Bool}{a b:ByteArray}{v:Value}(h:binA E op ty c (.string a) (.string b)=some v) :
 (binOp op ty (.string a) (.string b)).run P w= .ok v w∧VRel ρ v v:=by
 have e1:bytesEq a.data.toList b.data.toList=(a.toList == b.toList):=by rw[Bool.eq_iff_iff,bytesEq_iff];simp[ByteArray.toList_eq]
 have e2:bytesLt a.data.toList b.data.toList=Op.bytesLess a.toList b.toList:=by rw[bytesLt_eq];simp[ByteArray.toList_eq]
 cases op<;>simp only[binA] at h
 all_goals first|(cases h;done)|skip
 all_goals
  cases h;refine⟨?_,.bool _⟩
  try rw[e1]
  try rw[e2]
  rfl
theorem binOp_sim(K:EOk E P){op:BinOp}{ty:TypeId}{xo yo:Operand}{x y q z:Value}(hx:VRel ρ x q)(hy:VRel ρ y z) :
 VSim ρ P w (binA E op ty (isConstO xo||isConstO yo) x y) (do eqGuard op ty xo yo q z;binOp op ty q z):=by
 intro v hv;have gen:(∀ j a k b,¬ (x= .int j a∧y= .int k b))→(∀ a b,¬ (x= .string a∧y= .string b)) →
  ∃ r,eqA E ty (isConstO xo||isConstO yo) x y=some r∧(op= .eql∨op= .neq)∧v= .bool (if op= .eql then r else !r):=by
  intro h1 h2;unfold binA at hv;split at hv
  ·exact absurd ⟨rfl,rfl⟩ (h1 _ _ _ _)
  ·exact absurd ⟨rfl,rfl⟩ (h2 _ _)
  ·split at hv
   ·split at hv
    ·rename_i r hr;cases hv;exact⟨r,hr,.inl rfl,rfl⟩
    ·cases hv
   ·split at hv
    ·rename_i r hr;cases hv;exact⟨r,hr,.inr rfl,rfl⟩
    ·cases hv
   ·cases hv
 by_cases h1:∃ j a k b,x= .int j a∧y= .int k b
 ·obtain⟨j,a,k,b,rfl,rfl⟩:=h1;rw[hx.int_inv,hy.int_inv];obtain⟨e1,e2⟩:=binInt_sim (P:=P) (w:=w) (ρ:=ρ) hv;exact⟨v,by rw[Sem.run_bind,guard_int,Result.andThen_ok,e1],e2⟩
 ·by_cases h2:∃ a b,x= .string a∧y= .string b
  ·obtain⟨a,b,rfl,rfl⟩:=h2;rw[hx.string_inv,hy.string_inv];obtain⟨e1,e2⟩:=binString_sim (P:=P) (w:=w) (ρ:=ρ) hv;exact⟨v,by rw[Sem.run_bind,guard_string,Result.andThen_ok,e1],e2⟩
  ·obtain⟨r,hr,hop,rfl⟩:=gen (fun j a k b h=>h1 ⟨j,a,k,b,h⟩) (fun a b h=>h2 ⟨a,b,h⟩);exact⟨_,eqA_sim K hx hy hr hop rfl,.bool _⟩
theorem unOp_sim{op:UnOp}{x q:Value}(hx:VRel ρ x q):VSim ρ P w (unA op x) (Op.unary op q):=by
 intro v hv;unfold unA at hv;split at hv
 ·cases hv;rw[hx.bool_inv];exact⟨_,rfl,.bool _⟩
 ·cases hv;rw[hx.int_inv];exact⟨_,rfl,.int _ _⟩
 ·cases hv
theorem convert_sim(K:EOk E P){src dst:TypeId}(hs:(E.ty.get src).isSome=true){x q:Value}(hx:VRel ρ x q):VSim ρ P w (convA E dst x) (convert src dst q):=by
 intro v hv;unfold convA at hv;split at hv
 ·rename_i i hi;obtain⟨ti,t1,t2,_⟩:=K.ty dst i hi;obtain⟨j,hj⟩:=Option.isSome_iff_exists.1 hs;obtain⟨tj,j1,j2,_⟩:=K.ty src j hj;split at hv
  ·rename_i k kd m hd;cases hv;rw[hd] at t2;rw[hx.int_inv];refine⟨_,?_,.int _ _⟩;unfold convert;simp only[Sem.run_bind,run_und j2,run_und t2,Result.andThen_ok];rfl
  ·rename_i s hd;cases hv;rw[hd] at t2;rw[hx.string_inv];refine⟨_,?_,.string _⟩;unfold convert;simp only[Sem.run_bind,run_und j2,run_und t2,Result.andThen_ok];rfl
  ·cases hv
 ·cases hv
theorem extract_sim{vs:Array Value}{k:Nat}{q:Value}(hx:VRel ρ (.tuple vs) q):VSim ρ P w (nth vs.toList k) (Instr.extract q k):=by
 intro v hv;obtain⟨us,rfl,hl⟩:=hx.tuple_inv;rw[nth_eq] at hv;obtain⟨y,h1,h2⟩:=hl.get hv;have h1':us[k]? =some y:=by simpa using h1
 exact⟨y,by simp[Instr.extract,h1',Sem.run_pure],h2⟩
theorem makeInterface_sim(K:EOk E P){ty:TypeId}{i:TyI}(hi:E.ty.get ty=some i)(hd:∀ m,i.d≠ .interface m){x q:Value}(hx:VRel ρ x q) :
 (Instr.makeInterface ty q).run P w= .ok (.iface ty q) w:=by
 obtain⟨ti,t1,t2,_⟩:=K.ty ty i hi;unfold Instr.makeInterface;simp only[Sem.run_bind,run_und t2,Result.andThen_ok];cases hdd:i.d<;>first|rfl|exact absurd hdd (hd _)
theorem makeMap_sim(H:St G ρ h n w){ty:TypeId} :
 OSim G ρ h n w (.val (.map (some n)) (newA h n (.map [])) (n+1)) ((do pure (.value (← Instr.makeMap ty none)):Sem Next).run P w):=by
 refine⟨ρ.add n ⟨w.heap.size,0,0⟩,{w with heap:=w.heap.push (.map #[] 0)},.map (some w.heap.size),rfl,.map (Ren.add_same ρ n _),?_⟩;exact H.alloc rfl (HPush.mk' w _) ⟨#[],0,rfl,⟨.nil,[],.refl _,rfl,.nil _⟩,MapKept.stamped_empty 0⟩
theorem askRoom_any{b:Nat}:(askRoom b).run P w= .ok () w:=by unfold askRoom;split<;>rfl
theorem wrap_nat{k:Nat}(h:k<2 ^ 63):IntKind.i64.wrap (Int.ofNat k)=Int.ofNat k:=by have h2:Int.ofNat k=(k:Int):=rfl;rw[h2];simp[IntKind.wrap,IntKind.bits,IntKind.signed];omega
end
section
variable {E:Env}{P:Program}{w:World}{G:Gh}{ρ:Ren}{h:T Blk}{n:Nat}{t:T Value}{a:Act}
theorem makeSlice_sim(K:EOk E P)(H:St G ρ h n w){ty:TypeId}{lv cv q1 q2 v:Value}{cs:List Value}(hl:VRel ρ lv q1)(hc:VRel ρ cv q2)(hm:makeSliceA E ty lv cv n=some (v,cs)) :
 OSim G ρ h n w (.val v (newA h n (.cells cs)) (n+1)) ((do pure (.value (← Instr.makeSlice ty q1 q2)):Sem Next).run P w):=by
 unfold makeSliceA at hm;split at hm
 ·rename_i i hi;split at hm
  ·rename_i e hd;split at hm
   ·rename_i j c hj hcv;split at hm
    ·rename_i l hlv;simp only[biE] at hm;split at hm
     ·rename_i hcond;simp only[baT,bleT,beqT,bltT] at hcond;obtain⟨⟨⟨c1,c2⟩,c3⟩,c4⟩:=hcond;cases hm;obtain⟨kc,rfl,hc1⟩:=natV_some hcv;obtain⟨kl,rfl,hl1⟩:=natV_some hlv;rw[hl.int_inv,hc.int_inv];obtain⟨ti,t1,t2,t3,t4,t5⟩:=K.ty ty i hi;obtain⟨tj,j1,j2,j3,j4,j5⟩:=K.ty e j hj;obtain⟨z,z1,z2,z3,z4,z5⟩:=j5 c1;have hcell:=cellsL_rel (lit_rel ρ 6 z z2);rw[z3] at hcell;rw[hd] at t2;have hw1:IntKind.i64.wrap (Int.ofNat l)=Int.ofNat l:=wrap_nat (by omega);have hw2:IntKind.i64.wrap (Int.ofNat c)=Int.ofNat c:=wrap_nat (by omega);have hb:(tj.bytes:Int) * Int.ofNat c≤2 ^ 48:=by
       have h1:tj.bytes * c≤4096 * 1000000000:=Nat.mul_le_mul (by rw[j4];exact c2) hc1;have h2:(tj.bytes:Int) * Int.ofNat c=((tj.bytes * c:Nat):Int):=by simp
       rw[h2];omega
      have hno:(decide (Int.ofNat c<0)||decide ((tj.bytes:Int) * Int.ofNat c>2 ^ 48)||decide (Int.ofNat l<0)||decide (Int.ofNat l>Int.ofNat c))=false:=by
       simp only[Bool.or_eq_false_iff,decide_eq_false_iff_not];refine⟨⟨⟨?_,?_⟩,?_⟩,?_⟩
       ·simp
       ·omega
       ·simp
       ·simp;omega
      have hrow:LRel ρ (repL j.zero c) (((Array.range (c * tj.size)).map fun i=>(if c * tj.size=0 then #[] else z.cells)[i % (if c * tj.size=0 then #[] else z.cells).size]!).toList):=by
       split
       ·rename_i h0;have hl0:c=0:=by
         rcases Nat.mul_eq_zero.1 h0 with h|h
         ·exact h
         ·omega
        subst hl0;simpa [repL] using LRel.nil ρ
       ·exact zeros_rel hcell (by rw[j3,c3]) (by omega)
      refine⟨_,_,.slice (some ⟨w.heap.size,0,none⟩) l c,?_,?_,row_sim' (e:=e) H hrow ⟨rfl,rfl⟩⟩
      ·simp only[Instr.makeSlice,Sem.run_bind,run_und t2,Result.andThen_ok,asInt,asIntOf,Sem.run_pure,run_info j1,hw1,hw2,hno];simp only[Bool.false_eq_true,if_false,Sem.run_bind,askRoom_any,Result.andThen_ok,run_size j1];have e1:(Int.ofNat c).toNat=c:=rfl;have e2:(Int.ofNat l).toNat=l:=rfl;rw[e1,e2];by_cases h0:c * tj.size=0
       ·rw[if_pos h0,if_pos h0];simp only[Sem.run_bind,Sem.run_pure,Result.andThen_ok,push_row]
       ·rw[if_neg h0,if_neg h0];simp only[Sem.run_bind,Sem.run_pure,Result.andThen_ok,run_zero j1 z1,push_row]
      ·simpa using VRel.slice (o:=0) l c (Ren.add_same ρ n ⟨w.heap.size,0,((Array.range (c * tj.size)).map fun i=>(if c * tj.size=0 then #[] else z.cells)[i % (if c * tj.size=0 then #[] else z.cells).size]!).size⟩) (by unfold UNK;omega)
     ·cases hm
    ·cases hm
   ·cases hm
  ·cases hm
 ·cases hm
def ORel(ρ:Ren):Option Value→Option Value→Prop
 | none,none=>True
 | some x,some y=>VRel ρ x y
 | _,_=>False
theorem evOpt_sim(H:WRel G ρ h w)(hg:E.glob≤G.ng)(ht:TR ρ t a.tmps){x:Option Operand}{v:Option Value}(hx:evOpt E t x=some v):ORel ρ v (x.map a.eval):=by
 cases x with
 | none=>cases hx;exact trivial
 | some x =>
   simp only[evOpt] at hx;split at hx
   ·rename_i u hu;cases hx;exact ev_sim H hg ht hu
   ·cases hx
theorem bound_sim{v q:Value}(hv:VRel ρ v q){hi k c:Nat}(h:natV v hi=some k)(hc:hi≤c)(code:BoundsCode):(Instr.sliceBound q c code).run P w= .ok k w:=by obtain⟨kd,rfl,hk⟩:=natV_some h;rw[hv.int_inv];unfold Instr.sliceBound;simp only[asIntOf,Sem.run_bind,Sem.run_pure,Result.andThen_ok];rw[if_pos ⟨Int.natCast_nonneg k,Int.ofNat_le.2 (Nat.le_trans hk hc)⟩];rfl
theorem low_sim{lo lo':Option Value}(h1:ORel ρ lo lo'){h' m' l hh m:Nat}(m2:Nat)(code:BoundsCode)(hlow:boundsA.low h' m' lo=some (l,hh,m)):h'=hh∧m'=m∧l≤hh ∧
 ((match (generalizing:=false) lo' with
   | some v=>do
     let l ← Instr.sliceBound v h' code
     pure (l,h',m2)
   | none=>do
     let l ← pure 0
     pure (l,h',m2)):Sem (Nat×Nat×Nat)).run P w= .ok (l,hh,m2) w:=by
 unfold boundsA.low at hlow;cases lo with
 | none =>
   cases lo' with
   | none=>simp at hlow;obtain⟨rfl,rfl,rfl⟩:=hlow;exact⟨rfl,rfl,Nat.zero_le _,rfl⟩
   | some _=>exact h1.elim
 | some v =>
   cases lo' with
   | none=>exact h1.elim
   | some v' =>
     simp only at hlow;split at hlow
     ·rename_i l' hl';simp at hlow;obtain⟨rfl,rfl,rfl⟩:=hlow;refine⟨rfl,rfl,(natV_some hl').choose_spec.2,?_⟩;simp only[Sem.run_bind];rw[bound_sim h1 hl' (nlR _)];rfl
     ·cases hlow
theorem bounds_sim{len cap cap':Nat}{lo hi mx lo' hi' mx':Option Value}(h1:ORel ρ lo lo')(h2:ORel ρ hi hi')(h3:ORel ρ mx mx'){l hh m:Nat}(hb:boundsA len cap lo hi mx=some (l,hh,m))
 (hc:cap≤cap') (b:Bool) :
 (Instr.sliceBounds b len cap' lo' hi' mx').run P w= .ok (l,hh,if mx.isSome then m else cap') w∧l≤hh∧(hi=none→hh=len)∧(hi≠none→hh≤m)∧m≤cap∧(mx=none→m=cap):=by
 unfold boundsA at hb;cases mx with
 | none =>
   cases mx' with
   | some _=>exact h3.elim
   | none =>
     cases hi with
     | none =>
       cases hi' with
       | some _=>exact h2.elim
       | none =>
         obtain⟨e1,e2,e3,e4⟩:=low_sim (P:=P) (w:=w) h1 cap' .sliceB hb;subst e1;subst e2;refine⟨?_,e3,fun _=>rfl,fun h=>absurd rfl h,nlR _,fun _=>rfl⟩;unfold Instr.sliceBounds;simp only[Sem.run_bind,Sem.run_pure,Result.andThen_ok,Option.isSome_none,Bool.false_eq_true,if_false];exact e4
     | some v =>
       cases hi' with
       | none=>exact h2.elim
       | some v' =>
         simp only at hb;split at hb
         ·rename_i h' hh';obtain⟨e1,e2,e3,e4⟩:=low_sim (P:=P) (w:=w) h1 cap' .sliceB hb;subst e1;subst e2;refine⟨?_,e3,(fun h=>by cases h),fun _=>(natV_some hh').choose_spec.2,nlR _,fun _=>rfl⟩;unfold Instr.sliceBounds;simp only[Sem.run_bind,Sem.run_pure,Result.andThen_ok,Option.isSome_none,Bool.false_eq_true,if_false];rw[bound_sim h2 hh' hc];simp only[Result.andThen_ok];exact e4
         ·cases hb
 | some u =>
   cases mx' with
   | none=>exact h3.elim
   | some u' =>
     cases hi with
     | none=>simp at hb
     | some v =>
       cases hi' with
       | none=>exact h2.elim
       | some v' =>
         simp only at hb;split at hb
         ·rename_i m' hm';split at hb
          ·rename_i h' hh';obtain⟨e1,e2,e3,e4⟩:=low_sim (P:=P) (w:=w) h1 m' .slice3C hb;subst e1;subst e2;refine⟨?_,e3,(fun h=>by cases h),fun _=>(natV_some hh').choose_spec.2,(natV_some hm').choose_spec.2,(fun h=>by cases h)⟩;unfold Instr.sliceBounds;simp only[Sem.run_bind,Result.andThen_ok,Option.isSome_some,if_true];rw[bound_sim h3 hm' hc];simp only[Result.andThen_ok];rw[bound_sim h2 hh' (nlR _)];simp only[Result.andThen_ok];exact e4
          ·cases hb
         ·cases hb
theorem lowCap_lt{c:Nat}(h:¬ UNK≤c):lowCap c=c:=Nat.mod_eq_of_lt (by omega)
theorem lowCap_u{k low:Nat}(h:low<UNK):lowCap (UNK * k+low)=low:=by rw[lowCap,Nat.mul_add_mod,Nat.mod_eq_of_lt h]
theorem divCap_u{k low:Nat}(h:low<UNK):(UNK * k+low) / UNK=k:=by rw[Nat.mul_add_div (by decide),Nat.div_eq_of_lt h];rfl
theorem slice_sim(K:EOk E P){ty:TypeId}{x q:Value}{lo hi mx lo' hi' mx':Option Value}(hx:VRel ρ x q)(h1:ORel ρ lo lo')(h2:ORel ρ hi hi')(h3:ORel ρ mx mx') :
 VSim ρ P w (sliceA E ty x lo hi mx) (Instr.sliceAt ty q lo' hi' mx'):=by
 intro v hv;unfold sliceA at hv;split at hv
 ·rename_i ti hti;obtain⟨tt,t1,t2,_⟩:=K.ty ty ti hti;split at hv
  ·rename_i s hd;rw[hd] at t2;rw[hx.string_inv];split at hv
   ·rename_i l hh m hb;cases hv;cases mx' with
    | some _=>exact h3.elim
    | none =>
      obtain⟨b1,_⟩:=bounds_sim (P:=P) (w:=w) h1 h2 h3 hb (nlR _) false;refine⟨_,?_,.string _⟩;unfold Instr.sliceAt;simp only[Sem.run_bind,run_und t2,Result.andThen_ok];unfold Instr.slice;simp only[Sem.run_bind,run_und t2,Result.andThen_ok,Option.isSome_none,Bool.false_eq_true,if_false,Sem.run_pure];rw[b1];simp only[Result.andThen_ok,Sem.run_pure]
      congr 2
      apply ByteArray.ext;rw[ByteArray.data_extract];apply Array.toList_inj.1;simp[Array.toList_extract]
   ·cases hv
  ·rename_i e a len cap hd;rw[hd] at t2;have base:∀ {a':Option Addr} {cap' l hh m:Nat},(Instr.sliceBounds true len cap' lo' hi' mx').run P w= .ok (l,hh,m) w→∀ {tj:TypeInfo},P.info? e=some tj →
    (Instr.sliceAt ty (.slice a' len cap') lo' hi' mx').run P w= .ok (.slice (if m=l then a' else a'.map (·.add (l * tj.size))) (hh-l) (m-l)) w:=by
    intro a' cap' l hh m hb tj hj;unfold Instr.sliceAt;simp only[Sem.run_bind,run_und t2,Result.andThen_ok];unfold Instr.slice;simp only[Sem.run_bind,run_und t2,Result.andThen_ok];rw[hb];simp only[Result.andThen_ok,Sem.run_bind,run_size hj,Sem.run_pure]
   split at hv
   ·rename_i j l hh m hj hb;obtain⟨tj,j1,j2,j3,_⟩:=K.ty e j hj;cases hx with
    | slice0 =>
      simp only[biE,unkCap,bleT] at hv;split at hv
      ·cases hv
      ·rename_i hnu;cases hv;rw[lowCap_lt hnu] at hb;obtain⟨b1,b2,b3,b4,b5,b6⟩:=bounds_sim (P:=P) (w:=w) h1 h2 h3 hb (nlR _) true;have hm:(if mx.isSome=true then m else cap)=m:=by
        cases mx with
        | none=>simp[b6 rfl]
        | some _=>rfl
       rw[hm] at b1;exact⟨_,by rw[base b1 j1];simp,.slice0 _ _⟩
    | slice l0 c hb0 hc =>
      rename_i b o L;have hnu:¬ UNK≤cap:=by omega
      rw[lowCap_lt hnu] at hb;obtain⟨b1,b2,b3,b4,b5,b6⟩:=bounds_sim (P:=P) (w:=w) h1 h2 h3 hb (nlR _) true;have hm:(if mx.isSome=true then m else cap)=m:=by
       cases mx with
       | none=>simp[b6 rfl]
       | some _=>rfl
      rw[hm] at b1;simp only[biE,unkCap,bleT,if_neg hnu,beqT] at hv;split at hv
      ·rename_i hml;cases hv;refine⟨_,base b1 j1,?_⟩;rw[if_pos hml,hml,Nat.sub_self];exact .slice _ _ hb0 (by unfold UNK;omega)
      ·rename_i hml;cases hv;refine⟨_,base b1 j1,?_⟩;rw[if_neg hml,Option.map_some,add_eq rfl,j3,Nat.add_assoc];exact .slice _ _ hb0 (by omega)
    | sliceU l0 hb0 hu hk hl hc hs ho =>
      rename_i b o o' c' k low L;have hu':UNK≤UNK * k+low:=by have:=Nat.mul_le_mul_left UNK hk;omega
      rw[lowCap_u hu] at hb hv;obtain⟨b1,b2,b3,b4,b5,b6⟩:=bounds_sim (P:=P) (w:=w) (cap':=c') h1 h2 h3 hb hc true;simp only[biE,unkCap,bleT,if_pos hu',beqT,divCap_u hu] at hv;cases mx with
      | none =>
        simp only at hv;split at hv
        ·rename_i hkj;cases hv;have hml:=b6 rfl;subst hml;have hhl:hh≤m:=by
          cases hi with
          | none=>rw[b3 rfl];exact hl
          | some _=>exact b4 (by simp)
         refine⟨_,base b1 j1,?_⟩;simp only[Option.isSome_none,Bool.false_eq_true,if_false];rw[show UNK * k+m-l=UNK * k+(m-l) by omega];by_cases hcl:c'=l
         ·rw[if_pos hcl];exact .sliceU _ hb0 (by omega) hk (by omega) (by omega) (by rw[hcl] at hs ⊢;simp;exact Nat.le_trans (Nat.le_add_right _ _) hs) (.inl (by omega))
         ·rw[if_neg hcl,Option.map_some,add_eq rfl,j3];refine .sliceU _ hb0 (by omega) hk (by omega) (by omega) ?_ ?_
          ·have h5:c' * k=l * k+(c'-l) * k:=by rw[←Nat.add_mul];congr 1;omega
           simp only;rw[←hkj];omega
          ·rcases ho with h0|h0
           ·exact .inl (by omega)
           ·exact .inr (by simp only;rw[h0,Nat.add_assoc])
        ·cases hv
      | some u =>
        simp only at hv;split at hv
        ·cases hv
        ·rename_i hlow;have ho':o'=L.sh+o:=ho.resolve_left hlow;subst ho';split at hv
         ·rename_i hml;cases hv;refine⟨_,base b1 j1,?_⟩;simp only[Option.isSome_some,if_true];rw[if_pos hml,hml,Nat.sub_self];exact .slice _ _ hb0 (by unfold UNK;omega)
         ·rename_i hml;cases hv;refine⟨_,base b1 j1,?_⟩;simp only[Option.isSome_some,if_true];rw[if_neg hml,Option.map_some,add_eq rfl,j3,Nat.add_assoc];exact .slice _ _ hb0 (by omega)
    | sliceZ a hb0 hk hz =>
      rename_i b o k low L;have hu:low<UNK:=by rw[hz];decide
      have hu':UNK≤UNK * k+low:=by have:=Nat.mul_le_mul_left UNK hk;omega
      rw[lowCap_u hu] at hb hv;obtain⟨b1,b2,b3,b4,b5,b6⟩:=bounds_sim (P:=P) (w:=w) (cap':=0) h1 h2 h3 hb (by omega) true;simp only[biE,unkCap,bleT,if_pos hu',beqT,divCap_u hu] at hv;cases mx with
      | none =>
        simp only at hv;split at hv
        ·rename_i hkj;cases hv;have hh0:hh=0:=by
          cases hi with
          | none=>exact b3 rfl
          | some _=>have:=b4 (by simp);omega
         have hl0:l=0:=by omega
         have hml:=b6 rfl;subst hml;refine⟨_,base b1 j1,?_⟩;simp only[Option.isSome_none,Bool.false_eq_true,if_false];subst hl0;subst hh0;rw[if_pos rfl];exact .sliceZ a hb0 hk (by omega)
        ·cases hv
      | some u =>
        simp only at hv;split at hv
        ·cases hv
        ·rename_i hlow;exact absurd hz hlow
   ·cases hv
  ·cases hv
 ·cases hv
theorem sliceArr_sim(K:EOk E P){ty:TypeId}{x q:Value}{lo hi mx lo' hi' mx':Option Value}(hx:VRel ρ x q)(h1:ORel ρ lo lo')(h2:ORel ρ hi hi')(h3:ORel ρ mx mx') :
 VSim ρ P w (sliceArrA E ty x lo hi mx) (Instr.sliceAt ty q lo' hi' mx'):=by
 intro v hv;unfold sliceArrA at hv;split at hv
 ·rename_i ti hti;obtain⟨tt,t1,t2,_⟩:=K.ty ty ti hti;split at hv
  ·rename_i n e b o hd;rw[hd] at t2;split at hv
   ·rename_i j l hh m hj hb;obtain⟨tj,j1,j2,j3,_⟩:=K.ty e j hj;obtain⟨b1,b2,b3,b4,b5,b6⟩:=bounds_sim (P:=P) (w:=w) h1 h2 h3 hb (nlR _) false;have hm:(if mx.isSome=true then m else n)=m:=by
     cases mx with
     | none=>simp[b6 rfl]
     | some _=>rfl
    rw[hm] at b1;simp only[biE,bleT,beqT] at hv;cases hx with
    | ptr hb0 =>
      rename_i L;have base:(Instr.sliceAt ty (.pointer (some ⟨L.blk,L.sh+o,none⟩)) lo' hi' mx').run P w =
       .ok (.slice (some (if m=l then ⟨L.blk,L.sh+o,none⟩ else (⟨L.blk,L.sh+o,none⟩:Addr).add (l * tj.size))) (hh-l) (m-l)) w:=by
       unfold Instr.sliceAt;simp only[Sem.run_bind,run_und t2,Result.andThen_ok,Instr.sureAddr,Sem.run_pure];rw[b1];simp only[Result.andThen_ok,Sem.run_bind,run_size j1,Sem.run_pure]
      split at hv
      ·cases hv
      ·rename_i hn;split at hv
       ·rename_i hml;cases hv;refine⟨_,base,?_⟩;rw[if_pos hml,hml,Nat.sub_self];exact .slice _ _ hb0 (by unfold UNK;omega)
       ·rename_i hml;cases hv;refine⟨_,base,?_⟩;rw[if_neg hml,add_eq rfl,j3,Nat.add_assoc];exact .slice _ _ hb0 (by omega)
   ·cases hv
  ·cases hv
 ·cases hv
end
section
variable {E:Env}{P:Program}{w:World}{G:Gh}{ρ:Ren}{h:T Blk}{n:Nat}{t:T Value}{a:Act}
def isIntD:TypeDesc→Bool
 | .int _=>true
 | _=>false
theorem rowA_len{size m l c:Nat}{b:Option Addr}{r:List Value}(hr:rowA h size m (.slice b l c)=some r):r.length=m * size:=by
 unfold rowA at hr;split at hr
 ·simp only[biE,beqT] at hr;split at hr
  ·rename_i h0;cases hr;simp[h0]
  ·cases hr
 ·split at hr
  ·exact(seg_some hr).1
  ·cases hr
 ·cases hr
theorem row_first(H:WRel G ρ h w){size m l c:Nat}{b:Option Addr}{q:Value}(hq:VRel ρ (.slice b l c) q)(hm:m≤l){r:List Value}(hr:rowA h size m (.slice b l c)=some r) :
 ∃ y:Array Value,(Builtin.firstCells size m q).run P w= .ok y w∧LRel ρ r y.toList:=by
 cases hq with
 | slice0 =>
   simp only[rowA,biE,beqT] at hr;split at hr
   ·cases hr;exact⟨#[],rfl,.nil ρ⟩
   ·cases hr
 | slice l0 c0 hb hc =>
   rename_i b o L;simp only[rowA] at hr;split at hr
   ·rename_i cs hcs;have key:∃ c e fr,w.heap[L.blk]? =some (.cells c e fr)∧CellsRel ρ cs L c:=by
     unfold cellsOf at hcs;split at hcs
     ·rename_i hk;cases hcs;obtain⟨c,e,fr,k1,_,k3⟩:=H.blk b L _ hb hk;exact⟨c,e,fr,k1,k3⟩
     ·rename_i hk;cases hcs;obtain⟨c,e,fr,k1,k3⟩:=H.blk b L _ hb hk;exact⟨c,e,fr,k1,k3⟩
     ·cases hcs
    obtain⟨c,e,fr,k1,k3⟩:=key;obtain⟨q1,q2⟩:=cut_rel k3 hr;exact⟨_,run_loadCells (a:=⟨L.blk,L.sh+o,none⟩) k1 rfl q2,q1⟩
   ·cases hr
 | sliceU l0 hb hu hk hl hc hs ho =>
   rename_i b o o' c' k low L;simp only[rowA] at hr;split at hr
   ·rename_i cs hcs;have key:∃ c e fr,w.heap[L.blk]? =some (.cells c e fr)∧CellsRel ρ cs L c:=by
     unfold cellsOf at hcs;split at hcs
     ·rename_i hk;cases hcs;obtain⟨c,e,fr,k1,_,k3⟩:=H.blk b L _ hb hk;exact⟨c,e,fr,k1,k3⟩
     ·rename_i hk;cases hcs;obtain⟨c,e,fr,k1,k3⟩:=H.blk b L _ hb hk;exact⟨c,e,fr,k1,k3⟩
     ·cases hcs
    obtain⟨c,e,fr,k1,k3⟩:=key;obtain⟨q1,q2⟩:=cut_rel k3 hr;by_cases hm0:m=0
    ·subst hm0;have:r=[]:=by
      have:=(seg_some hr).1;simp at this;exact this
     subst this;refine⟨#[],?_,.nil ρ⟩;simp[Builtin.firstCells,loadCells,loadCellsFrom,Sem.run_pure]
    ·have ho':o'=L.sh+o:=ho.resolve_left (by omega);subst ho';exact⟨_,run_loadCells (a:=⟨L.blk,L.sh+o,none⟩) k1 rfl q2,q1⟩
   ·cases hr
 | sliceZ a hb hk hz =>
   have hm0:m=0:=by omega
   subst hm0;simp only[rowA] at hr;split at hr
   ·have:r=[]:=by
     have:=(seg_some hr).1;simp at this;exact this
    subst this;refine⟨#[],?_,.nil ρ⟩;simp[Builtin.firstCells,loadCells,loadCellsFrom,Sem.run_pure]
   ·cases hr
theorem growBy_le(m:Nat):∀ (r c:Nat),Builtin.growBy m r c≤2 ^ r * (c+768)
 | 0,c=>by simp[Builtin.growBy]
 | r+1,c=>by
   unfold Builtin.growBy;split
   ·have:1≤2 ^ (r+1):=Nat.one_le_two_pow
    calc c≤1 * (c+768):=by omega
     _≤2 ^ (r+1) * (c+768):=Nat.mul_le_mul_right _ this
   ·refine Nat.le_trans (growBy_le m r _) ?_;rw[Nat.pow_succ,Nat.mul_assoc];exact Nat.mul_le_mul_left _ (by omega)
theorem nextcap_le{need old:Nat}(h:old<need)(hn:need≤2000000000):Builtin.nextslicecap need old≤40000000000:=by
 have h4:=growBy_le need 4 old;rw[show(2:Nat) ^ 4=16 from rfl] at h4;unfold Builtin.nextslicecap;split
 ·exact Nat.le_trans hn (by decide)
 ·split
  ·exact Nat.le_trans (Nat.mul_le_mul_left 2 (Nat.le_of_lt (Nat.lt_of_lt_of_le h hn))) (by decide)
  ·refine Nat.le_trans h4 (Nat.le_trans (Nat.mul_le_mul_left 16 (Nat.add_le_add_right (Nat.le_of_lt (Nat.lt_of_lt_of_le h hn)) 768)) (by decide))
theorem newCells_sim(K:EOk E P)(H:WRel G ρ h w){j:TyI}{e:TypeId}(hj:E.ty.get e=some j)(hz:j.zok=true)(hb:j.bytes≤4096)(h0:0<j.size){xt:TypeId}{x y:Value}(hx:VRel ρ x y){xl:Nat}{new:List Value}
 (hn:newCells E h j (some xt) x=some (xl,new)) {tj:TypeInfo} (j1:P.info? e=some tj) (j3:tj.size=j.size) (j4:tj.bytes=j.bytes) :
 xl≤1000000000∧new.length=xl * j.size∧∃ (zeros:Bool) (dx:TypeDesc),P.underlying xt=some dx∧zeros=isIntD dx ∧
  (zeros=true→∃ kd,y= .int kd (.ofNat xl))∧(zeros=false→(Builtin.lenOf y).run P w= .ok xl w) ∧
  ∀ w1:World,Lk w w1→∃ c:Array Value,
    ((if !zeros then Builtin.firstCells tj.size xl y
      else if xl * tj.size=0 then pure #[]
      else do pure (Builtin.zeroCells (← zeroValue e).cells xl)):Sem (Array Value)).run P w1= .ok c w1∧LRel ρ new c.toList:=by
 unfold newCells at hn;simp only at hn;split at hn
 ·rename_i xi hxi;obtain⟨tx,x1,x2,_⟩:=K.ty xt xi hxi;obtain⟨tj',j1',j2,j3',j4',j5⟩:=K.ty e j hj;rw[j1] at j1';cases j1';obtain⟨z,z1,z2,z3,z4,z5⟩:=j5 hz;have hcell:=cellsL_rel (lit_rel ρ 6 z z2);rw[z3] at hcell;split at hn
  ·rename_i kk hd;split at hn
   ·rename_i l hl;cases hn;obtain⟨kd,rfl,hle⟩:=natV_some hl;refine⟨hle,by rw[repL_length,z4],true,xi.d,x2,by rw[hd];rfl,fun _=>⟨kd,hx.int_inv⟩,(fun h=>by cases h),fun w1 hw1=>?_⟩;have hs:j.zero.length=z.cells.size:=hcell.1.trans Array.length_toList;by_cases hzz:xl * tj.size=0
    ·have:xl=0:=by
      rcases Nat.mul_eq_zero.1 hzz with h|h
      ·exact h
      ·omega
     subst this;exact⟨#[],by simp[Sem.run_pure],by simpa [repL] using LRel.nil ρ⟩
    ·refine⟨Builtin.zeroCells z.cells xl,?_,?_⟩
     ·simp only[Bool.not_true,Bool.false_eq_true,if_false,if_neg hzz,Sem.run_bind,run_zero j1 z1,Result.andThen_ok,Sem.run_pure]
     ·exact zeros_rel hcell (by rw[hs]) (by rw[z4];omega)
   ·cases hn
  ·rename_i hni;have hz0:false=isIntD xi.d:=by
    cases hdd:xi.d<;>first|rfl|exact absurd hdd (hni _)
   split at hn
   ·rename_i xb xl' xc;split at hn
    ·rename_i new' hrow;simp only[biE,bleT] at hn;split at hn
     ·rename_i hle;cases hn;refine⟨hle,rowA_len hrow,false,xi.d,x2,hz0,(fun h=>by cases h),fun _=>?_,fun w1 hw1=>?_⟩
      ·cases hx<;>rfl
      ·obtain⟨c,c1,c2⟩:=row_first (P:=P) (H.same hw1) hx (nlR _) hrow;exact⟨c,by simpa [j3] using c1,c2⟩
     ·cases hn
    ·cases hn
   ·rename_i s;simp only[biE,baT,beqT,bleT] at hn;split at hn
    ·rename_i hc;cases hn;rw[hx.string_inv];refine⟨hc.2,by rw[hc.1,List.length_map,Array.length_toList];exact(Nat.mul_one _).symm,false,xi.d,x2,hz0,(fun h=>by cases h),fun _=>rfl,fun w1 hw1=>⟨_,rfl,?_⟩⟩;have:((s.extract 0 s.size).data.map fun b=>(Value.int .u8 b.toNat)).toList=s.data.toList.map fun b=>Value.int .u8 b.toNat:=by
      rw[ByteArray.data_extract];show(Array.map _ (s.data.extract 0 s.data.size)).toList=_;rw[Array.extract_size];simp
     rw[this];refine⟨rfl,fun i a b ha hb=>?_⟩;rw[ha] at hb;cases hb;rw[List.getElem?_map] at ha;cases hg:s.data.toList[i]? with
     | none=>rw[hg] at ha;cases ha
     | some u=>rw[hg] at ha;cases ha;exact .int _ _
    ·cases hn
   ·cases hn
 ·cases hn
theorem LRel.size_eq{l:List Value}{c:Array Value}(h:LRel ρ l c.toList):l.length=c.size:=h.1.trans Array.length_toList
theorem append_alloc(H:St G ρ h n w){old new:List Value}{oc nc rest:Array Value}(ho:LRel ρ old oc.toList)(hn:LRel ρ new nc.toList){e:TypeId}{k sl xl newCap:Nat}
 (h1:old.length=sl * k) (h2:new.length=xl * k) (h3:rest.size=(newCap-(sl+xl)) * k) (h4:sl+xl≤newCap) (hk:0<k) (hu:sl+xl<UNK) {w1:World} (hw1:Lk w w1) :
 VRel (ρ.add n ⟨w.heap.size,0,(oc ++ nc ++ rest).size⟩) (.slice (some ⟨n,0,none⟩) (sl+xl) (UNK * k+(sl+xl))) (.slice (some ⟨w.heap.size,0,none⟩) (sl+xl) newCap) ∧
 Stp G ρ h n (ρ.add n ⟨w.heap.size,0,(oc ++ nc ++ rest).size⟩) (h.upd (some (.cells (old ++ new))) n) (n+1) {w1 with heap:=w1.heap.push (.cells (oc ++ nc ++ rest) e)}:=by
 have e1:=ho.size_eq;have e2:=hn.size_eq;have hsz:(oc ++ nc ++ rest).size=newCap * k:=by
  rw[Array.size_append,Array.size_append,← e1,← e2,h1,h2,h3,← Nat.add_mul,← Nat.add_mul]
  congr 1;omega
 constructor
 ·refine VRel.sliceU _ (Ren.add_same ρ n _) hu hk (nlR _) h4 ?_ (.inr rfl);simp only;rw[hsz];omega
 ·refine row_sim H ?_ ?_ hw1
  ·have:((oc ++ nc ++ rest).toList.take (old ++ new).length)=oc.toList ++ nc.toList:=by
    rw[Array.toList_append,Array.toList_append,List.take_left'];rw[List.length_append,List.length_append,ho.1,hn.1]
   rw[this];exact ho.append hn
  ·rw[List.length_append,e1,e2,Array.size_append,Array.size_append];omega
end
section
variable {E:Env}{P:Program}{w:World}{G:Gh}{ρ:Ren}{h:T Blk}{n:Nat}{t:T Value}{a:Act}
def layS(zeros:Bool)(size xl:Nat)(e:TypeId)(y:Value):Sem (Array Value) :=
 if !zeros then Builtin.firstCells size xl y
 else if xl * size=0 then pure #[]
 else do pure (Builtin.zeroCells (← zeroValue e).cells xl)
section
variable {st xt e ty:TypeId}{ats:Array TypeId}{tj:TypeInfo}{zeros:Bool}{dx:TypeDesc}{y:Value}{sl xl sCap:Nat}{base:Option Addr}{nc:Array Value}
 (a0:ats[0]? =some st) (a1:ats[1]? =some xt) (t2:P.underlying st=some (.slice e)) (j1:P.info? e=some tj)
 (x2:P.underlying xt=some dx) (hz:zeros=isIntD dx)
 (hb:tj.bytes≤4096) (hl:xl≤1000000000) (h1:zeros=true→∃ kd,y= .int kd (.ofNat xl)) (h2:zeros=false→(Builtin.lenOf y).run P w= .ok xl w)
include a0 a1 t2 j1 x2 hz hb hl h1 h2
theorem append_in(hc:sl+xl≤sCap)(hn:(layS zeros tj.size xl e y).run P w= .ok nc w){w':World}
 (hs:((match base with|some a=>storeCells (a.add (sl * tj.size)) nc.toList|none=>pure ()):Sem Unit).run P w= .ok () w') :
 (Builtin.append_ ats ty #[.slice base sl sCap,y]).run P w= .ok (.slice base (sl+xl) sCap) w':=by
 unfold layS at hn;unfold Builtin.append_;have e0:(#[Value.slice base sl sCap,y]:Array Value)[0]? =some (.slice base sl sCap):=rfl;have e1:(#[Value.slice base sl sCap,y]:Array Value)[1]? =some y:=rfl;simp only[a0,a1,e0,e1];rw[Sem.run_bind,run_und t2,Result.andThen_ok];simp only;rw[Sem.run_bind,run_size j1,Result.andThen_ok,Sem.run_bind,run_und x2,Result.andThen_ok,Sem.run_bind,Sem.run_pure,Result.andThen_ok];have hw:IntKind.i64.wrap (Int.ofNat xl)=Int.ofNat xl:=wrap_nat (by omega);have hneg:¬ (Int.ofNat xl<0):=by simp
 have hm:¬ (Int.ofNat xl * (tj.bytes:Int)>2 ^ 48):=by
  have h3:xl * tj.bytes≤1000000000 * 4096:=Nat.mul_le_mul hl hb;have h4:Int.ofNat xl * (tj.bytes:Int)=((xl * tj.bytes:Nat):Int):=by simp
  rw[h4];omega
 have F:∀ {nw:Sem (Array Value)},nw.run P w= .ok nc w→((do
  let new ← nw
  match base with
  | some a=>do
    storeCells (a.add (sl * tj.size)) new.toList
    pure (Value.slice base (sl+xl) sCap)
  | _=>pure (Value.slice base (sl+xl) sCap)):Sem Value).run P w= .ok (.slice base (sl+xl) sCap) w':=by
  intro nw hnw;rw[Sem.run_bind,hnw,Result.andThen_ok];cases base with
  | none=>simp only[Sem.run_pure] at hs ⊢;cases hs;rfl
  | some b=>simp only at hs ⊢;rw[Sem.run_bind,hs,Result.andThen_ok,Sem.run_pure]
 cases dx<;>simp only[isIntD] at hz<;>subst hz
 case int =>
  obtain⟨kd,rfl⟩:=h1 rfl;simp only[if_true,Bool.not_true,Bool.false_eq_true,if_false] at hn ⊢;simp only[Sem.run_bind,asInt,asIntOf,Sem.run_pure,Result.andThen_ok,hw];rw[if_neg hneg];simp only[Sem.run_bind,run_info j1,Result.andThen_ok];rw[if_neg hm];simp only[Sem.run_bind,Sem.run_pure,Result.andThen_ok];have ht:(Int.ofNat xl).toNat=xl:=rfl;rw[ht,if_pos hc];exact F hn
 all_goals
  have h2:=h2 rfl;simp only[Bool.not_false,Bool.false_eq_true,if_false,if_true] at hn ⊢;rw[Sem.run_bind,h2,Result.andThen_ok];rw[if_pos hc];exact F hn
theorem append_new(hc:¬ sl+xl≤sCap)(hl':sl≤1000000000){z:Value}(hzv:tj.zero=some z){oc:Array Value}
 (ho:(Builtin.firstCells tj.size sl (.slice base sl sCap)).run P {w with drawn:=w.drawn+1}= .ok oc {w with drawn:=w.drawn+1})
 (hn:(layS zeros tj.size xl e y).run P {w with drawn:=w.drawn+1}= .ok nc {w with drawn:=w.drawn+1}) :
 ∃ c,sl+xl≤c∧(Builtin.append_ ats ty #[.slice base sl sCap,y]).run P w= .ok (.slice (some ⟨w.heap.size,0,none⟩) (sl+xl) c)
   {{w with drawn:=w.drawn+1} with heap:=w.heap.push (.cells (oc ++ nc ++ Builtin.zeroCells z.cells (c-(sl+xl))) e)}:=by
 let q:Question:= .appendCap (sl+xl) sCap e
 refine⟨q.cut (w.tape w.drawn q),Nat.le_add_right _ _,?_⟩;have hq:(choose q).run P w= .ok (q.cut (w.tape w.drawn q)) {w with drawn:=w.drawn+1}:=rfl;unfold layS at hn;unfold Builtin.append_;have e0:(#[Value.slice base sl sCap,y]:Array Value)[0]? =some (.slice base sl sCap):=rfl;have e1:(#[Value.slice base sl sCap,y]:Array Value)[1]? =some y:=rfl;simp only[a0,a1,e0,e1];rw[Sem.run_bind,run_und t2,Result.andThen_ok];simp only;rw[Sem.run_bind,run_size j1,Result.andThen_ok,Sem.run_bind,run_und x2,Result.andThen_ok,Sem.run_bind,Sem.run_pure,Result.andThen_ok];have hw:IntKind.i64.wrap (Int.ofNat xl)=Int.ofNat xl:=wrap_nat (by omega);have hneg:¬ (Int.ofNat xl<0):=by simp
 have hm:¬ (Int.ofNat xl * (tj.bytes:Int)>2 ^ 48):=by
  have h3:xl * tj.bytes≤1000000000 * 4096:=Nat.mul_le_mul hl hb;have h4:Int.ofNat xl * (tj.bytes:Int)=((xl * tj.bytes:Nat):Int):=by simp
  rw[h4];omega
 have hbig:∀ p:Prop,¬ (((sl+xl:Nat):Int)>IntKind.i64.max∧p):=by
  rintro p ⟨h,_⟩;have:IntKind.i64.max=9223372036854775807:=by decide
  rw[this] at h;omega
 have hcap:¬ (Builtin.nextslicecap (sl+xl) sCap * tj.bytes>2 ^ 48):=by
  have h3:=nextcap_le (need:=sl+xl) (old:=sCap) (by omega) (by omega);have h4:Builtin.nextslicecap (sl+xl) sCap * tj.bytes≤40000000000 * 4096:=Nat.mul_le_mul h3 hb;have h5:(40000000000:Nat) * 4096≤2 ^ 48:=by decide
  omega
 have F:∀ {nw:Sem (Array Value)},nw.run P {w with drawn:=w.drawn+1}= .ok nc {w with drawn:=w.drawn+1}→((do
  let newCap ← choose q
  let i ← typeInfo e
  askRoom (newCap * i.bytes)
  let old ← Builtin.firstCells tj.size sl (Value.slice base sl sCap)
  let new ← nw
  let z ← zeroValue e
  let r ← newRow e (old ++ new ++ Builtin.zeroCells z.cells (newCap-(sl+xl)))
  pure (Value.slice (some r) (sl+xl) newCap)):Sem Value).run P w= .ok (.slice (some ⟨w.heap.size,0,none⟩) (sl+xl) (q.cut (w.tape w.drawn q)))
  {{w with drawn:=w.drawn+1} with heap:=w.heap.push (.cells (oc ++ nc ++ Builtin.zeroCells z.cells (q.cut (w.tape w.drawn q)-(sl+xl))) e)}:=by
  intro nw hnw;rw[Sem.run_bind,hq,Result.andThen_ok,Sem.run_bind,run_info j1,Result.andThen_ok,Sem.run_bind,askRoom_any,Result.andThen_ok,Sem.run_bind,ho,Result.andThen_ok,
   Sem.run_bind,hnw,Result.andThen_ok,Sem.run_bind,run_zero j1 hzv,Result.andThen_ok,Sem.run_bind,push_row,Result.andThen_ok,Sem.run_pure]
 cases dx<;>simp only[isIntD] at hz<;>subst hz
 case int =>
  obtain⟨kd,rfl⟩:=h1 rfl;simp only[if_true,Bool.not_true,Bool.false_eq_true,if_false] at hn ⊢;simp only[asInt,asIntOf];rw[Sem.run_bind,Sem.run_bind,Sem.run_pure,Result.andThen_ok,Sem.run_pure,Result.andThen_ok];simp only[hw];rw[if_neg hneg,Sem.run_bind,run_info j1,Result.andThen_ok,if_neg hm,Sem.run_bind,Sem.run_pure,Result.andThen_ok];have ht:(Int.ofNat xl).toNat=xl:=rfl;rw[ht,if_neg hc,Sem.run_bind,run_info j1,Result.andThen_ok,if_neg (hbig _),Sem.run_bind,run_info j1,Result.andThen_ok,if_neg hcap];exact F hn
 all_goals
  have h2:=h2 rfl;simp only[Bool.not_false,Bool.false_eq_true,if_false,if_true] at hn ⊢;rw[Sem.run_bind,h2,Result.andThen_ok];rw[if_neg hc,Sem.run_bind,run_info j1,Result.andThen_ok,if_neg (hbig _),Sem.run_bind,run_info j1,Result.andThen_ok,if_neg hcap];exact F hn
end
theorem slice_val{b:Option Addr}{l c:Nat}{q:Value}(hq:VRel ρ (.slice b l c) q):∃ b' c',q= .slice b' l c'∧lowCap c≤c':=by
 cases hq with
 | slice0=>exact⟨_,_,rfl,Nat.mod_le _ _⟩
 | slice l0 c0 hb hc=>exact⟨_,_,rfl,Nat.mod_le _ _⟩
 | sliceU l0 hb hu hk hl hc hs ho=>exact⟨_,_,rfl,by rw[lowCap_u hu];exact hc⟩
 | sliceZ a hb hk hz=>exact⟨_,_,rfl,by rw[lowCap_u (by rw[hz];decide)];omega⟩
theorem sliceU_inv{b o l c l2 c':Nat}{b':Option Addr}(hq:VRel ρ (.slice (some ⟨b,o,none⟩) l c) (.slice b' l2 c'))(hu:UNK≤c) :
 (∃ L o' k low,b'=some ⟨L.blk,o',none⟩∧ρ b=some L∧c=UNK * k+low∧low<UNK∧0<k∧l≤low∧low≤c'∧o'+c' * k≤L.size∧(low=0∨o'=L.sh+o)) ∨
 ∃ L k low,ρ b=some L∧c=UNK * k+low∧low<UNK∧low=0∧c'=0:=by
 cases hq with
 | slice l0 c0 hb hc=>omega
 | sliceU l0 hb hlow hk hl hc hs ho=>exact .inl ⟨_,_,_,_,rfl,hb,rfl,hlow,hk,hl,hc,hs,ho⟩
 | sliceZ a hb hk hz=>exact .inr ⟨_,_,_,hb,rfl,by rw[hz];decide,hz,rfl⟩
theorem append_sim(K:EOk E P)(H:St G ρ h n w){st:TypeId}{xt:Option TypeId}{ats:Array TypeId}{ty:TypeId}(a0:ats[0]? =some st)(a1:ats[1]? =xt){s q x y:Value}(hs:VRel ρ s q)
 (hx:VRel ρ x y) {v:Value} {h':T Blk} {n':Nat} (ha:appendA E st xt s x h n=some (v,h',n')) :
 ∃ ρ' w' u,(Builtin.append_ ats ty #[q,y]).run P w= .ok u w'∧VRel ρ' v u∧Stp G ρ h n ρ' h' n' w':=by
 unfold appendA at ha;split at ha
 ·rename_i i hi;split at ha
  ·rename_i e hd;split at ha
   ·rename_i j hj;split at ha
    ·rename_i base sl cap;simp only[biE] at ha;split at ha
     ·rename_i hcond;simp only[baT,bleT,bltT,beqT] at hcond;obtain⟨⟨⟨⟨⟨⟨c1,c2⟩,c3⟩,c4⟩,c5⟩,c6⟩,c7⟩:=hcond;split at ha
      ·rename_i xl new hnew;cases xt with
       | none=>simp[newCells] at hnew
       | some xt =>
       obtain⟨ti,t1,t2,_⟩:=K.ty st i hi;obtain⟨tj,j1,j2,j3,j4,j5⟩:=K.ty e j hj;obtain⟨z,z1,z2,z3,z4,z5⟩:=j5 c4;have hcell:=cellsL_rel (lit_rel ρ 6 z z2);rw[z3] at hcell;rw[hd] at t2;obtain⟨n1,nl,zeros,dx,n2,n3,n4,n5,n6⟩:=newCells_sim (P:=P) (w:=w) K H.wr hj c4 c1 c2 hx hnew j1 j3 j4;obtain⟨nc,hnc,hncl⟩:=n6 w ⟨rfl,rfl⟩;obtain⟨b',c',rfl,hlow⟩:=slice_val hs;have hbytes:tj.bytes≤4096:=by rw[j4];exact c1
       have hnc':(layS zeros tj.size xl e y).run P w= .ok nc w:=hnc;split at ha
       ·
        rename_i hx0;rw[beqT] at hx0;subst hx0;have hnl:nc.toList=[]:=by
         have:new=[]:=by simpa using nl
         subst this;exact hncl.nil_left
        have hrun:(Builtin.append_ ats ty #[.slice b' sl c',y]).run P w= .ok (.slice b' (sl+0) c') w:=by
         refine append_in a0 a1 t2 j1 n2 n3 hbytes (by omega) n4 n5 (by omega) hnc' ?_;cases b' with
         | none=>rfl
         | some b=>rw[hnl];rfl
        have hval:∀ u,u=(.slice b' (sl+0) c':Value)→v= .slice base sl cap→h'=h→n'=n →
         ∃ ρ' w' u,(Builtin.append_ ats ty #[.slice b' sl c',y]).run P w= .ok u w'∧VRel ρ' v u∧Stp G ρ h n ρ' h' n' w':=by
         rintro u rfl rfl rfl rfl;exact⟨ρ,w,_,hrun,hs,.refl H⟩
        split at ha
        ·cases ha;exact hval _ rfl rfl rfl rfl
        ·cases ha;exact hval _ rfl rfl rfl rfl
        ·cases ha
       ·rename_i hx0;rw[beqT] at hx0;split at ha
        ·
         rename_i hfit;rw[bleT] at hfit;split at ha
         ·rename_i b o;split at ha
          ·rename_i h1 hput;cases ha;have key:∃ L,ρ b=some L∧b'=some ⟨L.blk,L.sh+o,none⟩∧VRel ρ (.slice (some ⟨b,o,none⟩) (sl+xl) cap) (.slice b' (sl+xl) c'):=by
            cases hs with
            | slice l0 c0 hb hc=>exact⟨_,hb,rfl,.slice _ _ hb hc⟩
            | sliceU l0 hb hu hk hl hc hs ho =>
              rw[lowCap_u hu] at hfit;exact⟨_,hb,by rw[ho.resolve_left (by omega)],.sliceU _ hb hu hk hfit hc hs ho⟩
            | sliceZ a hb hk hz =>
              rw[lowCap_u (by rw[hz];decide)] at hfit;omega
           obtain⟨L,hb,rfl,hres⟩:=key;obtain⟨w',r1,r2⟩:=put_sim (P:=P) H hput hb hncl;refine⟨ρ,w',.slice (some ⟨L.blk,L.sh+o,none⟩) (sl+xl) c',?_,?_,r2⟩
           ·refine append_in a0 a1 t2 j1 n2 n3 hbytes n1 n4 n5 (by omega) hnc' ?_;simp only;rw[add_eq rfl,j3];rw[Nat.add_assoc];exact r1
           ·exact hres
          ·cases ha
         ·cases ha
        ·
         rename_i hfit;rw[bleT] at hfit;split at ha
         ·rename_i old hrow;have w1e:Lk w {w with drawn:=w.drawn+1}:=⟨rfl,rfl⟩
          obtain⟨oc,o1,o2⟩:=row_first (P:=P) (H.wr.same w1e) hs (nlR _) hrow;rw[←j3] at o1;obtain⟨nc1,p1,p2⟩:=n6 {w with drawn:=w.drawn+1} ⟨rfl,rfl⟩;have p1:(layS zeros tj.size xl e y).run P {w with drawn:=w.drawn+1}= .ok nc1 {w with drawn:=w.drawn+1}:=p1;have ol:old.length=sl * j.size:=rowA_len hrow;have zs:z.cells.size=j.size:=by rw[←hcell.size_eq,z4]
          have huu:sl+xl<UNK:=by unfold UNK;omega
          have fresh:∀ {h0:T Blk} (H0:St G ρ h0 n w),¬ sl+xl≤c' →
           ∃ ρ' w' u,(Builtin.append_ ats ty #[.slice b' sl c',y]).run P w= .ok u w'∧VRel ρ' (.slice (some ⟨n,0,none⟩) (sl+xl) (UNK * j.size+(sl+xl))) u ∧
             Stp G ρ h0 n ρ' (h0.upd (some (.cells (old ++ new))) n) (n+1) w':=by
           intro h0 H0 hno;obtain⟨c,q1,q2⟩:=append_new a0 a1 t2 j1 n2 n3 hbytes n1 n4 n5 hno c6 z1 o1 p1 (ty:=ty);obtain⟨r1,r2⟩:=append_alloc (e:=e) H0 o2 p2 (rest:=Builtin.zeroCells z.cells (c-(sl+xl))) (newCap:=c) ol nl (by simp[Builtin.zeroCells,zs]) q1 c2 huu w1e;exact⟨_,_,_,q2,r1,r2⟩
          split at ha
          ·rename_i hunk;split at ha
           ·cases ha
           ·rename_i hks;split at ha
            ·rename_i b o;split at ha
             ·rename_i cs hcs;cases ha;simp only[Bool.not_eq_true',Bool.not_eq_false,baT] at hks;obtain⟨hks,hcl⟩:=hks;have hcellok:allCells nc.toList=true:=allCells_rel hncl hcl;rw[beqT] at hks;rcases sliceU_inv hs (by rw[unkCap,bleT] at hunk;exact hunk) with⟨L,o',k,low,rfl,hb,rfl,hu,hk,hl,hc,hss,ho⟩|⟨L,k,low,hb,rfl,hu,hz,hc0⟩
              ·rw[divCap_u hu] at hks;rw[lowCap_u hu] at hfit c7;rw[←hks] at fresh ol nl ⊢;by_cases hcc:sl+xl≤c'
               ·obtain⟨c,el,fr,k1,k2,k3⟩:=H.wr.blk b L _ hb hcs;have hns:=hncl.size_eq;have hmul:(sl+xl) * k≤c' * k:=Nat.mul_le_mul_right _ hcc;rw[Nat.add_mul] at hmul;have k32:=k3.2.1;obtain⟨w',c2,r1,r2,r3,r4⟩:=run_storeCells (P:=P) (a:=⟨L.blk,o'+sl * k,none⟩) rfl k2 nc.toList 0 w c k1
                 hcellok (.inr (by simp only[Nat.add_zero,Array.length_toList];omega))
                obtain⟨s1,s2⟩:VRel (ρ.add n ⟨L.blk,o',L.size⟩) (.slice (some ⟨n,0,none⟩) (sl+xl) (UNK * k+(sl+xl))) (.slice (some ⟨L.blk,o',none⟩) (sl+xl) c') ∧
                 Stp G ρ h n (ρ.add n ⟨L.blk,o',L.size⟩) ((h.upd none b).upd (some (.cells (old ++ new))) n) (n+1) w':=by
                 refine⟨VRel.sliceU (L:=⟨L.blk,o',L.size⟩) (o:=0) _ (Ren.add_same ρ n _) huu hk (nlR _) hcc hss (.inr rfl),H.take hb hcs rfl rfl r2 ⟨c2,el,fr,rfl,k2,?_,?_,?_⟩⟩
                 ·simp only[List.length_append];omega
                 ·rw[r3];exact k32
                 ·intro i x hx;have hext:=Ext.add (⟨L.blk,o',L.size⟩:Pl) (H.fr n (nlR n));simp only[Nat.add_zero] at r4;simp only;rw[List.getElem?_append] at hx;split at hx
                  ·rename_i hi;have hsl:low≠0:=by
                    intro h0;have:sl=0:=by omega
                    rw[this] at ol;simp at ol;rw[ol] at hi;simp at hi
                   have ho':=ho.resolve_left hsl;unfold rowA at hrow;simp only[cellsOf,hcs] at hrow;obtain⟨g1,g2⟩:=seg_some hrow;obtain⟨g3,g4⟩:=g2 i (by rw[←g1];exact hi);obtain⟨y1,y2,y3⟩:=k3.2.2 (o+i) x (by rw[←g3];exact hx);refine⟨y1,?_,y3.mono hext⟩;rw[r4,if_neg (by omega),← y2]
                   congr 1;omega
                  ·rename_i hi;obtain⟨y1,y2,y3⟩:=hncl.get hx;have hlt:=(gsI hx).1;refine⟨y1,?_,y3.mono hext⟩;rw[r4,if_pos (by rw[Array.length_toList];omega),← y2]
                   congr 1;omega
                refine⟨_,w',_,?_,s1,s2⟩;refine append_in a0 a1 t2 j1 n2 n3 hbytes n1 n4 n5 hcc hnc' ?_;simp only;rw[add_eq rfl,j3,← hks];exact r1
               ·obtain⟨ρ',w',u,f1,f2,f3⟩:=fresh (H.kill _) hcc;exact⟨ρ',w',u,f1,f2,(Stp.kill H hb).trans f3⟩
              ·rw[divCap_u hu] at hks;rw[lowCap_u hu] at hfit c7;rw[←hks] at fresh ol nl ⊢;have hcc:¬ sl+xl≤c':=by omega
               obtain⟨ρ',w',u,f1,f2,f3⟩:=fresh (H.kill _) hcc;exact⟨ρ',w',u,f1,f2,(Stp.kill H hb).trans f3⟩
             ·cases ha
            ·cases ha
          ·rename_i hunk;cases ha;rw[unkCap,bleT] at hunk;have hcc:c'=cap:=by
            cases hs with
            | slice0=>rfl
            | slice l0 c0 hb hc=>rfl
            | sliceU l0 hb hu hk hl hc hs ho =>
              rename_i k low _;have:=Nat.mul_le_mul_left UNK hk;omega
            | sliceZ a hb hk hz =>
              rename_i k low _;have:=Nat.mul_le_mul_left UNK hk;omega
           subst hcc;rw[lowCap_lt hunk] at hfit;exact fresh H hfit
         ·cases ha
      ·cases ha
     ·cases ha
    ·cases ha
   ·cases ha
  ·cases ha
 ·cases ha
end
section
variable {E:Env}{P:Program}{w:World}{G:Gh}{ρ:Ren}{h:T Blk}{n:Nat}{t:T Value}{a:Act}
theorem copy_sim(K:EOk E P)(H:St G ρ h n w){st:TypeId}{ats:Array TypeId}{ty:TypeId}(a0:ats[0]? =some st){d x q y v:Value}(hd:VRel ρ d q)(hx:VRel ρ x y){h':T Blk}
 (hc:copyA E st d x h=some (v,h')):∃ w',(Builtin.copy_ ats ty #[q,y]).run P w= .ok v w'∧VRel ρ v v∧Stp G ρ h n ρ h' n w':=by
 unfold copyA at hc;split at hc
 ·rename_i i hi;split at hc
  ·rename_i e hde;split at hc
   ·rename_i j hj;obtain⟨ti,t1,t2,_⟩:=K.ty st i hi;obtain⟨tj,j1,j2,j3,_⟩:=K.ty e j hj;rw[hde] at t2;have pre:∀ {base:Option Addr} {dl dc xl:Nat},(Builtin.lenOf y).run P w= .ok xl w→(Builtin.copy_ ats ty #[.slice base dl dc,y]).run P w =
     ((do
       let cells ← Builtin.firstCells j.size (Nat.min xl dl) y
       match base with
       | some a=>do
         storeCells a cells.toList
         pure (goInt (Nat.min xl dl))
       | _=>pure (goInt (Nat.min xl dl))):Sem Value).run P w:=by
     intro base dl dc xl hl;unfold Builtin.copy_;have e0:(#[Value.slice base dl dc,y]:Array Value)[0]? =some (.slice base dl dc):=rfl;have e1:(#[Value.slice base dl dc,y]:Array Value)[1]? =some y:=rfl;simp only[a0,e0,e1];rw[Sem.run_bind,run_und t2,Result.andThen_ok];simp only;rw[Sem.run_bind,hl,Result.andThen_ok,Sem.run_bind,run_size j1,Result.andThen_ok,j3];rfl
    split at hc
    ·rename_i b o dl dc xb xl xc;split at hc
     ·rename_i new hrow;split at hc
      ·rename_i h1 hput;cases hc;obtain⟨q',c',rfl,_⟩:=slice_val hd;have hlen:(Builtin.lenOf y).run P w= .ok xl w:=by cases hx<;>rfl
       obtain⟨nc,f1,f2⟩:=row_first (P:=P) H.wr hx (Nat.min_le_left xl dl) hrow;have hb:∃ L a,ρ b=some L∧q'=some a∧(a=⟨L.blk,L.sh+o,none⟩∨dl=0):=by
        cases hd with
        | slice l0 c0 hb hc=>exact⟨_,_,hb,rfl,.inl rfl⟩
        | sliceU l0 hb hu hk hl hc hs ho =>
          rcases ho with h0|h0
          ·exact⟨_,_,hb,rfl,.inr (by omega)⟩
          ·exact⟨_,_,hb,rfl,.inl (by rw[h0])⟩
        | sliceZ a hb hk hz=>exact⟨_,_,hb,rfl,.inr rfl⟩
       obtain⟨L,ad,hb,rfl,had⟩:=hb;obtain⟨w',r1,r2⟩:=put_sim (P:=P) H hput hb f2;refine⟨w',?_,.int _ _,r2⟩;rw[pre hlen,Sem.run_bind,f1,Result.andThen_ok];simp only;rcases had with rfl|h0
       ·rw[Sem.run_bind,r1,Result.andThen_ok];rfl
       ·have hnil:nc.toList=[]:=by
         have:=rowA_len hrow;rw[h0] at this;simp at this;rw[this] at f2;exact f2.nil_left
        rw[hnil] at r1 ⊢;have:w'=w:=by simp[storeCells,Sem.run_pure] at r1;exact r1.symm
        subst this;rfl
      ·cases hc
     ·cases hc
    ·rename_i dl dc xb xl xc;simp only[biE,beqT] at hc;split at hc
     ·rename_i h0;cases hc;subst h0;have hlen:(Builtin.lenOf y).run P w= .ok xl w:=by cases hx<;>rfl
      cases hd with
      | slice0 =>
        refine⟨w,?_,.int _ _,.refl H⟩;rw[pre hlen];have:Nat.min xl 0=0:=Nat.min_zero _;rw[this];have hf:(Builtin.firstCells j.size 0 y).run P w= .ok #[] w:=by cases hx<;>simp[Builtin.firstCells,loadCells,loadCellsFrom,Sem.run_pure]
        rw[Sem.run_bind,hf,Result.andThen_ok];rfl
     ·cases hc
    ·cases hc
   ·cases hc
  ·cases hc
 ·cases hc
theorem clear_sim(K:EOk E P)(H:St G ρ h n w){st:TypeId}{ats:Array TypeId}{ty:TypeId}(a0:ats[0]? =some st){d q:Value}(hd:VRel ρ d q){h':T Blk}
 (hc:clearA E st d h=some h'):∃ w',(Builtin.clear_ ats ty #[q]).run P w= .ok (.tuple #[]) w'∧Stp G ρ h n ρ h' n w':=by
 unfold clearA at hc;split at hc
 ·rename_i i hi;split at hc
  ·rename_i e hde;split at hc
   ·rename_i j hj;obtain⟨ti,t1,t2,_⟩:=K.ty st i hi;obtain⟨tj,j1,j2,j3,_,j5⟩:=K.ty e j hj;rw[hde] at t2;split at hc
    ·cases hc;cases hd;refine⟨w,?_,.refl H⟩;unfold Builtin.clear_;have e0:∀ v:Value,(#[v]:Array Value)[0]? =some v:=fun _=>rfl
     simp only[a0,e0];rw[Sem.run_bind,run_und t2,Result.andThen_ok];rfl
    ·rename_i b o m c;simp only[biE,beqT] at hc;split at hc
     ·rename_i h0;cases hc;subst h0;refine⟨w,?_,.refl H⟩;obtain⟨q',c',rfl,_⟩:=slice_val hd;unfold Builtin.clear_;have e0:∀ v:Value,(#[v]:Array Value)[0]? =some v:=fun _=>rfl
      simp only[a0,e0];rw[Sem.run_bind,run_und t2,Result.andThen_ok];cases q'<;>rfl
     ·rename_i h0;split at hc
      ·rename_i hcond;simp only[baT,beqT,bltT] at hcond;obtain⟨⟨c1,c2⟩,c3⟩:=hcond;obtain⟨z,z1,z2,z3,z4,z5⟩:=j5 c1;have hcell:=cellsL_rel (lit_rel ρ 6 z z2);rw[z3] at hcell;have hb:∃ L c',ρ b=some L∧q= .slice (some ⟨L.blk,L.sh+o,none⟩) m c':=by
        cases hd with
        | slice l0 c0 hb hc=>exact⟨_,_,hb,rfl⟩
        | sliceU l0 hb hu hk hl hc hs ho=>exact⟨_,_,hb,by rw[ho.resolve_left (by omega)]⟩
        | sliceZ a hb hk hz=>omega
       obtain⟨L,c',hb,rfl⟩:=hb;have hzz:LRel ρ (repL j.zero m) (Builtin.zeroCells z.cells m).toList:=zeros_rel hcell (by rw[hcell.size_eq]) (by omega);obtain⟨w',r1,r2⟩:=put_sim (P:=P) H hc hb hzz;refine⟨w',?_,r2⟩;obtain⟨m',rfl⟩:∃ m',m=m'+1:=⟨m-1,by omega⟩
       unfold Builtin.clear_;have e0:∀ v:Value,(#[v]:Array Value)[0]? =some v:=fun _=>rfl
       simp only[a0,e0];rw[Sem.run_bind,run_und t2,Result.andThen_ok];simp only;rw[Sem.run_bind,run_zero j1 z1,Result.andThen_ok,Sem.run_bind,r1,Result.andThen_ok];rfl
      ·cases hc
    ·cases hc
   ·cases hc
  ·cases hc
 ·cases hc
theorem len_sim(K:EOk E P){st:TypeId}{ats:Array TypeId}{ty:TypeId}(a0:ats[0]? =some st){x q:Value}(hx:VRel ρ x q){k:Nat}(hl:lenA E st x=some k) :
 (Builtin.len_ ats ty #[q]).run P w= .ok (.int .i64 k) w:=by
 unfold lenA at hl;split at hl
 ·rename_i i hi;obtain⟨ti,t1,t2,_⟩:=K.ty st i hi;have e0:∀ v:Value,(#[v]:Array Value)[0]? =some v:=fun _=>rfl
  split at hl
  ·rename_i s hd;cases hl;rw[hx.string_inv];rw[hd] at t2;unfold Builtin.len_;simp only[a0,e0];rw[Sem.run_bind,run_und t2,Result.andThen_ok];rfl
  ·rename_i e b l c hd;cases hl;obtain⟨q',c',rfl,_⟩:=slice_val hx;rw[hd] at t2;unfold Builtin.len_;simp only[a0,e0];rw[Sem.run_bind,run_und t2,Result.andThen_ok];rfl
  ·cases hl
 ·cases hl
theorem cap_sim(K:EOk E P){st:TypeId}{ats:Array TypeId}{ty:TypeId}(a0:ats[0]? =some st){x q:Value}(hx:VRel ρ x q){k:Nat}(hl:capA E st x=some k) :
 (Builtin.cap_ ats ty #[q]).run P w= .ok (.int .i64 k) w:=by
 unfold capA at hl;split at hl
 ·rename_i i hi;obtain⟨ti,t1,t2,_⟩:=K.ty st i hi;have e0:∀ v:Value,(#[v]:Array Value)[0]? =some v:=fun _=>rfl
  split at hl
  ·rename_i e b l c hd;simp only[biE,unkCap,bleT] at hl;split at hl
   ·cases hl
   ·rename_i hnu;cases hl;rw[hd] at t2;have:∃ q',q= .slice q' l k:=by
     cases hx with
     | slice0=>exact⟨_,rfl⟩
     | slice l0 c0 hb hc=>exact⟨_,rfl⟩
     | sliceU l0 hb hu hk hl hc hs ho =>
       have:=Nat.mul_le_mul_left UNK hk;omega
     | sliceZ a hb hk hz =>
       have:=Nat.mul_le_mul_left UNK hk;omega
    obtain⟨q',rfl⟩:=this;unfold Builtin.cap_;simp only[a0,e0];rw[Sem.run_bind,run_und t2,Result.andThen_ok];rfl
  ·cases hl
 ·cases hl
theorem max_sim{big:Bool}{l:List Value}{ys:Array Value}(hl:LRel ρ l ys.toList){v:Value}(hm:maxA big l=some v){ats:Array TypeId}{ty:TypeId} :
 (if big then Builtin.max_ ats ty ys else Builtin.min_ ats ty ys).run P w= .ok v w∧VRel ρ v v:=by
 unfold maxA at hm;split at hm
 ·rename_i j a k b;simp only[biE] at hm;split at hm
  ·obtain⟨y1,m,e1,h1,h2⟩:=hl.cons_left;obtain⟨y2,m',e2,h3,h4⟩:=h2.cons_left;have e3:=h4.nil_left;subst e3;subst e2;rw[h1.int_inv,h3.int_inv] at e1;cases hm;refine⟨?_,by split<;>(try split)<;>exact .int _ _⟩;cases big
   ·simp only[Bool.false_eq_true,if_false,Builtin.min_,e1,List.foldlM_cons,List.foldlM_nil,Builtin.min2];simp[Sem.run_bind,Sem.run_pure]
   ·simp only[if_true,Builtin.max_,e1,List.foldlM_cons,List.foldlM_nil,Builtin.max2];simp[Sem.run_bind,Sem.run_pure]
  ·cases hm
 ·cases hm
end
section
variable {E:Env}{P:Program}{w:World}{G:Gh}{ρ:Ren}{h:T Blk}{n:Nat}{t:T Value}{a:Act}
theorem data_inj{a b:ByteArray}(h:a.data.toList=b.data.toList):a=b:=by cases a;cases b;simp only at h;rw[Array.toList_inj.1 h]
theorem bytes_beq(a b:ByteArray):(a == b)=true↔a=b:=by cases a;cases b;show ByteArray.beq _ _=true↔_;unfold ByteArray.beq;simp
theorem eqC_iff{k:CK}{a b:Value}(ha:fitC k a=true)(hb:fitC k b=true):eqC a b=true↔a=b:=by
 cases k<;>cases a<;>simp[fitC] at ha<;>cases b<;>simp[fitC] at hb
 ·simp only[kindEqT] at ha hb;obtain⟨⟨rfl,_⟩,_⟩:=ha;obtain⟨⟨rfl,_⟩,_⟩:=hb;simp[eqC]
 ·simp[eqC]
 ·simp only[eqC,bytesEq_iff,Value.string.injEq];exact⟨data_inj,fun h=>by rw[h]⟩
theorem eqCs_iff:∀ {ks:List CK}{a b:List Value},fitsK ks a=true→fitsK ks b=true→(eqCs a b=true↔a=b)
 | [],[],[],_,_=>by simp[eqCs]
 | [],[],_ :: _,_,h=>by simp[fitsK] at h
 | [],_ :: _,_,h,_=>by simp[fitsK] at h
 | _ :: _,[],_,h,_=>by simp[fitsK] at h
 | _ :: _,_ :: _,[],_,h=>by simp[fitsK] at h
 | k :: ks,a :: x,b :: y,ha,hb=>by simp only[fitsK,baT] at ha hb;simp only[eqCs,baT,eqC_iff ha.1 hb.1,eqCs_iff ha.2 hb.2,List.cons.injEq]
theorem eqKK_iff{kk:KK}{a b:Value}{r:Bool}(h:eqKK kk a b=some r):r=true↔a=b:=by
 unfold eqKK at h;split at h
 ·simp only[biE,kindEqT] at h;split at h
  ·rename_i hk;cases h;subst hk;simp
  ·cases h
 ·cases h;rw[bytesEq_iff];exact⟨fun e=>by rw[data_inj e],fun e=>by cases e;rfl⟩
 ·obtain⟨f1,f2,rfl⟩:=eqFlat_some h;rw[eqCs_iff f1 f2];exact⟨fun e=>by rw[Array.toList_inj.1 e],fun e=>by cases e;rfl⟩
 ·cases h
theorem fitKK_rel{kk:KK}{a q:Value}(h:fitKK kk a=true)(hq:VRel ρ a q):q=a:=by
 unfold fitKK at h;split at h
 ·exact hq.int_inv
 ·exact hq.string_inv
 ·exact agg_fit h hq
 ·cases h
theorem findA_spec{kk:KK}{k:Value}:∀ {es:List (Value×Value)}{r:Option Value},findA kk k es=some r →
 (∀ e∈es,∃ b,eqKK kk k e.1=some b)∧(r=none→∀ e∈es,eqKK kk k e.1=some false)∧(∀ v,r=some v→∃ e∈es,eqKK kk k e.1=some true∧e.2=v)
 | [],r,h=>by cases h;exact⟨by simp,by simp,by simp⟩
 | e :: es,r,h=>by
   simp only[findA] at h;split at h
   ·cases h
   ·rename_i r' hr';obtain⟨h1,h2,h3⟩:=findA_spec hr';split at h
    ·rename_i he;cases h;refine⟨?_,(fun h=>by cases h),fun v hv=>⟨e,mcS ..,he,by cases hv;rfl⟩⟩;intro x hx;rcases List.mem_cons.1 hx with rfl|hx
     ·exact⟨_,he⟩
     ·exact h1 x hx
    ·rename_i he;cases h;refine⟨?_,?_,?_⟩
     ·intro x hx;rcases List.mem_cons.1 hx with rfl|hx
      ·exact⟨_,he⟩
      ·exact h1 x hx
     ·intro hn x hx;rcases List.mem_cons.1 hx with rfl|hx
      ·exact he
      ·exact h2 hn x hx
     ·intro v hv;obtain⟨x,hx,hx'⟩:=h3 v hv;exact⟨x,mcM _ hx,hx'⟩
    ·cases h
def findF(f:Value→Bool):List MapEntry→Nat→Option (Nat×Value)
 | [],_=>none
 | e :: es,i=>if f e.key then some (i,e.val) else findF f es (i+1)
theorem findF_none{f:Value→Bool}:∀ {l:List MapEntry}{i:Nat},(∀ e∈l,f e.key=false)→findF f l i=none
 | [],_,_=>rfl
 | e :: l,i,h=>by simp only[findF,h e (mcS ..),Bool.false_eq_true,if_false];exact findF_none fun x hx=>h x (mcM _ hx)
theorem findF_some{f:Value→Bool}:∀ {l:List MapEntry}{i:Nat},(∃ e∈l,f e.key=true)→∃ j e,l[j]? =some e∧f e.key=true∧findF f l i=some (i+j,e.val)
 | [],_,h=>by obtain⟨e,he,_⟩:=h;cases he
 | e :: l,i,h=>by
   by_cases hf:f e.key=true
   ·exact⟨0,e,rfl,hf,by simp[findF,hf]⟩
   ·obtain⟨x,hx,hfx⟩:=h;have hx:x∈l:=by
     rcases List.mem_cons.1 hx with rfl|hx
     ·exact absurd hfx hf
     ·exact hx
    obtain⟨j,y,h1,h2,h3⟩:=findF_some (i:=i+1) ⟨x,hx,hfx⟩;exact⟨j+1,y,by simpa using h1,h2,by simp only[findF,hf];rw[if_neg (by simp),h3,show i+1+j=i+(j+1) by omega]⟩
theorem run_findNow{d:TypeDesc}{k:Value}{f:Value→Bool}:∀ {l:List MapEntry}{i:Nat},(∀ e∈l,Instr.sameNow d k e.key=some (f e.key))→Instr.findNow d k l i=some (findF f l i)
 | [],_,_=>rfl
 | e :: l,i,h=>by
   simp only[Instr.findNow,h e (mcS ..),findF];cases hf:f e.key
   ·simp only[Bool.false_eq_true,if_false];exact run_findNow fun x hx=>h x (mcM _ hx)
   ·rfl
theorem run_findAsking{kt:TypeId}{k:Value}{f:Value→Bool}:∀ {l:List MapEntry}{i:Nat},(∀ e∈l,(Op.equal kt k e.key).run P w= .ok (f e.key) w) →
 (Instr.findAsking kt k l i).run P w= .ok (findF f l i) w
 | [],_,_=>rfl
 | e :: l,i,h=>by
   simp only[Instr.findAsking,Sem.run_bind,h e (mcS ..),Result.andThen_ok,findF];cases hf:f e.key
   ·simp only[Bool.false_eq_true,if_false];exact run_findAsking fun x hx=>h x (mcM _ hx)
   ·rfl
def isK(kk:KK)(k x:Value):Bool:=match eqKK kk k x with|some true=>true|_=>false
theorem key_sim(K:EOk E P){kt:TypeId}{kk:KK}(hk:kkOf E kt=some kk){k:Value}(hf:fitKK kk k=true) :
 (∀ em,(Instr.checkKey em 10000 kt k).run P w= .ok () w) ∧
 ∀ l:List MapEntry,(∀ e∈l,∃ b,eqKK kk k e.key=some b)→(Instr.findKey kt k l).run P w= .ok (findF (isK kk k) l 0) w:=by
 unfold kkOf at hk;split at hk
 ·rename_i i hi;obtain⟨ti,t1,t2,_⟩:=K.ty kt i hi;have basic:∀ {d:TypeDesc},i.d=d→(∀ m,d≠ .interface m)→(∀ m e,d≠ .array m e)→(∀ fs,d≠ .struct fs)→∀ (m:Nat) (em:Bool),(Instr.checkKey em (m+1) kt k).run P w= .ok () w:=by
   intro d hd h1 h2 h3 m em;rw[hd] at t2;unfold Instr.checkKey;rw[Sem.run_bind,run_und t2,Result.andThen_ok];cases d<;>first|rfl|exact absurd rfl (h1 _)|exact absurd rfl (h2 _ _)|exact absurd rfl (h3 _)
  have now:(∀ x b,eqKK kk k x=some b→Instr.sameNow i.d k x=some b)→∀ l:List MapEntry,(∀ e∈l,∃ b,eqKK kk k e.key=some b)→(Instr.findKey kt k l).run P w= .ok (findF (isK kk k) l 0) w:=by
   intro hs l hl;unfold Instr.findKey;rw[Sem.run_bind,run_und t2,Result.andThen_ok,run_findNow (f:=isK kk k)]
   ·rfl
   ·intro e he;obtain⟨b,hb⟩:=hl e he;rw[hs _ _ hb,isK,hb];cases b<;>rfl
  have flat:∀ {ks:List CK} {xs:Array Value},flatKs kt E.flat=some ks→kk= .flat ks→k= .agg xs→fitsK ks xs.toList=true→(∀ x y:Array Value,Instr.sameNow i.d (.agg x) (.agg y)=none) →
   (∀ em,(Instr.checkKey em 10000 kt k).run P w= .ok () w) ∧
   ∀ l:List MapEntry,(∀ e∈l,∃ b,eqKK kk k e.key=some b)→(Instr.findKey kt k l).run P w= .ok (findF (isK kk k) l 0) w:=by
   rintro ks xs hks rfl rfl hfit hsn;obtain⟨l1,l2,l3⟩:=K.flat kt ks hks;refine⟨fun em=>l3 em xs w hfit,fun l hl=>?_⟩;unfold Instr.findKey;rw[Sem.run_bind,run_und t2,Result.andThen_ok];cases l with
   | nil=>rfl
   | cons e l =>
     have hnone:Instr.findNow i.d (.agg xs) (e :: l) 0=none:=by
      obtain⟨b,hb⟩:=hl e (mcS ..);have:∃ ys,e.key= .agg ys:=by
       unfold eqKK at hb;split at hb
       ·simp_all
       ·simp_all
       ·exact⟨_,by assumption⟩
       ·cases hb
      obtain⟨ys,hys⟩:=this;simp only[Instr.findNow,hys,hsn]
     rw[hnone];refine run_findAsking fun x hx=>?_
     obtain⟨b,hb⟩:=hl x hx;have:∃ ys,x.key= .agg ys:=by
      unfold eqKK at hb;split at hb
      ·simp_all
      ·simp_all
      ·exact⟨_,by assumption⟩
      ·cases hb
     obtain⟨ys,hys⟩:=this;rw[hys] at hb ⊢;have hb':=hb;simp only[eqKK] at hb;obtain⟨f1,f2,f3⟩:=eqFlat_some hb;rw[l1 xs ys w f1 f2,isK,hb',f3];cases eqCs xs.toList ys.toList<;>rfl
  split at hk
  ·rename_i hd;cases hk;refine⟨basic hd (by simp) (by simp) (by simp) 9999,now ?_⟩;intro x b hb;rw[hd];unfold eqKK at hb;split at hb
   ·simp_all
   ·rename_i a b _;cases hb;change some (a == b)=some (bytesEq a.data.toList b.data.toList)
    congr 1
    rw[Bool.eq_iff_iff,bytesEq_iff];rw[bytes_beq];exact⟨fun e=>by rw[e],data_inj⟩
   ·simp_all
   ·cases hb
  ·rename_i kd hd;cases hk;refine⟨basic hd (by simp) (by simp) (by simp) 9999,now ?_⟩;intro x b hb;rw[hd];unfold eqKK at hb;split at hb
   ·simp only[biE,kindEqT] at hb;split at hb
    ·rename_i hkk;subst hkk;cases hb;simp only[Instr.sameNow,if_true]
     congr 1
    ·cases hb
   ·simp_all
   ·simp_all
   ·cases hb
  ·rename_i fs hd;split at hk
   ·rename_i ks hks;cases hk;unfold fitKK at hf;split at hf
    ·simp_all
    ·simp_all
    ·rename_i ks' xs e;cases e;exact flat hks rfl rfl hf (by rw[hd];intros;rfl)
    ·cases hf
   ·cases hk
  ·rename_i m e hd;split at hk
   ·rename_i ks hks;cases hk;unfold fitKK at hf;split at hf
    ·simp_all
    ·simp_all
    ·rename_i ks' xs e;cases e;exact flat hks rfl rfl hf (by rw[hd];intros;rfl)
    ·cases hf
   ·cases hk
  ·cases hk
 ·cases hk
theorem run_getObj{r:Nat}{o:Obj}(hr:w.heap[r]? =some o)(hc:∀ c e f,o≠ .cells c e f):(getObj r).run P w= .ok o w:=by simp only[getObj,Sem.run,hr]
theorem run_setObj{r:Nat}{o o':Obj}(hr:w.heap[r]? =some o)(hc:∀ c e f,o≠ .cells c e f) :
 ∃ w',(setObj r o').run P w= .ok () w'∧HSet w r o' w':=by
 have hlt:r<w.heap.size:=(Array.getElem?_eq_some_iff.1 hr).1;refine⟨{w with heap:=w.heap.setIfInBounds r o'},?_,HSet.mk' _ hlt⟩;simp only[setObj,Sem.run,hr]
theorem mem_keys{es':List (Value×Value)}{l:List MapEntry}(hk:es'.map (·.1)=l.map (·.key)){j:Nat}{e:MapEntry}(hj:l[j]? =some e):∃ x,es'[j]? =some x∧x.1=e.key:=by
 have h1:(l.map (·.key))[j]? =some e.key:=by rw[List.getElem?_map,hj];rfl
 rw[←hk,List.getElem?_map] at h1;cases hx:es'[j]? with
 | none=>rw[hx] at h1;cases h1
 | some x=>rw[hx] at h1;exact⟨x,rfl,by simpa using h1⟩
theorem find_sim{kk:KK}{k:Value}{es:List (Value×Value)}{r:Option Value}(h:findA kk k es=some r){l:List MapEntry}(hm:MapRel ρ es l) :
 (∀ e∈l,∃ b,eqKK kk k e.key=some b)∧(r=none→findF (isK kk k) l 0=none) ∧
 (∀ v,r=some v→∃ i e,l[i]? =some e∧e.key=k∧findF (isK kk k) l 0=some (i,e.val)∧VRel ρ v e.val):=by
 obtain⟨ha,es',hp,hk,hv⟩:=hm;obtain⟨h1,h2,h3⟩:=findA_spec h;have hap:KeysApart es':=(hp.pairwise_iff (fun h=>fun e=>h e.symm)).2 ha;have all:∀ e∈l,∃ b,eqKK kk k e.key=some b:=by intro e he;obtain⟨j,hj⟩:=List.getElem?_of_mem he;obtain⟨x,hx,hxe⟩:=mem_keys hk hj;obtain⟨b,hb⟩:=h1 x (hp.mem_iff.1 (List.mem_of_getElem? hx));exact⟨b,hxe▸hb⟩
 refine⟨all,?_,?_⟩
 ·intro hn;refine findF_none fun e he=>?_
  obtain⟨j,hj⟩:=List.getElem?_of_mem he;obtain⟨x,hx,hxe⟩:=mem_keys hk hj;have:=h2 hn x (hp.mem_iff.1 (List.mem_of_getElem? hx));rw[isK,← hxe,this]
 ·intro v hrv;obtain⟨x,hx,hxk,hxv⟩:=h3 v hrv;have hkx:k=x.1:=(eqKK_iff hxk).1 rfl;obtain⟨m,hm⟩:=List.getElem?_of_mem (hp.mem_iff.2 hx);have hlm:m<l.length:=by
   have h4:(es'.map (·.1)).length=(l.map (·.key)).length:=by rw[hk]
   rw[List.length_map,List.length_map] at h4;rw[←h4];exact(gsI hm).1
  obtain⟨x2,hx2,hx2e⟩:=mem_keys hk (ggE hlm);rw[hm] at hx2;cases hx2;obtain⟨j,e,hj,hje,hf⟩:=findF_some (f:=isK kk k) (l:=l) (i:=0) ⟨l[m],List.getElem_mem hlm,by rw[isK,← hx2e,hxk]⟩;have hek:k=e.key:=by
   unfold isK at hje;split at hje
   ·rename_i hh;exact(eqKK_iff hh).1 rfl
   ·cases hje
  obtain⟨y,hy,hye⟩:=mem_keys hk hj;have hjm:j=m:=by
   rcases Nat.lt_trichotomy j m with hlt|heq|hlt
   ·have hjlt:=(gsI hy).1;have hmlt:=(gsI hm).1;have:=List.pairwise_iff_getElem.1 hap j m hjlt hmlt hlt;rw[ggE hjlt] at hy;rw[ggE hmlt] at hm;cases hy;cases hm;exact absurd (by rw[hye,← hek,hkx]) this
   ·exact heq
   ·have hjlt:=(gsI hy).1;have hmlt:=(gsI hm).1;have:=List.pairwise_iff_getElem.1 hap m j hmlt hjlt hlt;rw[ggE hjlt] at hy;rw[ggE hmlt] at hm;cases hy;cases hm;exact absurd (by rw[hye,← hek,hkx]) this
  subst hjm;refine⟨j,e,hj,hek.symm,by rw[hf,Nat.zero_add],?_⟩;have h5:(es'.map (·.2))[j]? =some v:=by rw[List.getElem?_map,hm];simp[hxv]
  obtain⟨u,hu,hu'⟩:=hv.get h5;rw[List.getElem?_map,hj] at hu;cases hu;exact hu'
theorem lookup_sim(K:EOk E P)(hw:∀ b L k,ρ b=some L→h.get b=some k→BRel ρ L k w.heap[L.blk]?){mt:TypeId}{m q k y:Value}{ok:Bool}(hm:VRel ρ m q)(hk:VRel ρ k y) :
 VSim ρ P w (lookupA E mt m k ok h) (Instr.lookup mt q y ok):=by
 intro v hv;unfold lookupA at hv;split at hv
 ·rename_i i hi;obtain⟨ti,t1,t2,_⟩:=K.ty mt i hi;split at hv
  ·rename_i kt et hd;rw[hd] at t2;split at hv
   ·rename_i kk r hkk;simp only[biE] at hv;split at hv
    ·rename_i hfit;rw[fitKK_rel hfit hk];cases hm with
     | map hb =>
       rename_i L;split at hv
       ·rename_i es hes;obtain⟨ents,clock,hh,hmr,_⟩:=hw r L _ hb hes;obtain⟨kc,kf⟩:=key_sim (P:=P) (w:=w) K hkk hfit;have pre:∀ {res:Option (Nat×Value)},(Instr.findKey kt k ents.toList).run P w= .ok res w→(Instr.lookup mt (.map (some L.blk)) k ok).run P w =
         ((do
           let (v,b) ← match res with
            | some (_,v)=>pure (v,true)
            | none=>pure (← zeroValue et,false)
           pure (if ok then .tuple #[v,.bool b] else v)):Sem Value).run P w:=by
         intro res hres;unfold Instr.lookup;rw[Sem.run_bind,run_und t2,Result.andThen_ok];simp only;rw[Sem.run_bind,run_getObj hh (by simp),Result.andThen_ok];simp only;rw[Sem.run_bind,Sem.run_pure,Result.andThen_ok,Sem.run_bind,kc,Result.andThen_ok,Sem.run_bind,hres,Result.andThen_ok];cases res<;>rfl
        split at hv
        ·rename_i u hu;cases hv;obtain⟨f1,f2,f3⟩:=find_sim hu hmr;obtain⟨j,e,e1,e2,e3,e4⟩:=f3 _ rfl;rw[pre ((kf _ f1).trans (by rw[e3]))];cases ok
         ·exact⟨_,rfl,e4⟩
         ·exact⟨_,rfl,.mkTuple (.cons e4 (.cons (.bool _) (.nil ρ)))⟩
        ·rename_i hu;split at hv
         ·rename_i j hj;split at hv
          ·rename_i hz;obtain⟨tj,j1,j2,j3,_,j5⟩:=K.ty et j hj;obtain⟨z,z1,z2,z3,z4,z5,z6⟩:=j5 hz;have hzv:(if isAgg j.d=true then Value.agg ⟨j.zero⟩ else j.zero.headD .nilIface)=z:=by
            cases hag:isAgg j.d
            ·rw[z6 hag];rfl
            ·rw[z5 hag];rfl
           rw[hzv] at hv;cases hv;have hzr:=lit_rel ρ 6 z z2;obtain⟨f1,f2,f3⟩:=find_sim hu hmr;rw[pre ((kf _ f1).trans (by rw[f2 rfl]))];cases ok
           ·refine⟨z,?_,hzr⟩;simp[Sem.run_bind,run_zero j1 z1]
           ·refine⟨.tuple #[z,.bool false],?_,.mkTuple (.cons hzr (.cons (.bool _) (.nil ρ)))⟩;simp[Sem.run_bind,run_zero j1 z1]
          ·cases hv
         ·cases hv
        ·cases hv
       ·cases hv
    ·cases hv
   ·rename_i kk hkk;simp only[biE] at hv;split at hv
    ·rename_i hfit;rw[fitKK_rel hfit hk];cases hm;obtain⟨kc,kf⟩:=key_sim (P:=P) (w:=w) K hkk hfit;split at hv
     ·rename_i j hj;split at hv
      ·rename_i hz;obtain⟨tj,j1,j2,j3,_,j5⟩:=K.ty et j hj;obtain⟨z,z1,z2,z3,z4,z5,z6⟩:=j5 hz;have hzv:(if isAgg j.d=true then Value.agg ⟨j.zero⟩ else j.zero.headD .nilIface)=z:=by
        cases hag:isAgg j.d
        ·rw[z6 hag];rfl
        ·rw[z5 hag];rfl
       rw[hzv] at hv;cases hv;have hzr:=lit_rel ρ 6 z z2;have hfind:(Instr.findKey kt k (#[]:Array MapEntry).toList).run P w= .ok none w:=kf [] (fun e he=>by cases he);have pre:(Instr.lookup mt (.map none) k ok).run P w= .ok (if ok then .tuple #[z,.bool false] else z) w:=by unfold Instr.lookup;rw[Sem.run_bind,run_und t2,Result.andThen_ok];simp only;rw[Sem.run_bind,Sem.run_pure,Result.andThen_ok,Sem.run_bind,kc,Result.andThen_ok,Sem.run_bind,hfind,Result.andThen_ok];simp[Sem.run_bind,run_zero j1 z1]
       rw[pre];cases ok
       ·exact⟨z,rfl,hzr⟩
       ·exact⟨.tuple #[z,.bool false],rfl,.mkTuple (.cons hzr (.cons (.bool _) (.nil ρ)))⟩
      ·cases hv
     ·cases hv
    ·cases hv
   ·cases hv
  ·cases hv
 ·cases hv
def setV(kk:KK)(k v:Value)(e:Value×Value):Value×Value:=if isK kk k e.1 then (e.1,v) else e
theorem putKey_none{kk:KK}{k v:Value}:∀ {es:List (Value×Value)},(∀ e∈es,eqKK kk k e.1=some false)→putKey kk k v es=es ++ [(k,v)]
 | [],_=>rfl
 | e :: es,h=>by simp only[putKey,h e (mcS ..),List.cons_append];rw[putKey_none fun x hx=>h x (mcM _ hx)]
theorem putKey_some{kk:KK}{k v:Value}:∀ {es:List (Value×Value)},KeysApart es→(∀ e∈es,∃ b,eqKK kk k e.1=some b)→(∃ e∈es,eqKK kk k e.1=some true) →
 putKey kk k v es=es.map (setV kk k v)
 | [],_,_,h=>by obtain⟨e,he,_⟩:=h;cases he
 | e :: es,ha,hf,hm=>by
   obtain⟨ha1,ha2⟩:=List.pairwise_cons.1 ha;obtain⟨b,hb⟩:=hf e (mcS ..);cases b with
   | true =>
     have hke:=(eqKK_iff hb).1 rfl;have hrest:es.map (setV kk k v)=es:=by
      conv=>rhs;rw[←List.map_id es]
      refine List.map_congr_left fun x hx=>?_
      obtain⟨c,hc⟩:=hf x (mcM _ hx);cases c with
      | true=>exact absurd (hke.symm.trans ((eqKK_iff hc).1 rfl)) (ha1 x hx)
      | false=>simp[setV,isK,hc]
     simp only[putKey,hb,List.map_cons,hrest];simp[setV,isK,hb]
   | false =>
     simp only[putKey,hb,List.map_cons];rw[putKey_some ha2 (fun x hx=>hf x (mcM _ hx))]
     ·simp[setV,isK,hb]
     ·obtain⟨x,hx,hxk⟩:=hm;rcases List.mem_cons.1 hx with rfl|hx
      ·rw[hb] at hxk;cases hxk
      ·exact⟨x,hx,hxk⟩
theorem setV_fst{kk:KK}{k v:Value}(e:Value×Value):(setV kk k v e).1=e.1:=by unfold setV;split<;>rfl
theorem mapPut_sim(K:EOk E P)(H:St G ρ h n w){mt:TypeId}{m q k y v z:Value}(hm:VRel ρ m q)(hk:VRel ρ k y)(hv:VRel ρ v z){h':T Blk}(hp:mapPutA E mt m k v h=some h') :
 ∃ w',(Instr.mapUpdate mt q y z).run P w= .ok () w'∧Stp G ρ h n ρ h' n w':=by
 unfold mapPutA at hp;split at hp
 ·rename_i i hi;obtain⟨ti,t1,t2,_⟩:=K.ty mt i hi;split at hp
  ·rename_i kt et hd;rw[hd] at t2;split at hp
   ·rename_i kk r hkk;simp only[biE] at hp;split at hp
    ·rename_i hfit;have hyk:=(fitKK_rel hfit hk).symm;subst hyk;cases hm with
     | map hb =>
       rename_i L;split at hp
       ·rename_i es hes;split at hp
        ·rename_i res hres;cases hp;obtain⟨ents,clock,hh,hmr,hst⟩:=H.wr.blk r L _ hb hes;obtain⟨kc,kf⟩:=key_sim (P:=P) (w:=w) K hkk hfit;obtain⟨f1,f2,f3⟩:=find_sim hres hmr;obtain⟨s1,s2,s3⟩:=findA_spec hres;obtain⟨ha,es',hp,hkeys,hvals⟩:=hmr;have hlen:es'.length=ents.size:=by
          have:=congrArg List.length hkeys;simpa using this
         unfold Instr.mapUpdate;rw[Sem.run_bind,run_und t2,Result.andThen_ok];simp only;rw[Sem.run_bind,run_getObj hh (by simp),Result.andThen_ok];simp only;rw[Sem.run_bind,kc,Result.andThen_ok,Sem.run_bind,kf _ f1,Result.andThen_ok];cases res with
         | none =>
           rw[f2 rfl];simp only;obtain⟨w',r1,r2⟩:=run_setObj (P:=P) (o':= .map (ents.push {key:=k,val:=z,born:=clock}) (clock+1)) hh (by simp);refine⟨w',r1,H.set hb hes rfl r2 ⟨_,_,rfl,⟨?_,es' ++ [(k,v)],?_,?_,?_⟩,MapKept.stamped_push hst fun x hx e=>?_⟩⟩
           ·rw[putKey_none (s2 rfl)];refine List.pairwise_append.2 ⟨ha,List.pairwise_singleton _ _,fun a ha' b hb'=>?_⟩;have hb':=List.mem_singleton.1 hb';subst hb';intro e;have:=(eqKK_iff (s2 rfl a ha')).2 e.symm;cases this
           ·rw[putKey_none (s2 rfl)];exact hp.append_right _
           ·simp[hkeys]
           ·simp only[List.map_append,Array.toList_push,List.map_cons,List.map_nil];exact hvals.append (.cons hv (.nil ρ))
           ·obtain⟨j,hj⟩:=List.getElem?_of_mem hx;obtain⟨y,hy,hye⟩:=mem_keys hkeys hj;have:=(eqKK_iff (s2 rfl y (hp.mem_iff.1 (List.mem_of_getElem? hy)))).2 (by rw[hye,e]);cases this
         | some u =>
           obtain⟨j,e,e1,e2,e3,e4⟩:=f3 u rfl;rw[e3];simp only;have ej:ents[j]? =some e:=by simpa using e1
           have hstay:∃ w1,(Instr.keyThatStays (((ents[j]?).map (·.key)).getD k) k).run P w= .ok k w1∧Lk w w1:=by
            rw[ej];simp only[Option.map_some,Option.getD_some,e2];unfold Instr.keyThatStays;split
            ·exact⟨w,rfl,⟨rfl,rfl⟩⟩
            ·refine⟨{w with drawn:=w.drawn+1},?_,⟨rfl,rfl⟩⟩;rw[Sem.run_bind];have:∃ c,(choose (.extern "map.whichKeyStays" 2)).run P w= .ok c {w with drawn:=w.drawn+1}:=⟨_,rfl⟩
             obtain⟨c,hc⟩:=this;rw[hc,Result.andThen_ok];simp[Sem.run_pure]
           obtain⟨w1,st1,st2⟩:=hstay;rw[Sem.run_bind,st1,Result.andThen_ok];obtain⟨w',r1,r2⟩:=run_setObj (P:=P) (w:=w1) (o':= .map (ents.modify j fun e=>{e with key:=k,val:=z}) clock) (by rw[st2.1];exact hh) (by simp);have r2':HSet w L.blk (.map (ents.modify j fun e=>{e with key:=k,val:=z}) clock) w':=⟨by rw[r2.size,st2.1],r2.at_,fun r' hr'=>by rw[r2.rest r' hr',st2.1],r2.out.trans st2.2⟩
           have hput:=putKey_some (v:=v) ha s1 (by obtain⟨x,hx,hx1,_⟩:=s3 u rfl;exact⟨x,hx,hx1⟩);have hap:KeysApart es':=(hp.pairwise_iff (fun h=>fun e=>h e.symm)).2 ha;obtain⟨x,hx,hxk⟩:=mem_keys hkeys e1;have hjlt:=(gsI hx).1;have hxis:isK kk k x.1=true:=by obtain⟨b,hb⟩:=s1 x (hp.mem_iff.1 (List.mem_of_getElem? hx));have:b=true:=(eqKK_iff hb).2 (by rw[hxk,e2]);rw[isK,hb,this]
           have uniq:∀ m y,es'[m]? =some y→isK kk k y.1=true→m=j:=by
            intro m y hy hyk;have hky:k=y.1:=by
             unfold isK at hyk;split at hyk
             ·rename_i hh;exact(eqKK_iff hh).1 rfl
             ·cases hyk
            have hmlt:=(gsI hy).1;have hy2:=(gsI hy).2;have hx2:=(gsI hx).2;rcases Nat.lt_trichotomy m j with hlt|heq|hlt
            ·have:=List.pairwise_iff_getElem.1 hap m j hmlt hjlt hlt;rw[hy2,hx2] at this;exact absurd (by rw[←hky,hxk,e2]) this
            ·exact heq
            ·have:=List.pairwise_iff_getElem.1 hap j m hjlt hmlt hlt;rw[hy2,hx2] at this;exact absurd (by rw[←hky,hxk,e2]) this
           refine⟨w',r1,H.set hb hes rfl r2' ⟨_,_,rfl,⟨?_,es'.map (setV kk k v),?_,?_,?_⟩,MapKept.stamped_modify hst _ _ (fun _ _=>rfl) (fun e' _ he'=>by rw[ej] at he';cases he';exact e2.symm)⟩⟩
           ·rw[hput];refine List.pairwise_map.2 (ha.imp fun {a b} hab=>?_);rw[setV_fst,setV_fst];exact hab
           ·rw[hput];exact hp.map _
           ·rw[List.map_map];have:((fun x=>x.1)∘setV kk k v)=(fun x:Value×Value=>x.1):=funext fun e=>setV_fst e
            rw[this,hkeys,Array.toList_modify];apply List.ext_getElem?;intro m;rw[List.getElem?_map,List.getElem?_map,List.getElem?_modify];by_cases hmj:j=m
            ·subst hmj;rw[e1];simp[e2]
            ·simp[hmj]
           ·rw[Array.toList_modify];refine .of (by simp[hlen]) fun m a hma=>?_
            rw[List.getElem?_map,List.getElem?_map] at hma;cases hem:es'[m]? with
            | none=>rw[hem] at hma;cases hma
            | some ym =>
              rw[hem] at hma;simp only[Option.map_some,Option.some.injEq] at hma;rw[List.getElem?_map,List.getElem?_modify];by_cases hmk:isK kk k ym.1=true
              ·have hmj:=uniq m ym hem hmk;subst hmj;rw[e1];refine⟨z,by simp,?_⟩;rw[←hma];simp only[setV,hmk,if_true];exact hv
              ·have hmj:j≠m:=by
                intro h;subst h;rw[hx] at hem;cases hem;exact hmk hxis
               have h5:(es'.map (·.2))[m]? =some a:=by rw[List.getElem?_map,hem,← hma];simp[setV,hmk]
               obtain⟨b,hb,hb'⟩:=hvals.get h5;rw[List.getElem?_map] at hb;exact⟨b,by simpa [hmj] using hb,hb'⟩
        ·cases hp
       ·cases hp
    ·cases hp
   ·cases hp
  ·cases hp
 ·cases hp
end
section
variable {E:Env}{P:Program}{w:World}{G:Gh}{ρ:Ren}{h:T Blk}{n:Nat}{t:T Value}{a:Act}
theorem range_sim(K:EOk E P)(H:St G ρ h n w){ty:TypeId}{i:TyI}(hi:E.ty.get ty=some i)(hd:i.d= .string){s:ByteArray} :
 OSim G ρ h n w (.val (ptrTo n) (newA h n (.iter s 0)) (n+1)) ((do pure (.value (← Instr.range ty (.string s))):Sem Next).run P w):=by
 obtain⟨ti,t1,t2,_⟩:=K.ty ty i hi;rw[hd] at t2;refine⟨ρ.add n ⟨w.heap.size,0,0⟩,{w with heap:=w.heap.push (.stringIter s 0)},.pointer (some ⟨w.heap.size,0,none⟩),?_,?_,H.alloc rfl (HPush.mk' w _) ⟨rfl,rfl⟩⟩
 ·rw[Sem.run_bind];unfold Instr.range;rw[Sem.run_bind,run_und t2,Result.andThen_ok];rfl
 ·simpa [ptrTo] using VRel.ptr (o:=0) (Ren.add_same ρ n ⟨w.heap.size,0,0⟩)
theorem decode_ascii{s:ByteArray}{i:Nat}{c:UInt8}(hc:s.data.toList[i]? =some c)(h:c.toNat<128):Utf8.decode s i=(c.toNat,1):=by
 have hlt:i<s.data.size:=by have:=(gsI hc).1;rw[Array.length_toList] at this;exact this
 have hg:s.get! (i+0)=c:=by have h1:=(gsI hc).2;show s.data[i+0]! =c;rw[Nat.add_zero,getElem!_pos s.data i hlt,← h1];simp
 unfold Utf8.decode;simp only[hg];rw[if_pos (by omega)]
theorem next_sim(H:St G ρ h n w){b:Nat}{s:ByteArray}{pos:Nat}(hb:h.get b=some (.iter s pos)){q:Value}(hq:VRel ρ (.pointer (some ⟨b,0,none⟩)) q){ty:TypeId} :
 (∀ c,nth s.data.toList pos=some c→OSim G ρ h n w (.val (.tuple #[.bool true,.int .i64 pos,.int .i32 (Utf8.decode s pos).1]) (h.upd (some (.iter s (pos+(Utf8.decode s pos).2))) b) n)
  ((do pure (.value (← Instr.next q true ty)):Sem Next).run P w)) ∧
 (nth s.data.toList pos=none→OSim G ρ h n w (.val (.tuple #[.bool false]) h n) ((do pure (.value (← Instr.next q true ty)):Sem Next).run P w)):=by
 cases hq with
 | ptr hρ =>
   rename_i L;obtain⟨k1,k2⟩:=H.wr.blk b L _ hρ hb;rw[k2];have hpre:(getObj L.blk).run P w= .ok (.stringIter s pos) w:=run_getObj k1 (by simp);constructor
   ·intro c hc;rw[nth_eq] at hc;have hsz:pos<s.size:=by
     have:=(gsI hc).1;rw[Array.length_toList] at this;exact this
    obtain⟨w',r1,r2⟩:=run_setObj (P:=P) (o':= .stringIter s (pos+(Utf8.decode s pos).2)) k1 (by simp);refine⟨ρ,w',.tuple #[.bool true,.int .i64 pos,.int .i32 (Utf8.decode s pos).1],?_,.mkTuple (.cons (.bool _) (.cons (.int _ _) (.cons (.int _ _) (.nil ρ)))),H.set hρ hb rfl r2 ⟨rfl,k2⟩⟩;rw[Sem.run_bind];unfold Instr.next;simp only;rw[Sem.run_bind,hpre,Result.andThen_ok];simp only;rw[if_pos hsz];rw[Sem.run_bind,r1,Result.andThen_ok];rfl
   ·intro hc;rw[nth_eq] at hc;have hsz:¬ pos<s.size:=by
     intro hlt;have:pos<s.data.toList.length:=by rw[Array.length_toList];exact hlt
     rw[ggE this] at hc;cases hc
    refine⟨ρ,w,.tuple #[.bool false],?_,.mkTuple (.cons (.bool _) (.nil ρ)),.refl H⟩;rw[Sem.run_bind];unfold Instr.next;simp only;rw[Sem.run_bind,hpre,Result.andThen_ok];simp only;rw[if_neg hsz];rfl
theorem next_ascii(H:St G ρ h n w){b:Nat}{s:ByteArray}{pos:Nat}(hb:h.get b=some (.iter s pos)){q:Value}(hq:VRel ρ (.pointer (some ⟨b,0,none⟩)) q){ty:TypeId}{c:UInt8}(hc:nth s.data.toList pos=some c)(hlt:c.toNat<128) :
 OSim G ρ h n w (.val (.tuple #[.bool true,.int .i64 pos,.int .i32 c.toNat]) (h.upd (some (.iter s (pos+1))) b) n) ((do pure (.value (← Instr.next q true ty)):Sem Next).run P w):=by
 have h1:=(next_sim (P:=P) (ty:=ty) H hb hq).1 c hc;rw[decode_ascii (by rw[←nth_eq];exact hc) hlt] at h1;exact h1
theorem FRel.func_inv{k:FuncId}{g:Fn}(h:FRel ρ (.func k) g):g= .func k:=by cases g<;>simp only[FRel] at h;rw[h]
theorem FRel.yield_inv{l:Nat}{g:Fn}(h:FRel ρ (.yield l) g):∃ L,ρ l=some L∧g= .yield L.blk:=by cases g<;>simp only[FRel] at h;obtain⟨L,h1,h2⟩:=h;exact⟨L,h1,by rw[h2]⟩
theorem call_sim(K:EOk E P)(H:St G ρ h n w){f g:Value}(hf:VRel ρ f g){args:List Value}{ys:Array Value}(hargs:LRel ρ args ys.toList) :
 OSim G ρ h n w (callA E h n f args) ((do let d ← Deferred.ofValue g ys;invoke d.target d.args:Sem Next).run P w):=by
 unfold callA;split
 ·rename_i k first capt
  cases hf with
  | func hff ha hb h1 h2 =>
    rename_i g' a' b';split
    ·rename_i fn hfn;obtain⟨p1,p2,p3⟩:=K.fn k fn hfn;have hg:g'= .func k:=hff.func_inv;subst hg;refine⟨a' ++ ys ++ b',?_,?_⟩
     ·rw[Sem.run_bind];simp only[Deferred.ofValue,Sem.run_pure,Result.andThen_ok,invoke,callFunc];rw[Sem.run_bind];have:(program).run P w= .ok P w:=rfl;rw[this,Result.andThen_ok,p1];simp only[p2,p3,Bool.false_eq_true,if_false,Sem.run_pure]
     ·rw[Array.toList_append,Array.toList_append];exact(LRel.append ⟨ha,h1⟩ hargs).append ⟨hb,h2⟩
    ·exact trivial
 ·rename_i l first capt
  rw[biE];split
  ·rename_i hem;cases hf with
   | func hff ha hb h1 h2 =>
     rename_i g' a' b';intro lr hlr hlen;have hg:=hff.yield_inv;obtain⟨L,hL,rfl⟩:=hg;obtain⟨R,r1,r2⟩:=H.wr.blk l L _ hL hlr;have ha0:a'=#[]:=by
      have:first.toList=[]:=List.isEmpty_iff.1 hem
      rw[this] at ha;apply Array.toList_inj.1;have:=List.length_eq_zero_iff.1 ha.symm;rw[this]
     refine⟨L,ys,R,hL,r1,hargs,?_⟩;rw[Sem.run_bind];simp only[Deferred.ofValue,Sem.run_pure,Result.andThen_ok,invoke,Instr.yield,ha0,Array.empty_append];rw[Sem.run_bind];have hgl:(Instr.getLoop L.blk).run P w= .ok R w:=by unfold Instr.getLoop;rw[Sem.run_bind,run_getObj r1 (by simp),Result.andThen_ok];rfl
     rw[hgl,Result.andThen_ok];have hsz:¬ (ys.size≠R.params.size):=by
      have e1:=hargs.size_eq;have e2:R.params.size=lr.params.length:=by rw[←r2.2.2.1,Array.length_toList]
      rw[←e1,e2];simpa using hlen
     rw[if_neg hsz];rfl
  ·exact trivial
 ·exact trivial
theorem builtin_sim(K:EOk E P)(H:St G ρ h n w){b:Builtin}{ats:Array TypeId}{ty:TypeId}{cs:Array Bool}{args:List Value}{ys:Array Value}(hargs:LRel ρ args ys.toList) :
 OSim G ρ h n w (builtinA E b ats.toList args h n) ((builtin b ats ty cs ys).run P w):=by
 have one:∀ {x:Value},args=[x]→∃ y,ys=#[y]∧VRel ρ x y:=by rintro x rfl;obtain⟨y,m,e,h1,h2⟩:=hargs.cons_left;rw[h2.nil_left] at e;exact⟨y,Array.toList_inj.1 e,h1⟩
 have two:∀ {x z:Value},args=[x,z]→∃ y u,ys=#[y,u]∧VRel ρ x y∧VRel ρ z u:=by rintro x z rfl;obtain⟨y,m,e,h1,h2⟩:=hargs.cons_left;obtain⟨u,m',e',h3,h4⟩:=h2.cons_left;rw[e',h4.nil_left] at e;exact⟨y,u,Array.toList_inj.1 e,h1,h3⟩
 have hd:∀ {st:TypeId} {ts:List TypeId},ats.toList=st :: ts→ats[0]? =some st∧ats[1]? =nth ts 0:=by
  intro st ts e;constructor
  ·rw[←Array.getElem?_toList,e];rfl
  ·rw[←Array.getElem?_toList,e,nth_eq];simp
 unfold builtinA;split
 ·rename_i st ts x hats;obtain⟨y,rfl,hx⟩:=one rfl;obtain⟨d1,_⟩:=hd hats;cases hl:lenA E st x with
  | none=>exact trivial
  | some k=>exact⟨ρ,w,.int .i64 k,by simp[builtin,Sem.run_bind,len_sim K d1 hx hl],.int _ _,.refl H⟩
 ·rename_i st ts s x hats;obtain⟨y,u,rfl,hs,hx⟩:=two rfl;obtain⟨d1,d2⟩:=hd hats;split
  ·rename_i v h' n' ha;obtain⟨ρ',w',z,r1,r2,r3⟩:=append_sim (P:=P) (ty:=ty) K H d1 d2 hs hx ha;exact⟨ρ',w',z,by simp[builtin,Sem.run_bind,r1],r2,r3⟩
  ·exact trivial
 ·rename_i st ts d x hats;obtain⟨y,u,rfl,hs,hx⟩:=two rfl;obtain⟨d1,d2⟩:=hd hats;split
  ·rename_i v h' ha;obtain⟨w',r1,r2,r3⟩:=copy_sim (P:=P) (ty:=ty) K H d1 hs hx ha;exact⟨ρ,w',v,by simp[builtin,Sem.run_bind,r1],r2,r3⟩
  ·exact trivial
 ·rename_i st ts d hats;obtain⟨y,rfl,hx⟩:=one rfl;obtain⟨d1,_⟩:=hd hats;split
  ·rename_i h' ha;obtain⟨w',r1,r3⟩:=clear_sim (P:=P) (ty:=ty) K H d1 hx ha;exact⟨ρ,w',.tuple #[],by simp[builtin,Sem.run_bind,r1],.mkTuple (.nil ρ),r3⟩
  ·exact trivial
 ·unfold val?;split
  case h_2=>exact trivial
  case h_1 =>
   rename_i v hm;obtain⟨r1,r2⟩:=max_sim (P:=P) (w:=w) (ats:=ats) (ty:=ty) hargs hm;exact⟨ρ,w,v,by simp only[if_true] at r1;simp[builtin,Sem.run_bind,r1],r2,.refl H⟩
 ·unfold val?;split
  case h_2=>exact trivial
  case h_1 =>
   rename_i v hm;obtain⟨r1,r2⟩:=max_sim (P:=P) (w:=w) (ats:=ats) (ty:=ty) hargs hm;exact⟨ρ,w,v,by simp only[Bool.false_eq_true,if_false] at r1;simp[builtin,Sem.run_bind,r1],r2,.refl H⟩
 ·rename_i st ts x hats;obtain⟨y,rfl,hx⟩:=one rfl;obtain⟨d1,_⟩:=hd hats;cases hl:capA E st x with
  | none=>exact trivial
  | some k=>exact⟨ρ,w,.int .i64 k,by simp[builtin,Sem.run_bind,cap_sim K d1 hx hl],.int _ _,.refl H⟩
 ·exact trivial
theorem val_sim{v:Option Value}{y:Value}{why:String}{r:Result Next}(H:St G ρ h n w)(hr:r= .ok (.value y) w)(hv:∀ x,v=some x→VRel ρ x y):OSim G ρ h n w (val? h n why v) r:=by
 cases v with
 | none=>exact trivial
 | some x=>exact⟨ρ,w,y,hr,hv x rfl,.refl H⟩
set_option maxHeartbeats 1000000 in
theorem op_sim(K:EOk E P)(hg:E.glob≤G.ng)(H:St G ρ h n w)(ht:TR ρ t a.tmps)(o:Oper):OSim G ρ h n w (opA E t h n o) ((execOp a.eval o).run P w):=by
 have ev:∀ {x:Operand} {v:Value},evA E t x=some v→VRel ρ v (a.eval x):=fun hx=>ev_sim H.wr hg ht hx
 unfold opA;split
 ·rename_i x ho;cases o;simp only at ho;subst ho;unfold execOp;dsimp only;exact val_sim H rfl fun v hv=>ev hv
 ·rename_i x ho;cases o;simp only at ho;subst ho;unfold execOp;dsimp only;exact val_sim H rfl fun v hv=>ev hv
 ·rename_i c x y ho;cases o;simp only at ho;subst ho;unfold execOp;dsimp only;split
  ·rename_i hc;refine val_sim H ?_ fun v hv=>ev hv
   simp only[Sem.run_bind,(ev hc).bool_inv,asBool,Sem.run_pure,Result.andThen_ok,if_true]
  ·rename_i hc;refine val_sim H ?_ fun v hv=>ev hv
   simp only[Sem.run_bind,(ev hc).bool_inv,asBool,Sem.run_pure,Result.andThen_ok,Bool.false_eq_true,if_false]
  ·exact trivial
 ·rename_i ty x ho;cases o;simp only at ho;subst ho;unfold execOp;dsimp only;split
  ·rename_i v hv;exact(load_sim K H.wr.blk (ev hv)).osim H
  ·exact trivial
 ·rename_i ty p x ho;cases o;simp only at ho;subst ho;unfold execOp;dsimp only;split
  ·rename_i pv v hp hv;split
   ·rename_i h' hs;obtain⟨w',r1,r2⟩:=store_sim (P:=P) K H (ev hp) (ev hv) hs;exact⟨ρ,w',by simp only[Sem.run_bind,r1,Result.andThen_ok,Sem.run_pure],r2⟩
   ·exact trivial
  ·exact trivial
 ·rename_i e ho;cases o;simp only at ho;subst ho;unfold execOp;dsimp only;split
  ·rename_i i hi;rw[biE];split
   ·rename_i hz;exact alloc_sim K H hi hz
   ·exact trivial
  ·exact trivial
 ·rename_i e x ho;cases o;simp only at ho;subst ho;unfold execOp;dsimp only;split
  ·rename_i v hv;exact box_sim H (ev hv)
  ·exact trivial
 ·rename_i ty ps ho;cases o;simp only at ho;subst ho;unfold execOp;dsimp only;split
  ·rename_i l hl;have:=evParts_sim H.wr hg ht hl;refine VSim.osim H (build_sim K ?_);simpa using this
  ·exact trivial
 ·rename_i ty len ps ho;cases o;simp only at ho;subst ho;unfold execOp;dsimp only;split
  ·rename_i l hl;have:=evParts_sim H.wr hg ht hl;split
   ·rename_i cs hcs;refine buildSlice_sim K H ?_ hcs;simpa using this
   ·exact trivial
  ·exact trivial
 ·rename_i s x k ho;cases o;simp only at ho;subst ho;unfold execOp;dsimp only;split
  ·rename_i b o' f hx hf;exact(fieldAddr_sim K hf (ev hx)).osim H (why:= "")
  ·exact trivial
 ·rename_i ty x i ho;cases o;simp only at ho;subst ho;unfold execOp;dsimp only;split
  ·rename_i v k hv hk;exact(indexAddr_sim K (ev hv) (ev hk)).osim H
  ·exact trivial
 ·rename_i ty x i ho;cases o;simp only at ho;subst ho;unfold execOp;dsimp only;split
  ·rename_i ti s k hti hs hk;split
   ·rename_i j hd hj;split
    ·rename_i b hb;refine⟨ρ,w,.int .u8 b.toNat,?_,.int _ _,.refl H⟩;rw[(ev hs).string_inv,Sem.run_bind,index_sim K hti hd (ev hk) hj hb];rfl
    ·exact trivial
   ·exact trivial
  ·exact trivial
 ·rename_i op ty x y yt ho;cases o;simp only at ho;subst ho;unfold execOp;dsimp only;split
  ·rename_i v u hv hu;exact(binOp_sim K (ev hv) (ev hu)).osim H
  ·exact trivial
 ·rename_i op ty x ho;cases o;simp only at ho;subst ho;unfold execOp;dsimp only;split
  ·rename_i v hv;exact(unOp_sim (ev hv)).osim H
  ·exact trivial
 ·rename_i src dst x ho;cases o;simp only at ho;subst ho;unfold execOp;dsimp only;split
  ·rename_i si v hs hv;exact(convert_sim K (by rw[hs];rfl) (ev hv)).osim H
  ·exact trivial
 ·rename_i x ho;cases o;simp only at ho;subst ho;unfold execOp;dsimp only;split
  ·rename_i ad hx;have hq:=ev hx;generalize a.eval x=q at hq;cases hq with
   | ptr hb=>exact⟨ρ,w,_,rfl,.ptr hb,.refl H⟩
  ·rename_i f x1 x2 hx;have hq:=ev hx;generalize a.eval x=q at hq;cases hq with
   | func hf ha hb h1 h2 =>
     have e:=hf.func_inv;subst e;exact⟨ρ,w,_,rfl,.func hf ha hb h1 h2,.refl H⟩
  ·rename_i f x1 x2 hx;have hq:=ev hx;generalize a.eval x=q at hq;cases hq with
   | func hf ha hb h1 h2 =>
     obtain⟨L,_,e⟩:=hf.yield_inv;subst e;exact⟨ρ,w,_,rfl,.func hf ha hb h1 h2,.refl H⟩
  ·exact trivial
 ·rename_i x k ho;cases o;simp only at ho;subst ho;unfold execOp;dsimp only;split
  ·rename_i vs hx;exact(extract_sim (ev hx)).osim H
  ·exact trivial
 ·rename_i ty x ho;cases o;simp only at ho;subst ho;unfold execOp;dsimp only;split
  ·rename_i i v hi hv;split
   ·exact trivial
   ·rename_i hd;refine⟨ρ,w,.iface ty (a.eval x),?_,.iface _ (ev hv),.refl H⟩;rw[Sem.run_bind,makeInterface_sim K hi hd (ev hv)];rfl
  ·exact trivial
 ·rename_i f first capt ho
  cases o;simp only at ho;subst ho;unfold execOp;dsimp only;split
  ·rename_i k x1 x2 h1 h2;have e1:=evAll_sim H.wr hg ht h1;have e2:=evAll_sim H.wr hg ht h2;refine⟨ρ,w,.func (.func k) (first.map a.eval) (capt.map a.eval),rfl,.func rfl ?_ ?_ ?_ ?_,.refl H⟩
   ·simpa using e1.1
   ·simpa using e2.1
   ·simpa using e1.2
   ·simpa using e2.2
  ·exact trivial
 ·rename_i ty ho;cases o;simp only at ho;subst ho;unfold execOp;dsimp only;exact makeMap_sim H
 ·rename_i ty l c ho;cases o;simp only at ho;subst ho;unfold execOp;dsimp only;split
  ·rename_i lv cv hl hc;split
   ·rename_i v cs hm;exact makeSlice_sim K H (ev hl) (ev hc) hm
   ·exact trivial
  ·exact trivial
 ·rename_i ty x lo hi mx ho;cases o;simp only at ho;subst ho;unfold execOp;dsimp only;split
  ·rename_i v lo' hi' mx' hv h1 h2 h3;have e1:=evOpt_sim H.wr hg ht h1;have e2:=evOpt_sim H.wr hg ht h2;have e3:=evOpt_sim H.wr hg ht h3;split
   ·exact(sliceArr_sim K (ev hv) e1 e2 e3).osim H
   ·exact(slice_sim K (ev hv) e1 e2 e3).osim H
  ·exact trivial
 ·rename_i ty x i ok ho;cases o;simp only at ho;subst ho;unfold execOp;dsimp only;split
  ·rename_i m k hm hk;exact(lookup_sim K H.wr.blk (ev hm) (ev hk)).osim H
  ·exact trivial
 ·rename_i ty m k x ho;cases o;simp only at ho;subst ho;unfold execOp;dsimp only;split
  ·rename_i mv kv v hm hk hv;split
   ·rename_i h' hp;obtain⟨w',r1,r2⟩:=mapPut_sim (P:=P) K H (ev hm) (ev hk) (ev hv) hp;exact⟨ρ,w',by simp only[Sem.run_bind,r1,Result.andThen_ok,Sem.run_pure],r2⟩
   ·exact trivial
  ·exact trivial
 ·rename_i ty m k x ho;cases o;simp only at ho;subst ho;unfold execOp;dsimp only;split
  ·rename_i mv kv v hm hk hv;split
   ·rename_i h' hp;obtain⟨w',r1,r2⟩:=mapPut_sim (P:=P) K H (ev hm) (ev hk) (ev hv) hp;exact⟨ρ,w',by simp only[Sem.run_bind,r1,Result.andThen_ok,Sem.run_pure],r2⟩
   ·exact trivial
  ·exact trivial
 ·rename_i ty x ho;cases o;simp only at ho;subst ho;unfold execOp;dsimp only;split
  ·rename_i i s hi hx;split
   ·rename_i hd;rw[(ev hx).string_inv];exact range_sim K H hi hd
   ·exact trivial
  ·exact trivial
 ·rename_i x ho;cases o;simp only at ho;subst ho;unfold execOp;dsimp only;split
  ·rename_i b hx;split
   ·rename_i s pos hb;split
    ·rename_i c hc;rw[biE];split
     ·rename_i hlt;rw[bltT] at hlt;exact next_ascii (P:=P) H hb (ev hx) hc hlt
     ·exact(next_sim (P:=P) H hb (ev hx)).1 c hc
    ·rename_i hc;exact(next_sim (P:=P) H hb (ev hx)).2 hc
   ·exact trivial
  ·exact trivial
 ·rename_i c ho;cases o;simp only at ho;subst ho;unfold execOp;dsimp only;split
  ·rename_i args hargs;have ea:=evAll_sim H.wr hg ht hargs;have ea':LRel ρ args (c.args.map a.eval).toList:=by simpa using ea
   split
   ·rename_i f hf;split
    ·rename_i v hv;simp only[resolve,hf];exact call_sim K H (ev hv) ea'
    ·exact trivial
   ·rename_i b hb;simp only[resolve,hb];exact builtin_sim K H ea'
   ·exact trivial
  ·exact trivial
 ·rename_i c ho;cases o;simp only at ho;subst ho;unfold execOp;dsimp only;split
  ·rename_i f args hf hargs;have ea:=evAll_sim H.wr hg ht hargs;split
   ·rename_i k first capt hv
    have hq:=ev hv;simp only[resolve,hf];generalize a.eval f=q at hq;cases hq with
    | func hff ha hb h1 h2 =>
      have e:=hff.func_inv;subst e;refine⟨_,rfl,rfl,⟨hb,h2⟩,?_⟩;simp only[Array.toList_append,Array.toList_map];exact LRel.append ⟨ha,h1⟩ ea
   ·exact trivial
  ·exact trivial
 ·split<;>exact trivial
 ·exact trivial
end
def Fr(rd:Option Nat):Fence:={Fence.wide with round:=rd}
def RdRel(ρ:Ren):Option Nat→Option Nat→Prop
 | none,none=>True
 | some l,some m=>∃ L,ρ l=some L∧m=L.blk
 | _,_=>False
def DsR(ρ:Ren)(d d':List Deferred):Prop:=d.length=d'.length∧∀ (i:Nat)(x y:Deferred),d[i]? =some x→d'[i]? =some y→DR ρ x y
structure AOk(ρ:Ren)(t:T Value)(many:Nat)(d:List Deferred)(a:Act):Prop where
 tr:TR ρ t a.tmps
 size:a.tmps.size=many
 defs:DsR ρ d a.defers
def ExR:Ex→Exit→Prop
 | .normal,.normal=>True
 | .exit i,.exit j=>i=j
 | .ret,.ret=>True
 | _,_=>False
def Post(G:Gh)(ρ:Ren)(h:T Blk)(n many:Nat)(e:Ex)(t':T Value)(d':List Deferred)(h':T Blk)(n':Nat):Exit→Act→World→Prop :=
 fun e' a' w'=>ExR e e'∧∃ ρ',AOk ρ' t' many d' a'∧Stp G ρ h n ρ' h' n' w'
def RunOk(E:Env)(P:Program)(ih:Run):Prop :=
 ∀ c rd many t d h n e t' d' h' n',ih c rd many t d h n= .ok e t' d' h' n' →
   ∀ (G:Gh) (ρ:Ren) (rd':Option Nat) (a:Act) (w:World),E.glob≤G.ng→St G ρ h n w→AOk ρ t many d a→RdRel ρ rd rd' →
     c.wpIn (Fr rd') 0 P (Post G ρ h n many e t' d' h' n') a w
def RetOk(G:Gh)(ρ:Ren)(h:T Blk)(n:Nat)(v:Value)(h':T Blk)(n':Nat):Ending→World→Prop :=
 fun e w'=>∃ y ρ',e= .returned y∧VRel ρ' v y∧Stp G ρ h n ρ' h' n' w'
def CallOk(E:Env)(P:Program)(call:FuncId→List Value→T Blk→Nat→COut):Prop :=
 ∀ f args h n v h' n',call f args h n= .ret v h' n'→∀ (G:Gh) (ρ:Ren) (ys:Array Value) (w:World),E.glob≤G.ng→St G ρ h n w→LRel ρ args ys.toList →
   CallsIn Fence.wide 0 P f ys w (RetOk G ρ h n v h' n')
def RoundOk(E:Env)(P:Program)(round:Nat→List Value→T Blk→Nat→COut):Prop :=
 ∀ l args h n v h' n',round l args h n= .ret v h' n'→(∃ lr,h.get l=some (.loop lr)∧args.length=lr.params.length) ∧
   ∀ (G:Gh) (ρ:Ren) (ys:Array Value) (w:World) (L:Pl) (R:Loop),E.glob≤G.ng→St G ρ h n w→LRel ρ args ys.toList→ρ l=some L→w.heap[L.blk]? =some (.loop R) →
     RoundIn Fence.wide 0 P L.blk R.fn ((R.params.zip ys).foldl (fun tmps (t,a)=>tmps.setIfInBounds t a) R.tmps) R.assign R.body w (RetOk G ρ h n v h' n')
theorem FRel.monoFn{ρ ρ':Ren}(e:Ext ρ ρ'){d d':Deferred}(h:DR ρ d d'):DR ρ' d d':=by
 unfold DR at *;split
 ·rename_i e1 e2;rw[e1,e2] at h;exact⟨h.1.mono e,h.2.1.mono e,h.2.2.mono e⟩
 ·rename_i e1 e2;rw[e1,e2] at h;obtain⟨L,h1,h2⟩:=h;exact⟨L,e _ _ h1,h2⟩
 ·rename_i h1 h2;split at h
  ·rename_i e1 e2;exact h1 _ _ _ _ e1 e2
  ·rename_i e1 e2;exact h2 _ _ e1 e2
  ·exact h
theorem DsR.mono{ρ ρ':Ren}(e:Ext ρ ρ'){d d':List Deferred}(h:DsR ρ d d'):DsR ρ' d d':=⟨h.1,fun i x y hx hy=>FRel.monoFn e (h.2 i x y hx hy)⟩
theorem DsR.cons{ρ:Ren}{x y:Deferred}{d d':List Deferred}(h:DR ρ x y)(hd:DsR ρ d d'):DsR ρ (x :: d) (y :: d'):=by
 refine⟨by simp[hd.1],fun i a b ha hb=>?_⟩;cases i with
 | zero=>simp at ha hb;subst ha;subst hb;exact h
 | succ i=>exact hd.2 i a b (by simpa using ha) (by simpa using hb)
theorem DsR.nil(ρ:Ren):DsR ρ [] []:=⟨rfl,fun _ _ _ h=>by simp at h⟩
theorem DsR.nil_left{ρ:Ren}{d':List Deferred}(h:DsR ρ [] d'):d'=[]:=by
 cases d' with
 | nil=>rfl
 | cons _ _=>have:=h.1;simp at this
theorem DsR.cons_left{ρ:Ren}{x:Deferred}{l l':List Deferred}(h:DsR ρ (x :: l) l'):∃ y m,l'=y :: m∧DR ρ x y∧DsR ρ l m:=by
 cases l' with
 | nil=>have:=h.1;simp at this
 | cons y m=>exact⟨y,m,rfl,h.2 0 x y rfl rfl,by simpa using h.1,fun i a b ha hb=>h.2 (i+1) a b (by simpa using ha) (by simpa using hb)⟩
theorem AOk.mono{ρ ρ':Ren}(e:Ext ρ ρ'){t:T Value}{many:Nat}{d:List Deferred}{a:Act}(h:AOk ρ t many d a):AOk ρ' t many d a:=⟨h.tr.mono e,h.size,h.defs.mono e⟩
theorem RdRel.mono{ρ ρ':Ren}(e:Ext ρ ρ'){rd rd':Option Nat}(h:RdRel ρ rd rd'):RdRel ρ' rd rd':=by
 cases rd<;>cases rd'<;>first|trivial|exact h.elim|skip
 obtain⟨L,h1,h2⟩:=h;exact⟨L,e _ _ h1,h2⟩
theorem AOk.put{ρ:Ren}{t t':T Value}{many:Nat}{d:List Deferred}{a:Act}(h:AOk ρ t many d a){dst:Option Tmp}{v y:Value}(hv:VRel ρ v y)(hp:putT many dst v t=some t') :
 AOk ρ t' many d (a.put dst y):=by
 unfold putT at hp;cases dst with
 | none=>cases hp;exact h
 | some k =>
   simp only[biE,bltT] at hp;split at hp
   ·rename_i hlt;cases hp;refine⟨fun j x hx=>?_,?_,h.defs⟩
    ·simp only[Act.put];rw[T.get_upd] at hx;split at hx
     ·rename_i hj;cases hx;subst hj;exact⟨y,by simp[h.size,hlt],hv⟩
     ·rename_i hj;obtain⟨z,h1,h2⟩:=h.tr j x hx;exact⟨z,by rw[Array.getElem?_setIfInBounds_ne (Ne.symm hj)];exact h1,h2⟩
    ·simp[Act.put,h.size]
   ·cases hp
theorem undef_rel(ρ:Ren):VRel ρ undefV undef:= .mkTuple (.nil ρ)
section
variable {E:Env}{P:Program}{w:World}{G:Gh}{ρ:Ren}{h:T Blk}{n:Nat}{t:T Value}{a:Act}{ih:Run}
theorem wanted_sim{ops:Array Oper}(ht:TR ρ t a.tmps){o:Oper}{b:Bool}(hw:wantedA ops.toList t o=some b):Region.wanted o (yielded ops a.tmps)=b:=by
 unfold wantedA at hw;unfold Region.wanted;cases hg:o.guard with
 | none=>rw[hg] at hw;cases hw;rfl
 | some jw =>
   obtain⟨j,want⟩:=jw;rw[hg] at hw;simp only[nth_eq,Array.getElem?_toList] at hw;simp only[yielded];cases hj:ops[j]? with
   | none=>rw[hj] at hw;cases hw;rfl
   | some oj =>
     rw[hj] at hw;simp only at hw;simp only[Option.bind_some];cases hd:oj.dst with
     | none=>rw[hd] at hw;cases hw;rfl
     | some d =>
       rw[hd] at hw;simp only at hw;simp only[Option.bind_some];split at hw
       ·rename_i c hc;cases hw;obtain⟨y,h1,h2⟩:=ht d _ hc;rw[h1,h2.bool_inv];simp
       ·rename_i c hc;cases hw;obtain⟨y,h1,h2⟩:=ht d _ hc;obtain⟨us,rfl,_⟩:=h2.tuple_inv;rw[h1];rfl
       ·cases hw
theorem fr_fn(rd:Option Nat)(f:FuncId):(Fr rd).fn f:=trivial
theorem fr_depth(rd:Option Nat):(Fr rd).depth=none:=rfl
theorem opA_defer{o:Oper}{c:Call}(ho:o.op= .defer c):(∃ d,opA E t h n o= .dfr d)∨∃ s,opA E t h n o= .no s:=by
 unfold opA;rw[ho];simp only;split
 ·split
  ·exact .inl ⟨_,rfl⟩
  ·exact .inr ⟨_,rfl⟩
 ·exact .inr ⟨_,rfl⟩
theorem opC_sim(K:EOk E P)(hg:E.glob≤G.ng)(HC:CallOk E P (callF E ih))(HR:RoundOk E P (roundF E ih))(H:St G ρ h n w){many:Nat}{d:List Deferred}(ha:AOk ρ t many d a){rd rd':Option Nat}
 (hrd:RdRel ρ rd rd') {o:Oper} {v:Value} {d':List Deferred} {h':T Blk} {n':Nat} (ho:opC E ih rd t d h n o= .inl (some (v,d',h',n'))) {next:Act→World→Prop} {Q:Exit→Act→World→Prop}
 (hn:∀ y ρ' w' ds,VRel ρ' v y→Stp G ρ h n ρ' h' n' w'→AOk ρ' t many d' {a with defers:=ds}→next ({a with defers:=ds}.put o.dst y) w'):o.wpIn (Fr rd') 0 P a w next Q:=by
 refine⟨fun f _=>fr_fn rd' f,?_⟩;have hs:=op_sim K hg H ha.tr o;have sem:(∀ dd,opA E t h n o≠ .dfr dd)→(∀ s,opA E t h n o≠ .no s)→o.semAt (Fr rd').round a.eval=execOp a.eval o:=by
  intro h1 h2;refine Oper.semAt_eq _ _ _ fun c hc=>?_
  rcases opA_defer (E:=E) (t:=t) (h:=h) (n:=n) hc with⟨dd,hd⟩|⟨s,hd⟩
  ·exact h1 dd hd
  ·exact h2 s hd
 unfold opC at ho;cases hop:opA E t h n o with
 | val v1 h1 n1 =>
   rw[hop] at ho hs sem;simp only[Sum.inl.injEq,Option.some.injEq,Prod.mk.injEq] at ho;obtain⟨rfl,rfl,rfl,rfl⟩:=ho;obtain⟨ρ',w',y,r1,r2,r3⟩:=hs;rw[sem (by simp) (by simp),r1];exact hn y ρ' w' a.defers r2 r3 (ha.mono r3.ext)
 | skip h1 n1 =>
   rw[hop] at ho hs sem;simp only[Sum.inl.injEq,Option.some.injEq,Prod.mk.injEq] at ho;obtain⟨rfl,rfl,rfl,rfl⟩:=ho;obtain⟨ρ',w',r1,r3⟩:=hs;rw[sem (by simp) (by simp),r1];exact hn undef ρ' w' a.defers (undef_rel ρ') r3 (ha.mono r3.ext)
 | dfr dd =>
   rw[hop] at ho hs;cases rd with
   | some l=>simp at ho
   | none =>
     simp only[Sum.inl.injEq,Option.some.injEq,Prod.mk.injEq] at ho;obtain⟨rfl,rfl,rfl,rfl⟩:=ho;cases rd' with
     | some l=>exact hrd.elim
     | none =>
       obtain⟨d1,r1,r2⟩:=hs;rw[show o.semAt (Fr none).round a.eval=execOp a.eval o from rfl,r1];exact hn undef ρ w (d1 :: a.defers) (undef_rel ρ) (.refl H) ⟨ha.tr,ha.size,.cons r2 ha.defs⟩
 | enter f args =>
   rw[hop] at ho hs sem;simp only at ho;split at ho
   ·rename_i v1 h1 n1 hc;simp only[Sum.inl.injEq,Option.some.injEq,Prod.mk.injEq] at ho;obtain⟨rfl,rfl,rfl,rfl⟩:=ho;obtain⟨ys,r1,r2⟩:=hs;rw[sem (by simp) (by simp),r1];refine⟨(fun hd=>by rw[fr_depth] at hd;cases hd),?_⟩;have:=HC f args h n _ _ _ hc G ρ ys w hg H r2;refine CallsIn.mono (F:=Fence.wide) this fun e w' he=>?_
    obtain⟨y,ρ',rfl,q1,q2⟩:=he;exact hn y ρ' w' a.defers q1 q2 (ha.mono q2.ext)
   ·cases ho
 | round l args =>
   rw[hop] at ho hs sem;simp only at ho;split at ho
   ·rename_i v1 h1 n1 hc;simp only[Sum.inl.injEq,Option.some.injEq,Prod.mk.injEq] at ho;obtain⟨rfl,rfl,rfl,rfl⟩:=ho;obtain⟨⟨lr,g1,g2⟩,g3⟩:=HR l args h n _ _ _ hc;obtain⟨L,ys,R,r1,r2,r3,r4⟩:=hs lr g1 g2;rw[sem (by simp) (by simp),r4];refine⟨(fun hd=>by rw[fr_depth] at hd;cases hd),?_⟩;have:=g3 G ρ ys w L R hg H r3 r1 r2;refine RoundIn.mono (F:=Fence.wide) this fun e w' he=>?_
    obtain⟨y,ρ',rfl,q1,q2⟩:=he;exact hn y ρ' w' a.defers q1 q2 (ha.mono q2.ext)
   ·cases ho
 | pan v1=>rw[hop] at ho;cases ho
 | no s=>rw[hop] at ho;cases ho
theorem RdRel.step{ρ':Ren}{rd rd':Option Nat}{h':T Blk}{n':Nat}{w':World}(hr:RdRel ρ rd rd')(s:Stp G ρ h n ρ' h' n' w'):RdRel ρ' rd rd':=hr.mono s.ext
theorem opsS_sim(K:EOk E P)(hg:E.glob≤G.ng)(HC:CallOk E P (callF E ih))(HR:RoundOk E P (roundF E ih)){rd rd':Option Nat}{many:Nat}{ops:Array Oper}{e:Ex}{t':T Value}{d':List Deferred}{h':T Blk}{n':Nat}
 {ρ0:Ren} {h0:T Blk} {n0:Nat}:∀ (l:List Oper) (i:Nat) (t:T Value) (d:List Deferred) (h:T Blk) (n:Nat) (ρ:Ren) (a:Act) (w:World),ops.toList.drop i=l →
   opsS E ih rd many ops.toList l t d h n= .ok e t' d' h' n'→Stp G ρ0 h0 n0 ρ h n w→AOk ρ t many d a→RdRel ρ rd rd' →
   wpOpsIn (Fr rd') 0 P ops (Post G ρ0 h0 n0 many e t' d' h' n') (List.range' i l.length) a w:=by
 intro l
 induction l with
 | nil =>
   intro i t d h n ρ a w _ hx hs ha _;simp only[opsS] at hx;cases hx;exact⟨trivial,ρ,ha,hs⟩
 | cons o l ihl =>
   intro i t d h n ρ a w hl hx hs ha hrd;have hio:ops[i]? =some o:=by
    have:(ops.toList.drop i)[0]? =some o:=by rw[hl];rfl
    rw[List.getElem?_drop] at this;simpa using this
   have hl':ops.toList.drop (i+1)=l:=by rw[←List.drop_drop,hl];rfl
   rw[List.length_cons,List.range'_succ];simp only[wpOpsIn,hio];simp only[opsS] at hx;split at hx
   ·rename_i hw;rw[wanted_sim ha.tr hw];simp only[if_true];split at hx
    ·rename_i v d1 h1 n1 ho;split at hx
     ·rename_i t1 hp;refine opC_sim K hg HC HR hs.st ha hrd ho fun y ρ1 w1 ds q1 q2 q3=>?_
      exact ihl (i+1) t1 d1 h1 n1 ρ1 _ w1 hl' hx (hs.trans q2) (q3.put q1 hp) (hrd.step q2)
     ·cases hx
    ·cases hx
    ·cases hx
   ·rename_i hw;rw[wanted_sim ha.tr hw];simp only[Bool.false_eq_true,if_false];split at hx
    ·rename_i t1 hp;exact⟨fun f _=>fr_fn rd' f,ihl (i+1) t1 d h n ρ _ w hl' hx hs (ha.put (undef_rel ρ) hp) hrd⟩
    ·cases hx
   ·cases hx
theorem argsT_sim:∀ {l:List Value}{i:Nat}{t:T Value}{ys:List Value}{a:Array Value},LRel ρ l ys→TR ρ t a→(∀ j,j<l.length→a[i+j]? =ys[j]?)→TR ρ (argsT l i t) a
 | [],i,t,ys,a,_,ht,_=>ht
 | v :: l,i,t,ys,a,hl,ht,ha=>by
   obtain⟨y,ys',rfl,h1,h2⟩:=hl.cons_left;show TR ρ (argsT l (i+1) (t.upd (some v) i)) a;refine argsT_sim h2 ?_ fun j hj=>?_
   ·intro k x hx;rw[T.get_upd] at hx;split at hx
    ·rename_i hk;cases hx;subst hk;have:=ha 0 (by simp);exact⟨y,by simpa using this,h1⟩
    ·exact ht k x hx
   ·have:=ha (j+1) (by simpa using hj);rw[show i+1+j=i+(j+1) by omega];simpa using this
theorem enter_tmps{l:List Value}{ys:Array Value}(hl:LRel ρ l ys.toList){k:Nat}(hk:l.length≤k) :
 TR ρ (argsT l 0 .leaf) (ys ++ Array.replicate (k-ys.size) undef)∧(ys ++ Array.replicate (k-ys.size) undef).size=k:=by
 have hs:=hl.size_eq;constructor
 ·refine argsT_sim hl (fun k x hx=>by rw[T.get_leaf] at hx;cases hx) fun j hj=>?_
  rw[Nat.zero_add,Array.getElem?_append_left (by omega)];simp
 ·rw[Array.size_append,Array.size_replicate];omega
def resF(tmps:Array Value):ResultVar→Sem Value
 | .tmp t=>pure (tmps.getD t undef)
 | .cell a t=>do loadVar t (← asAddr (tmps.getD a undef))
theorem getD_of{tmps:Array Value}{k:Nat}{y:Value}(h:tmps[k]? =some y):tmps.getD k undef=y:=by simp[Array.getD_eq_getD_getElem?,h]
theorem resL_sim(K:EOk E P)(hw:∀ b L k,ρ b=some L→h.get b=some k→BRel ρ L k w.heap[L.blk]?){tmps:Array Value}(ht:TR ρ t tmps):∀ {rs:List ResultVar}{vs:List Value}(acc:Array Value),
 resL E t h rs=some vs→∃ ys:List Value,(rs.foldlM (fun(bs:Array Value) (x:ResultVar)=>do let y ← resF tmps x;pure (bs.push y)) acc).run P w= .ok (acc ++ ys.toArray) w∧LRel ρ vs ys
 | [],vs,acc,hx=>by cases hx;exact⟨[],by simp[Sem.run_pure],.nil ρ⟩
 | .tmp k :: rs,vs,acc,hx=>by
   simp only[resL] at hx;split at hx
   ·rename_i v r h1 h2;cases hx;obtain⟨y,e1,e2⟩:=ht k v h1;obtain⟨ys,f1,f2⟩:=resL_sim K hw ht (acc.push y) h2;refine⟨y :: ys,?_,.cons e2 f2⟩;have hr:(resF tmps (.tmp k)).run P w= .ok y w:=by simp only[resF,getD_of e1,Sem.run_pure]
    rw[List.foldlM_cons,Sem.run_bind,Sem.run_bind,hr,Result.andThen_ok,Sem.run_pure,Result.andThen_ok,f1]
    congr 1
    apply Array.toList_inj.1;simp
   ·cases hx
 | .cell k ty :: rs,vs,acc,hx=>by
   simp only[resL] at hx;split at hx
   ·rename_i p h1;split at hx
    ·rename_i v r h2 h3;cases hx;obtain⟨q,e1,e2⟩:=ht k p h1;obtain⟨y,l1,l2⟩:=load_sim (P:=P) K hw e2 v h2;obtain⟨ys,f1,f2⟩:=resL_sim K hw ht (acc.push y) h3;have hq:∃ ad,q= .pointer (some ad):=by
      unfold loadA at h2;split at h2
      ·cases e2;exact⟨_,rfl⟩
      ·cases h2
     obtain⟨ad,rfl⟩:=hq;have l1':(loadVar ty ad).run P w= .ok y w:=l1;refine⟨y :: ys,?_,.cons l2 f2⟩;have hr:(resF tmps (.cell k ty)).run P w= .ok y w:=by simp only[resF,getD_of e1,Sem.run_bind,asAddr,Sem.run_pure,Result.andThen_ok,l1']
     rw[List.foldlM_cons,Sem.run_bind,Sem.run_bind,hr,Result.andThen_ok,Sem.run_pure,Result.andThen_ok,f1]
     congr 1
     apply Array.toList_inj.1;simp
    ·cases hx
   ·cases hx
theorem results_def(fn:Func)(tmps:Array Value):results fn tmps=(do
 let vs ← fn.results.mapM (resF tmps)
 pure (if h:vs.size=1 then vs[0] else .tuple vs)):=by
 unfold results
 congr 1
theorem resA_sim(K:EOk E P)(hw:∀ b L k,ρ b=some L→h.get b=some k→BRel ρ L k w.heap[L.blk]?){tmps:Array Value}(ht:TR ρ t tmps){fn:Func}{v:Value}(hx:resA E fn t h=some v) :
 ∃ y,(results fn tmps).run P w= .ok y w∧VRel ρ v y:=by
 unfold resA at hx;have go:∀ {vs:List Value},resL E t h fn.results.toList=some vs→∃ ys:Array Value,(fn.results.mapM (resF tmps)).run P w= .ok ys w∧LRel ρ vs ys.toList:=by intro vs h1;obtain⟨ys,f1,f2⟩:=resL_sim (P:=P) K hw ht #[] h1;refine⟨ys.toArray,?_,by simpa using f2⟩;rw[Array.mapM_eq_foldlM,← Array.foldlM_toList];simp only[map_eq_pure_bind];rw[f1];simp
 rw[results_def,Sem.run_bind];split at hx
 ·rename_i v1 h1;cases hx;obtain⟨ys,f1,f2⟩:=go h1;have hs:=f2.size_eq;have hs1:ys.size=1:=hs.symm;rw[f1,Result.andThen_ok];refine⟨ys[0],?_,f2.2 0 _ _ rfl (by simp)⟩;simp[hs1,Sem.run_pure]
 ·rename_i l h1 h2;cases hx;obtain⟨ys,f1,f2⟩:=go h2;have hs:=f2.size_eq;rw[f1,Result.andThen_ok];have hne:ys.size≠1:=by
   rw[←hs];intro he;cases l with
   | nil=>simp at he
   | cons x l=>cases l with
     | nil=>exact h1 x rfl
     | cons _ _=>simp at he
  refine⟨.tuple ys,by simp[hne,Sem.run_pure],.mkTuple f2⟩
 ·cases hx
end
section
variable {E:Env}{P:Program}{w:World}{G:Gh}{ρ:Ren}{h:T Blk}{n:Nat}{t:T Value}{a:Act}{ih:Run}
theorem deferA_sim(K:EOk E P)(hR:RunOk E P ih)(hg:E.glob≤G.ng)(H:St G ρ h n w){f:FuncId}{args:List Value}{ys:Array Value}(hl:LRel ρ args ys.toList){v:Value}{h':T Blk}{n':Nat}
 (hx:deferA E ih f args h n= .ret v h' n') :
 CallsDIn Fence.wide 0 P f ys .returning w (fun e u w'=>(∃ y,e= .returned y)∧u= .returning∧∃ ρ',Stp G ρ h n ρ' h' n' w'):=by
 unfold deferA at hx;split at hx
 ·rename_i fn hfn;obtain⟨p1,p2,p3⟩:=K.fn f fn hfn;split at hx
  ·rename_i id ops rest hbody;split at hx
   ·rename_i o hops;split at hx
    ·rename_i as ats sp d ho hd hgd;rw[biE] at hx;split at hx
     ·rename_i hc;simp only[baT,bltT,bleT] at hc;obtain⟨⟨c1,c2⟩,c3⟩:=hc;obtain⟨e1,e2⟩:=enter_tmps hl c3;have hops':ops=#[o]:=Array.toList_inj.1 hops;refine callsDIn_of_wpSIn p1 hbody trivial fun c₀ cs hmode=>?_
      subst hops';refine wpSIn_seq (wpSIn_region ?_);have hrun:∀ ρ':Operand→Value,(execOp ρ' o).run P w= .ok .recover w:=by intro ρ';unfold execOp;rw[ho];rfl
      have hw:∀ tm:Array Value,Region.wanted o (yielded #[o] tm)=true:=fun tm=>by unfold Region.wanted;rw[hgd]
      have hrd:recoverD (c₀ :: cs)=none:=by simp only[recoverD,hmode]
      have hr1:List.range (#[o]:Array Oper).size=[0]:=rfl;rw[hr1];have ho0:(#[o]:Array Oper)[0]? =some o:=rfl;simp only[wpOpsSIn,ho0,hw,if_true,hrun,hrd];refine⟨fun _ _=>trivial,?_⟩;have e3:AOk ρ (argsT args 0 .leaf) fn.ntmps [] {tmps:=ys ++ Array.replicate (fn.ntmps-ys.size) undef,defers:=[]}:=⟨e1,e2,.nil ρ⟩
      have e4:=e3.put (dst:=some d) (t':=(argsT args 0 .leaf).upd (some .nilIface) d) .nilIface (by simp only[putT,biE,bltT,c2,if_true]);rw[←hd] at e4;refine wpSIn_of_wpIn rfl ?_;have fin:∀ {e:Ex} {t1:T Value} {h1:T Blk} {n1:Nat},(e= .normal∨e= .ret)→ih rest none fn.ntmps ((argsT args 0 .leaf).upd (some .nilIface) d) [] h n= .ok e t1 [] h1 n1 →
       resA E fn t1 h1=some v→h'=h1→n'=n1→rest.wpIn Fence.wide 0 P (fun e' a' w'=>bodyPostS P fn c₀ cs (fun e u w'=>(∃ y,e= .returned y)∧u= .returning∧∃ ρ',Stp G ρ h n ρ' h' n' w') e' a' (c₀ :: cs) w')
        (({tmps:=ys ++ Array.replicate (fn.ntmps-ys.size) undef,defers:=[]}:Act).put o.dst .nilIface) w:=by
       rintro e t1 h1 n1 he hih hres rfl rfl;have:=hR rest none fn.ntmps _ [] h n e t1 [] _ _ hih G ρ none _ w hg H e4 trivial;refine wpIn_mono (F:=Fence.wide) this fun e' a' w' hp=>?_
       obtain⟨q1,ρ',q2,q3⟩:=hp;obtain⟨y,r1,r2⟩:=resA_sim (P:=P) K q3.st.wr.blk q2.tr hres;have hd0:=q2.defs.nil_left;have hcs:c₀ :: cs={c₀ with mode:= .returning} :: cs:=by rw[←hmode]
       rcases he with rfl|rfl
       ·cases e'<;>first|exact q1.elim|skip
        exact⟨hd0,.returning,hcs,y,r1,⟨y,rfl⟩,rfl,ρ',q3⟩
       ·cases e'<;>first|exact q1.elim|skip
        exact⟨hd0,.returning,hcs,y,r1,⟨y,rfl⟩,rfl,ρ',q3⟩
      split at hx
      ·rename_i t1 h1 n1 hih;split at hx
       ·rename_i v1 hres;cases hx;exact fin (.inl rfl) hih hres rfl rfl
       ·cases hx
      ·rename_i t1 h1 n1 hih;split at hx
       ·rename_i v1 hres;cases hx;exact fin (.inr rfl) hih hres rfl rfl
       ·cases hx
      ·cases hx
      ·cases hx
     ·cases hx
    ·cases hx
   ·cases hx
  ·cases hx
 ·cases hx
theorem run_take{r:Nat}(hr:w.heap[r]? =some (.deferred (some []))):∃ w',(Instr.takeDeferred r).run P w= .ok [] w'∧HSet w r (.deferred none) w':=by obtain⟨w',r1,r2⟩:=run_setObj (P:=P) (o':= .deferred none) hr (by simp);refine⟨w',?_,r2⟩;unfold Instr.takeDeferred;rw[Sem.run_bind,run_getObj hr (by simp),Result.andThen_ok];simp only;rw[Sem.run_bind,r1,Result.andThen_ok];rfl
theorem leaveA_sim(K:EOk E P)(hR:RunOk E P ih)(hg:E.glob≤G.ng){fn:Func}{v:Value}{h':T Blk}{n':Nat}{ρ0:Ren}{h0:T Blk}{n0:Nat} :
 ∀ (ds:List Deferred) (h:T Blk) (n:Nat) (ρ:Ren) (ds':List Deferred) (tmps:Array Value) (w:World),leaveA E ih ds h n=some (h',n')→resA E fn t h'=some v→TR ρ t tmps→DsR ρ ds ds'→Stp G ρ0 h0 n0 ρ h n w →
   LeavesInM Fence.wide 0 P fn tmps (RetOk G ρ0 h0 n0 v h' n') ds' .returning w
 | [],h,n,ρ,ds',tmps,w,hx,hres,ht,hd,hs=>by cases hx;rw[hd.nil_left];obtain⟨y,r1,r2⟩:=resA_sim (P:=P) K hs.st.wr.blk ht hres;exact⟨y,r1,y,ρ,rfl,r2,hs⟩
 | d :: ds,h,n,ρ,ds',tmps,w,hx,hres,ht,hd,hs=>by
   obtain⟨d',ds2,rfl,hdd,hd2⟩:=hd.cons_left;simp only[leaveA] at hx;refine⟨by simp,?_⟩;split at hx
   ·rename_i r hr;split at hx
    ·rename_i hb;left;have:∃ L,ρ r=some L∧d'.target= .collected L.blk:=by
      unfold DR at hdd;rw[hr] at hdd;split at hdd
      ·rename_i e1 e2;cases e1
      ·rename_i e1 e2;cases e1;obtain⟨L,q1,q2⟩:=hdd;exact⟨L,q1,by rw[e2,q2]⟩
      ·exact hdd.elim
     obtain⟨L,hL,hdt⟩:=this;have hbr:=hs.st.wr.blk r L _ hL hb;obtain⟨w',r1,r2⟩:=run_take (P:=P) hbr;exact⟨L.blk,w',hdt,r1,leaveA_sim K hR hg ds _ n ρ ds2 tmps w' hx hres ht hd2 (hs.trans (hs.st.set hL hb rfl r2 rfl))⟩
    ·cases hx
   ·rename_i f capt hf;split at hx
    ·rename_i v1 h1 n1 hdef;right;refine⟨(fun h=>by cases h),?_⟩;have:∃ capt',d'.target= .fn (.func f) capt'∧LRel ρ capt.toList capt'.toList∧LRel ρ d.args.toList d'.args.toList:=by
      unfold DR at hdd;rw[hf] at hdd;split at hdd
      ·rename_i e1 e2;cases e1;obtain⟨q1,q2,q3⟩:=hdd;have q4:=q1.func_inv;subst q4;exact⟨_,e2,q2,q3⟩
      ·rename_i e1 e2;cases e1
      ·exact hdd.elim
     obtain⟨capt',c1,c2,c3⟩:=this;have hfn:∃ fn',P.funcs[f]? =some fn'∧fn'.body.isNone=false∧(fn'.name == "runtime.NumGoroutine")=false:=by
      unfold deferA at hdef;split at hdef
      ·rename_i fn' hfn';exact⟨fn',K.fn f fn' hfn'⟩
      ·cases hdef
     obtain⟨fn',g1,g2,g3⟩:=hfn;refine⟨.func f,capt',f,d'.args ++ capt',c1,?_,fun _ _=>trivial,?_⟩
     ·rw[c1];simp only[invoke,callFunc];rw[Sem.run_bind];have:(program).run P w= .ok P w:=rfl;rw[this,Result.andThen_ok,g1];simp only[g2,g3,Bool.false_eq_true,if_false,Sem.run_pure]
     ·have hcall:=deferA_sim (P:=P) (w:=w) (ys:=d'.args ++ capt') K hR hg hs.st (by rw[Array.toList_append];exact c3.append c2) hdef;obtain⟨k1,k2⟩:=hcall;refine⟨k1,fun c cs hm hroom=>?_⟩;obtain⟨e,u',w',fr,⟨⟨y,rfl⟩,rfl,ρ',q3⟩,q4⟩:=k2 c cs hm hroom;refine⟨.returned y,.returning,w',fr,?_,q4⟩;exact leaveA_sim K hR hg ds h1 n1 ρ' ds2 tmps w' hx hres (ht.mono q3.ext) (hd2.mono q3.ext) (hs.trans q3)
    ·cases hx
   ·cases hx
theorem callG_sim(K:EOk E P)(hR:RunOk E P ih):CallOk E P (callG E ih):=by
 intro f args h n v h' n' hx G ρ ys w hg H hl;unfold callG at hx;split at hx
 ·rename_i fn hfn;obtain⟨p1,p2,p3⟩:=K.fn f fn hfn;split at hx
  ·rename_i c hbody;simp only[biE,bleT] at hx;split at hx
   ·rename_i hlen;obtain⟨e1,e2⟩:=enter_tmps hl hlen;refine callsIn_of_wp_marks p1 hbody trivial ?_;split at hx
    ·cases hx
    ·rename_i e t1 d1 h1 n1 hne hih;split at hx
     ·rename_i h2 n2 hlv;split at hx
      ·rename_i v1 hres;cases hx;have:=hR c none fn.ntmps _ [] h n e t1 d1 h1 n1 hih G ρ none {tmps:=ys ++ Array.replicate (fn.ntmps-ys.size) undef,defers:=[]} w hg H ⟨e1,e2,.nil ρ⟩ trivial;refine wpIn_mono (F:=Fence.wide) this fun e' a' w' hp=>?_
       obtain⟨q1,ρ',q2,q3⟩:=hp;have fin:LeavesInM Fence.wide 0 P fn a'.tmps (RetOk G ρ h n v h' n') a'.defers .returning w':=leaveA_sim K hR hg d1 h1 n1 ρ' a'.defers a'.tmps w' hlv hres q2.tr q2.defs q3;cases e with
       | normal=>cases e'<;>first|exact q1.elim|exact fin
       | ret=>cases e'<;>first|exact q1.elim|exact fin
       | exit id=>exact(hne _ rfl).elim
      ·cases hx
     ·cases hx
    ·cases hx
   ·cases hx
  ·cases hx
 ·cases hx
theorem callF_sim(K:EOk E P)(hR:RunOk E P ih):CallOk E P (callF E ih):=by
 intro f args h n v h' n' hx;unfold callF at hx;split at hx
 ·rename_i v1 hm;cases hx;intro G ρ ys w hg H hl;refine CallsIn.mono (F:=Fence.wide) (K.memo f args h v hm G ρ n ys w hg H hl) fun e w' he=>?_
  obtain⟨y,q1,q2,q3⟩:=he;exact⟨y,ρ,q1,q2,.refl q3⟩
 ·split at hx
  ·rename_i r hr;cases hx;exact K.ext f args h n r hr
  ·exact callG_sim K hR f args h n v h' n' hx
end
section
variable {E:Env}{P:Program}{w:World}{G:Gh}{ρ:Ren}{h:T Blk}{n:Nat}{t:T Value}{a:Act}{ih:Run}
theorem setParams_sim:∀ {ps:List Tmp}{vs ys:List Value}{t t':T Value}{tm:Array Value}{many:Nat},setParams ps vs t many=some t'→LRel ρ vs ys→TR ρ t tm→tm.size=many →
 ps.length=vs.length∧TR ρ t' ((ps.zip ys).foldl (fun tmps x=>tmps.setIfInBounds x.1 x.2) tm)∧((ps.zip ys).foldl (fun tmps x=>tmps.setIfInBounds x.1 x.2) tm).size=many
 | [],[],ys,t,t',tm,many,hx,_,ht,hs=>by cases hx;exact⟨rfl,by simpa using ht,by simpa using hs⟩
 | [],_ :: _,_,_,_,_,_,hx,_,_,_=>by simp[setParams] at hx
 | _ :: _,[],_,_,_,_,_,hx,_,_,_=>by simp[setParams] at hx
 | p :: ps,v :: vs,ys,t,t',tm,many,hx,hl,ht,hs=>by
   obtain⟨y,ys',rfl,h1,h2⟩:=hl.cons_left;simp only[setParams,biE,bltT] at hx;split at hx
   ·rename_i hlt;have ht':TR ρ (t.upd (some v) p) (tm.setIfInBounds p y):=by
     intro j x hj;rw[T.get_upd] at hj;split at hj
     ·rename_i e;cases hj;subst e;exact⟨y,by simp[hs,hlt],h1⟩
     ·rename_i e;obtain⟨z,z1,z2⟩:=ht j x hj;exact⟨z,by rw[Array.getElem?_setIfInBounds_ne (Ne.symm e)];exact z1,z2⟩
    obtain⟨r1,r2,r3⟩:=setParams_sim hx h2 ht' (by simp[hs]);exact⟨by simp[r1],by simpa using r2,by simpa using r3⟩
   ·cases hx
theorem getL_some{l:Nat}{r:ALoop}(hx:getL h l=some r):h.get l=some (.loop r):=by
 unfold getL at hx;split at hx
 ·cases hx;assumption
 ·cases hx
theorem run_getLoop'{l:Nat}{R:Loop}(hr:w.heap[l]? =some (.loop R)):(Instr.getLoop l).run P w= .ok R w:=by unfold Instr.getLoop;rw[Sem.run_bind,run_getObj hr (by simp),Result.andThen_ok];rfl
theorem run_begin{l:Nat}{R:Loop}(hr:w.heap[l]? =some (.loop R))(hs:R.state= .ready):∃ w',(Instr.beginRound l).run P w= .ok () w'∧HSet w l (.loop {R with state:= .busy}) w':=by obtain⟨w',r1,r2⟩:=run_setObj (P:=P) (o':= .loop {R with state:= .busy}) hr (by simp);refine⟨w',?_,r2⟩;unfold Instr.beginRound;rw[Sem.run_bind,run_getLoop' hr,Result.andThen_ok,Sem.run_bind,r1,Result.andThen_ok,hs];rfl
theorem run_end{l:Nat}{R:Loop}(hr:w.heap[l]? =some (.loop R))(j:Option Code) :
 ∃ w',(Instr.endRound l j).run P w= .ok (.bool j.isNone) w'∧HSet w l (.loop {R with state:=if j.isNone then .ready else .done,pending:=j}) w':=by
 obtain⟨w',r1,r2⟩:=run_setObj (P:=P) (o':= .loop {R with state:=if j.isNone then .ready else .done,pending:=j}) hr (by simp);refine⟨w',?_,r2⟩;unfold Instr.endRound;rw[Sem.run_bind,run_getLoop' hr,Result.andThen_ok,Sem.run_bind,r1,Result.andThen_ok];rfl
theorem run_endLoop{l:Nat}{R:Loop}(hr:w.heap[l]? =some (.loop R))(hs:R.state≠ .busy):∃ w',(Instr.endLoop l).run P w= .ok R.pending w'∧HSet w l (.loop {R with state:= .exhausted}) w':=by
 obtain⟨w',r1,r2⟩:=run_setObj (P:=P) (o':= .loop {R with state:= .exhausted}) hr (by simp);refine⟨w',?_,r2⟩;unfold Instr.endLoop;rw[Sem.run_bind,run_getLoop' hr,Result.andThen_ok];have:(R.state == LoopState.busy)=false:=by simpa using hs
 simp only[this,Bool.false_eq_true,if_false];rw[Sem.run_bind,r1,Result.andThen_ok];rfl
theorem roundF_sim(hR:RunOk E P ih):RoundOk E P (roundF E ih):=by
 intro l args h n v h' n' hx;unfold roundF at hx;split at hx
 ·rename_i r hr;split at hx
  ·rename_i t0 hset;have hr:=getL_some hr;have hplen:args.length=r.params.length:=by
    have key:∀ {ps:List Tmp} {vs:List Value} {t t':T Value} {many:Nat},setParams ps vs t many=some t'→vs.length=ps.length:=by
     intro ps
     induction ps with
     | nil=>intro vs t t' many h;cases vs<;>simp[setParams] at h ⊢
     | cons p ps ih =>
       intro vs t t' many h;cases vs with
       | nil=>simp[setParams] at h
       | cons v vs =>
         simp only[setParams,biE] at h;split at h
         ·simp[ih h]
         ·cases h
    exact key hset
   refine⟨⟨r,hr,hplen⟩,fun G ρ ys w L R hg H hl hL hRo=>?_⟩;obtain⟨R',k1,k2⟩:=H.wr.blk l L _ hL hr;rw[hRo] at k1;cases k1;obtain⟨l1,l2,l3,l4,l5,l6,l7,l8⟩:=k2;obtain⟨s1,s2,s3⟩:=setParams_sim hset hl l8 l7;have hfold:((R.params.zip ys).foldl (fun tmps (x:Tmp×Value)=>tmps.setIfInBounds x.1 x.2) R.tmps)=((r.params.zip ys.toList).foldl (fun tmps x=>tmps.setIfInBounds x.1 x.2) R.tmps):=by rw[←Array.foldl_toList,Array.toList_zip,l3]
   refine roundIn_of_wpIn (F:=Fence.wide) trivial ?_;split at hx
   ·rename_i t1 h1 n1 hih;split at hx
    ·rename_i r1 hr1;have hr1:=getL_some hr1;split at hx
     ·rename_i hst;split at hx
      ·rename_i e t2 h2 n2 hih2;split at hx
       ·rename_i r2 hr2;have hr2:=getL_some hr2;have A:=hR r.assign (some l) r.many t0 [] h n .normal t1 [] h1 n1 hih G ρ (some L.blk) {tmps:=(r.params.zip ys.toList).foldl (fun tmps x=>tmps.setIfInBounds x.1 x.2) R.tmps,defers:=[]} w hg H ⟨s2,s3,.nil ρ⟩ ⟨L,hL,rfl⟩;rw[l4];have hfold':((R.params.zip ys).foldl (fun tmps (x:Tmp×Value)=>match x with|(t,a)=>tmps.setIfInBounds t a) R.tmps)=((r.params.zip ys.toList).foldl (fun tmps x=>tmps.setIfInBounds x.1 x.2) R.tmps):=hfold;rw[hfold'];refine wpIn_mono (F:=Fence.wide.inRound L.blk) A fun e' a1 w1 hp=>?_
        obtain⟨q1,ρ1,q2,q3⟩:=hp;cases e'<;>first|exact q1.elim|skip
        have hL1:=q3.ext _ _ hL;obtain⟨R1,m1,m2⟩:=q3.st.wr.blk l L _ hL1 hr1;obtain⟨w2,b1,b2⟩:=run_begin (P:=P) m1 (m2.1.trans hst);refine⟨w2,b1,?_⟩;have S2:=q3.st.set hL1 hr1 rfl b2 (k':= .loop {r1 with state:= .busy}) ⟨_,rfl,rfl,m2.2⟩;rw[l5];have hd0:=q2.defs;have B:=hR r.body (some l) r.many t1 [] _ n1 e t2 [] h2 n2 hih2 G ρ1 (some L.blk) a1 w2 hg S2.st ⟨q2.tr,q2.size,hd0⟩ ⟨L,hL1,rfl⟩;refine wpIn_mono (F:=Fence.wide.inRound L.blk) B fun e' a2 w3 hp=>?_
        obtain⟨p1,ρ2,p2,p3⟩:=hp;have hL2:=p3.ext _ _ hL1;obtain⟨R2,m3,m4⟩:=p3.st.wr.blk l L _ hL2 hr2;have fin:∀ (j:Option Code) (st:LoopState),st=(if j.isNone then .ready else .done)→v= .bool j.isNone→h'=h2.upd (some (.loop {r2 with state:=st,pending:=j})) l→n'=n2 →
         ∃ y w',(Instr.endRound L.blk j).run P w3= .ok y w'∧RetOk G ρ h n v h' n' (.returned y) w':=by
         rintro j st rfl rfl rfl rfl;obtain⟨w4,c1,c2⟩:=run_end (P:=P) m3 j;refine⟨_,w4,c1,_,ρ2,rfl,.bool _,((q3.trans S2).trans p3).trans (p3.st.set hL2 hr2 rfl c2 ⟨_,rfl,rfl,rfl,m4.2.2⟩)⟩
        cases e with
        | normal =>
          cases hx;cases e'<;>first|exact p1.elim|skip
          exact fin none _ rfl rfl rfl rfl
        | exit id =>
          cases hx;cases e'<;>first|exact p1.elim|skip
          have p1:id=_:=p1;subst p1;exact fin (some (.exit id)) _ rfl rfl rfl rfl
        | ret =>
          cases hx;cases e'<;>first|exact p1.elim|skip
          exact fin (some .ret) _ rfl rfl rfl rfl
       ·cases hx
      ·cases hx
      ·cases hx
     ·cases hx
    ·cases hx
   ·cases hx
   ·cases hx
  ·cases hx
 ·cases hx
end
section
variable {E:Env}{P:Program}{w:World}{G:Gh}{ρ:Ren}{h:T Blk}{n:Nat}{t:T Value}{a:Act}{ih:Run}
theorem post_trans{ρ1:Ren}{h1:T Blk}{n1 many:Nat}{e:Ex}{t':T Value}{d':List Deferred}{h':T Blk}{n':Nat}(s:Stp G ρ h n ρ1 h1 n1 w){e':Exit}{a':Act}{w':World}
 (hp:Post G ρ1 h1 n1 many e t' d' h' n' e' a' w'):Post G ρ h n many e t' d' h' n' e' a' w':=by
 obtain⟨q1,ρ',q2,q3⟩:=hp;exact⟨q1,ρ',q2,s.trans q3⟩
theorem rangeFunc_sim(K:EOk E P)(hR:RunOk E P ih)(hg:E.glob≤G.ng)(H:St G ρ h n w){many:Nat}{d:List Deferred}(ha:AOk ρ t many d a){f:Operand}{params:Array Tmp}{assign body:Code}{g:Value}
 (hf:evA E t f=some g) {k:FuncId} {args:List Value} {L0:ALoop} {h2:T Blk} (hL0:L0={state:= .ready,pending:=none,tmps:=t,many:=many,params:=params.toList,assign:=assign,body:=body,defers:=n})
 (hh2:h2=(h.upd (some (.dfr true)) n).upd (some (.loop L0)) (n+1))
 (hcall:callA E h2 (n+2) g [.func (.yield (n+1)) #[] #[]]= .enter k args) {v:Value} {h':T Blk} {n':Nat} (hret:callF E ih k args h2 (n+2)= .ret v h' n') {r:ALoop} (hr:getL h' (n+1)=some r)
 (hbusy:r.state≠ .busy) {e:Ex} {t':T Value} {d':List Deferred} {h'':T Blk} {n'':Nat}
 (hfin:(match r.pending with
  | none=>Out.ok .normal t ({target:= .collected n,args:=#[]} :: d) (h'.upd (some (.loop {r with state:= .exhausted})) (n+1)) n'
  | some c=>ih c none many t ({target:= .collected n,args:=#[]} :: d) (h'.upd (some (.loop {r with state:= .exhausted})) (n+1)) n')= .ok e t' d' h'' n'') :
 (Code.rangeFunc f params assign body).wpIn (Fr none) 0 P (Post G ρ h n many e t' d' h'' n'') a w:=by
 have hr:=getL_some hr;refine wpIn_rangeFunc (F:=Fence.wide) fun fn _=>?_
 let w1:World:={w with heap:=w.heap.push (.deferred (some []))}
 let lp:Loop:={state:= .ready,pending:=none,fn:=fn,tmps:=a.tmps,params:=params,assign:=assign,body:=body,defers:=w.heap.size}
 let w2:World:={w1 with heap:=w1.heap.push (.loop lp)}
 have S1:Stp G ρ h n (ρ.add n ⟨w.heap.size,0,0⟩) (h.upd (some (.dfr true)) n) (n+1) w1:=H.alloc rfl (HPush.mk' w _) rfl;have S2:Stp G (ρ.add n ⟨w.heap.size,0,0⟩) (h.upd (some (.dfr true)) n) (n+1) ((ρ.add n ⟨w.heap.size,0,0⟩).add (n+1) ⟨w1.heap.size,0,0⟩) h2 (n+2) w2:=by rw[hh2];refine S1.st.alloc rfl (HPush.mk' w1 _) ⟨lp,rfl,?_⟩;have hext:=Ext.add (⟨w1.heap.size,0,0⟩:Pl) (S1.st.fr (n+1) (nlR _));rw[hL0];exact⟨rfl,rfl,rfl,rfl,rfl,⟨_,hext _ _ (Ren.add_same ρ n _),rfl⟩,ha.size,(ha.tr.mono S1.ext).mono hext⟩
 have S:=S1.trans S2;have hl:((ρ.add n ⟨w.heap.size,0,0⟩).add (n+1) ⟨w1.heap.size,0,0⟩) (n+1)=some ⟨w1.heap.size,0,0⟩:=Ren.add_same _ _ _;have hn:((ρ.add n ⟨w.heap.size,0,0⟩).add (n+1) ⟨w1.heap.size,0,0⟩) n=some ⟨w.heap.size,0,0⟩:=by rw[Ren.add_ne _ _ (by omega)];exact Ren.add_same _ _ _
 have hgv:=(ev_sim H.wr hg ha.tr hf).mono S.ext;have hyield:LRel ((ρ.add n ⟨w.heap.size,0,0⟩).add (n+1) ⟨w1.heap.size,0,0⟩) [.func (.yield (n+1)) #[] #[]] (#[.func (.yield w1.heap.size) #[] #[]]:Array Value).toList :=
  .cons (.func ⟨_,hl,rfl⟩ rfl rfl (by simp) (by simp)) (.nil _)
 have hcs:=call_sim (n:=n+2) K S.st hgv hyield;rw[hcall] at hcs;obtain⟨ys,c1,c2⟩:=hcs;have hsplit:∃ dd,(Deferred.ofValue (a.eval f) #[.func (.yield w1.heap.size) #[] #[]]).run P w2= .ok dd w2∧(invoke dd.target dd.args).run P w2= .ok (.enter k ys) w2:=by
  rw[Sem.run_bind] at c1;generalize a.eval f=q at hgv c1;cases hgv with
  | func=>exact⟨_,rfl,by simpa only[Deferred.ofValue,Sem.run_pure,Result.andThen_ok] using c1⟩
  | nilFunc=>exact⟨_,rfl,by simpa only[Deferred.ofValue,Sem.run_pure,Result.andThen_ok] using c1⟩
  | _=>simp[Deferred.ofValue,stuck,Sem.run,Result.andThen] at c1
 obtain⟨dd,d1,d2⟩:=hsplit;refine⟨w1.heap.size,[{target:= .collected w.heap.size,args:=#[]}],w2,dd,w2,k,ys,w2,rfl,(by simpa [resolve,rangeCall,Act.eval] using d1),fun _ _=>trivial,d2,(fun h=>by cases h),?_⟩;have C:=callF_sim K hR k args h2 (n+2) v h' n' hret G _ ys w2 hg S.st c2;refine CallsIn.mono (F:=Fence.wide) C fun e0 w3 he=>?_
 obtain⟨y,ρ3,rfl,q1,q2⟩:=he;have hl3:=q2.ext _ _ hl;have hn3:=q2.ext _ _ hn;obtain⟨R,m1,m2⟩:=q2.st.wr.blk (n+1) _ _ hl3 hr;obtain⟨w4,e1,e2⟩:=run_endLoop (P:=P) m1 (by rw[m2.1];exact hbusy);refine⟨R.pending,w4,e1,?_⟩;have S4:=q2.st.set hl3 hr rfl e2 (k':= .loop {r with state:= .exhausted}) ⟨_,rfl,rfl,m2.2⟩;have Sall:=(S.trans q2).trans S4;have ha4:AOk ρ3 t many ({target:= .collected n,args:=#[]} :: d) {a with defers:=[{target:= .collected w.heap.size,args:=#[]}] ++ a.defers} :=
  ⟨ha.tr.mono (S.trans q2).ext,ha.size,.cons ⟨_,hn3,rfl⟩ (ha.defs.mono (S.trans q2).ext)⟩
 rw[m2.2.1];obtain⟨X,hX⟩:∃ X,X=h'.upd (some (.loop {r with state:= .exhausted})) (n+1):=⟨_,rfl⟩
 rw[←hX] at hfin S4 Sall;cases hp:r.pending with
 | none =>
   rw[hp] at hfin;simp only at hfin;cases hfin;exact⟨trivial,ρ3,ha4,Sall⟩
 | some c =>
   rw[hp] at hfin;simp only at hfin;have:=hR c none many t _ _ n' e t' d' h'' n'' hfin G ρ3 none _ w4 hg S4.st ha4 trivial;exact wpIn_mono (F:=Fence.wide) this fun e' a' w' hp=>post_trans Sall hp
def DrawOk(E:Env)(P:Program)(ih:Run):Prop :=
 ∀ rd many (ops:Array Oper) t d h n e t' d' h' n',regD E ih rd many ops.toList t d h n= .ok e t' d' h' n' →
   ∀ (G:Gh) (ρ:Ren) (rd':Option Nat) (a:Act) (w:World) (id:Nat),E.glob≤G.ng→St G ρ h n w→AOk ρ t many d a→RdRel ρ rd rd' →
     (Code.region id ops true).wpIn (Fr rd') 0 P (Post G ρ h n many e t' d' h' n') a w
def LoopOk(E:Env)(P:Program)(ih:Run):Prop :=
 ∀ x rd many t d h n e t' d' h' n',ih (.loop x) rd many t d h n= .ok e t' d' h' n' →
   ∀ (G:Gh) (ρ:Ren) (rd':Option Nat) (a:Act) (w:World),E.glob≤G.ng→St G ρ h n w→AOk ρ t many d a→RdRel ρ rd rd' →
     ∀ (b:Frame) (k:List Item) (cs:List Frame),b.roundOf=(Fr rd').round→(Fr rd').fn b.fn→(Fr rd').room (cs.length+1+0) →
       ∃ e' a' w',Post G ρ h n many e t' d' h' n' e' a' w'∧ArrivesIn (Machine.fenced P (Fr rd')) P (lone (b.atR a (.code x :: .inLoop x :: k)) cs w) b k cs e' a' w'
theorem loop_sim(hR:RunOk E P ih)(hL:LoopOk E P ih):LoopOk E P (stepA E ih):=by
 intro x rd many t d h n e t' d' h' n' hx G ρ rd' a w hg H ha hrd b k cs hro hb hroom;simp only[stepA] at hx;cases hx1:ih x rd many t d h n with
 | no s=>rw[hx1] at hx;cases hx
 | ok e1 t1 d1 h1 n1 =>
   rw[hx1] at hx;obtain⟨e',a1,w1,hq,harr⟩:=hR x rd many t d h n e1 t1 d1 h1 n1 hx1 G ρ rd' a w hg H ha hrd b (.inLoop x :: k) cs hro hb hroom;have hq0:=hq;obtain⟨q1,ρ1,q2,q3⟩:=hq;cases e1 with
   | normal =>
     cases e'<;>first|exact q1.elim|skip
     simp only at hx;obtain⟨e2,a2,w2,p1,p2⟩:=hL x rd many t1 d1 h1 n1 e t' d' h' n' hx G ρ1 rd' a1 w1 hg q3.st q2 (hrd.step q3) b k cs hro hb hroom;exact⟨e2,a2,w2,post_trans q3 p1,.of_steps (StepsIn.trans harr (.one (fenced_calm hb hroom rfl) stepR_inLoop)) p2⟩
   | exit id =>
     simp only at hx;cases hx;cases e'<;>first|exact q1.elim|skip
     exact⟨_,a1,w1,hq0,.pass (x:= .inLoop x) rfl (fun _ _=> .inl (by simp)) harr⟩
   | ret =>
     simp only at hx;cases hx;cases e'<;>first|exact q1.elim|skip
     exact⟨_,a1,w1,hq0,.pass (x:= .inLoop x) rfl (fun _ _=> .inl (by simp)) harr⟩
theorem stepA_sim(K:EOk E P)(hR:RunOk E P ih)(hL:LoopOk E P ih)(hD:DrawOk E P ih):RunOk E P (stepA E ih):=by
 intro c rd many t d h n e t' d' h' n' hx G ρ rd' a w hg H ha hrd;cases c with
 | skip=>simp only[stepA] at hx;cases hx;exact wpIn_skip ⟨trivial,ρ,ha,.refl H⟩
 | label l=>simp only[stepA] at hx;cases hx;exact wpIn_label ⟨trivial,ρ,ha,.refl H⟩
 | exit id=>simp only[stepA] at hx;cases hx;exact wpIn_exit ⟨rfl,ρ,ha,.refl H⟩
 | ret=>simp only[stepA] at hx;cases hx;exact wpIn_ret ⟨trivial,ρ,ha,.refl H⟩
 | goto l=>simp only[stepA] at hx;cases hx
 | refuse s=>simp only[stepA] at hx;cases hx
 | seq x y =>
   simp only[stepA] at hx;refine wpIn_seq ?_;cases hx1:ih x rd many t d h n with
   | no s=>rw[hx1] at hx;cases hx
   | ok e1 t1 d1 h1 n1 =>
     rw[hx1] at hx;refine wpIn_mono (hR x rd many t d h n e1 t1 d1 h1 n1 hx1 G ρ rd' a w hg H ha hrd) fun e' a' w' hp=>?_
     cases e1 with
     | normal =>
       simp only at hx;have hp0:=hp;obtain⟨q1,ρ1,q2,q3⟩:=hp;cases e'<;>first|exact q1.elim|skip
       exact wpIn_mono (hR y rd many t1 d1 h1 n1 e t' d' h' n' hx G ρ1 rd' a' w' hg q3.st q2 (hrd.step q3)) fun e' a' w' hp=>post_trans q3 hp
     | exit id =>
       simp only at hx;cases hx;have q1:=hp.1;cases e'<;>first|exact q1.elim|exact hp
     | ret =>
       simp only at hx;cases hx;have q1:=hp.1;cases e'<;>first|exact q1.elim|exact hp
 | cond x y z =>
   simp only[stepA] at hx;split at hx
   ·rename_i hb;exact wpIn_cond_true (ev_sim H.wr hg ha.tr hb).bool_inv (hR y rd many t d h n e t' d' h' n' hx G ρ rd' a w hg H ha hrd)
   ·rename_i hb;exact wpIn_cond_false (ev_sim H.wr hg ha.tr hb).bool_inv (hR z rd many t d h n e t' d' h' n' hx G ρ rd' a w hg H ha hrd)
   ·cases hx
 | block id x =>
   simp only[stepA] at hx;refine wpIn_block ?_;cases hx1:ih x rd many t d h n with
   | no s=>rw[hx1] at hx;cases hx
   | ok e1 t1 d1 h1 n1 =>
     rw[hx1] at hx;refine wpIn_mono (hR x rd many t d h n e1 t1 d1 h1 n1 hx1 G ρ rd' a w hg H ha hrd) fun e' a' w' hp=>?_
     obtain⟨q1,ρ1,q2,q3⟩:=hp;cases e1 with
     | normal =>
       simp only at hx;cases hx;cases e'<;>first|exact q1.elim|exact⟨trivial,ρ1,q2,q3⟩
     | ret =>
       simp only at hx;cases hx;cases e'<;>first|exact q1.elim|exact⟨trivial,ρ1,q2,q3⟩
     | exit i =>
       simp only[biE,beqT] at hx;cases e'<;>first|exact q1.elim|skip
       rename_i j;have q1:i=j:=q1;subst q1;simp only[Exit.inBlock];split at hx
       ·rename_i hi;cases hx;rw[if_pos hi];exact⟨trivial,ρ1,q2,q3⟩
       ·rename_i hi;cases hx;rw[if_neg hi];exact⟨rfl,ρ1,q2,q3⟩
 | scope x =>
   simp only[stepA] at hx;cases rd with
   | some l=>cases hx
   | none =>
     cases rd' with
     | some l=>exact hrd.elim
     | none =>
       have:=hR x none many t d h n e t' d' h' n' hx G ρ none a w hg H ha hrd;refine wpIn_wide.2 (wp_scope_straight ((wpIn_wide (n:=0)).1 (wpIn_mono (F:=Fence.wide) this fun e' a' w' hp=>?_)));have q1:=hp.1;cases e'<;>first|exact hp|(cases e<;>exact q1.elim)
 | region id ops dr =>
   cases dr with
   | false =>
     simp only[stepA] at hx;refine wpIn_region ?_;rw[List.range_eq_range'];have:=opsS_sim (rd':=rd') (G:=G) K hg (callF_sim K hR) (roundF_sim hR) ops.toList 0 t d h n ρ a w rfl hx (.refl H) ha hrd
     rwa [Array.length_toList] at this
   | true =>
     simp only[stepA] at hx;exact hD rd many ops t d h n e t' d' h' n' hx G ρ rd' a w id hg H ha hrd
 | rangeFunc f params assign body =>
   simp only[stepA] at hx;cases rd with
   | some l=>simp at hx
   | none =>
     cases rd' with
     | some l=>exact hrd.elim
     | none =>
       split at hx
       ·rename_i g hrd0 hf;split at hx
        ·rename_i k args hcall;split at hx
         ·rename_i v h1 n1 hret;split at hx
          ·rename_i r hr;split at hx
           ·cases hx
           ·rename_i hnb;exact rangeFunc_sim K hR hg H ha hf rfl rfl hcall hret hr (fun hb=>hnb hb) hx
          ·cases hx
         ·cases hx
        ·cases hx
       ·cases hx
 | loop x =>
   intro b k cs hro hb hroom;obtain⟨e',a1,w1,hq,harr⟩:=loop_sim hR hL x rd many t d h n e t' d' h' n' hx G ρ rd' a w hg H ha hrd b k cs hro hb hroom;exact⟨e',a1,w1,hq,.of_steps (.one (fenced_calm hb hroom rfl) stepR_loop) harr⟩
theorem exec_sim(K:EOk E P)(hD:∀ ih,RunOk E P ih→DrawOk E P ih):∀ f,RunOk E P (exec E f)∧LoopOk E P (exec E f)
 | 0=>⟨fun c rd many t d h n e t' d' h' n' hx=>by simp[exec] at hx,fun x rd many t d h n e t' d' h' n' hx=>by simp[exec] at hx⟩
 | f+1 =>
   have ih:=exec_sim K hD f
   ⟨stepA_sim K ih.1 ih.2 (hD _ ih.1),loop_sim ih.1 ih.2⟩
end
section
variable {E:Env}{P:Program}{w:World}{G:Gh}{ρ:Ren}{h:T Blk}{n:Nat}{t t':T Value}
theorem evA_congr{x:Operand}(hx:∀ k,x= .tmp k→t.get k=t'.get k):evA E t x=evA E t' x:=by
 cases x with
 | tmp k=>exact hx k rfl
 | const c=>rfl
 | global g=>rfl
 | func f=>rfl
theorem evAll_congr:∀ {xs:List Operand},(∀ x∈xs,evA E t x=evA E t' x)→evAll E t xs=evAll E t' xs
 | [],_=>rfl
 | x :: xs,hx=>by simp only[evAll,hx x (mcS ..),evAll_congr fun y hy=>hx y (mcM _ hy)]
theorem evParts_congr:∀ {xs:List (Nat×Operand)},(∀ x∈xs,evA E t x.2=evA E t' x.2)→evParts E t xs=evParts E t' xs
 | [],_=>rfl
 | (i,x) :: xs,hx=>by have h1:=hx (i,x) (mcS ..);simp only at h1;simp only[evParts,h1,evParts_congr fun y hy=>hx y (mcM _ hy)]
theorem evOpt_congr{x:Option Operand}(hx:∀ y,x=some y→evA E t y=evA E t' y):evOpt E t x=evOpt E t' x:=by
 cases x with
 | none=>rfl
 | some y=>simp only[evOpt,hx y rfl]
theorem mem_opTmps{o:Oper}{k:Tmp}(hk:Operand.tmp k∈o.op.operands.toList):k∈opTmps o:=by unfold opTmps;exact List.mem_filterMap.2 ⟨_,hk,rfl⟩
theorem opA_congr{o:Oper}(ht:∀ k∈opTmps o,t.get k=t'.get k):opA E t h n o=opA E t' h n o:=by
 have ev:∀ x∈o.op.operands.toList,evA E t x=evA E t' x:=fun x hx=>evA_congr fun k e=>ht k (mem_opTmps (e▸hx))
 unfold opA;split
 ·rename_i x ho;rw[ho] at ev;rw[ev x (by simp[Op.operands])]
 ·rename_i x ho;rw[ho] at ev;rw[ev x (by simp[Op.operands])]
 ·rename_i c x y ho;rw[ho] at ev;rw[ev c (by simp[Op.operands]),ev x (by simp[Op.operands]),ev y (by simp[Op.operands])]
 ·rename_i ty x ho;rw[ho] at ev;rw[ev x (by simp[Op.operands])]
 ·rename_i ty x y ho;rw[ho] at ev;rw[ev x (by simp[Op.operands]),ev y (by simp[Op.operands])]
 ·rfl
 ·rename_i ty x ho;rw[ho] at ev;rw[ev x (by simp[Op.operands])]
 ·rename_i ty ps ho;rw[ho] at ev;rw[evParts_congr fun x hx=>ev x.2 (by simp only[Op.operands];exact List.mem_map_of_mem hx)]
 ·rename_i ty len ps ho;rw[ho] at ev;rw[evParts_congr fun x hx=>ev x.2 (by simp only[Op.operands];exact List.mem_map_of_mem hx)]
 ·rename_i s x k ho;rw[ho] at ev;rw[ev x (by simp[Op.operands])]
 ·rename_i ty x y ho;rw[ho] at ev;rw[ev x (by simp[Op.operands]),ev y (by simp[Op.operands])]
 ·rename_i ty x y ho;rw[ho] at ev;rw[ev x (by simp[Op.operands]),ev y (by simp[Op.operands])]
 ·rename_i op ty x y yt ho;rw[ho] at ev;rw[ev x (by simp[Op.operands]),ev y (by simp[Op.operands])]
 ·rename_i op ty x ho;rw[ho] at ev;rw[ev x (by simp[Op.operands])]
 ·rename_i src dst x ho;rw[ho] at ev;rw[ev x (by simp[Op.operands])]
 ·rename_i x ho;rw[ho] at ev;rw[ev x (by simp[Op.operands])]
 ·rename_i x k ho;rw[ho] at ev;rw[ev x (by simp[Op.operands])]
 ·rename_i ty x ho;rw[ho] at ev;rw[ev x (by simp[Op.operands])]
 ·rename_i f first capt ho;rw[ho] at ev
  rw[evAll_congr fun x hx=>ev x (by simp only[Op.operands,Array.toList_append];exact List.mem_append_left _ hx),
   evAll_congr fun x hx=>ev x (by simp only[Op.operands,Array.toList_append];exact List.mem_append_right _ hx)]
 ·rfl
 ·rename_i ty x y ho;rw[ho] at ev;rw[ev x (by simp[Op.operands]),ev y (by simp[Op.operands])]
 ·rename_i ty x lo hi mx ho;rw[ho] at ev;rw[ev x (by simp[Op.operands]),evOpt_congr fun y hy=>ev y (by simp[Op.operands,hy]),evOpt_congr (x:=hi) fun y hy=>ev y (by simp[Op.operands,hy]),
   evOpt_congr (x:=mx) fun y hy=>ev y (by simp[Op.operands,hy])]
 ·rename_i ty x y ok ho;rw[ho] at ev;rw[ev x (by simp[Op.operands]),ev y (by simp[Op.operands])]
 ·rename_i ty m k x ho;rw[ho] at ev;rw[ev m (by simp[Op.operands]),ev k (by simp[Op.operands]),ev x (by simp[Op.operands])]
 ·rename_i ty m k x ho;rw[ho] at ev;rw[ev m (by simp[Op.operands]),ev k (by simp[Op.operands]),ev x (by simp[Op.operands])]
 ·rename_i ty x ho;rw[ho] at ev;rw[ev x (by simp[Op.operands])]
 ·rename_i x ho;rw[ho] at ev;rw[ev x (by simp[Op.operands])]
 ·rename_i c ho;rw[ho] at ev;have e1:evAll E t c.args.toList=evAll E t' c.args.toList:=evAll_congr fun x hx=>ev x (by
   simp only[Op.operands,Call.operands];cases c.callee<;>simp_all)
  rw[e1];split
  ·split
   ·rename_i f hf;rw[ev f (by simp only[Op.operands,Call.operands,hf];simp)]
   ·rfl
   ·rfl
  ·rfl
 ·rename_i c ho;rw[ho] at ev;have e1:evAll E t c.args.toList=evAll E t' c.args.toList:=evAll_congr fun x hx=>ev x (by
   simp only[Op.operands,Call.operands];cases c.callee<;>simp_all)
  rw[e1];split
  ·rename_i f args hf hargs;rw[ev f (by simp only[Op.operands,Call.operands,hf];simp)]
  ·rfl
 ·rename_i x ho;rw[ho] at ev;rw[ev x (by simp[Op.operands])]
 ·rfl
noncomputable def only(t:T Value):List Tmp→T Value
 | []=> .leaf
 | k :: l=>(only t l).upd (t.get k) k
theorem only_get(t:T Value):∀ {l:List Tmp}{k:Tmp},k∈l→(only t l).get k=t.get k
 | j :: l,k,hk=>by
   rw[only,T.get_upd];split
   ·rename_i e;rw[e]
   ·rename_i e;exact only_get t ((List.mem_cons.1 hk).resolve_left e)
theorem only_some(t:T Value):∀ {l:List Tmp}{k:Tmp}{v:Value},(only t l).get k=some v→k∈l∧t.get k=some v
 | [],k,v,hx=>by rw[only,T.get_leaf] at hx;cases hx
 | j :: l,k,v,hx=>by
   rw[only,T.get_upd] at hx;split at hx
   ·rename_i e;rw[e];exact⟨mcS ..,hx⟩
   ·obtain⟨h1,h2⟩:=only_some t hx;exact⟨mcM _ h1,h2⟩
def Ren.below(ρ:Ren)(n:Nat):Ren:=fun b=>if b<n then ρ b else none
theorem below_some{b:Nat}{L:Pl}:ρ.below n b=some L↔b<n∧ρ b=some L:=by
 unfold Ren.below;split
 ·rename_i h;simp[h]
 ·rename_i h;simp[h]
theorem belowL_iff{f:Nat}:∀ {l:List Value},belowV.belowL n f l=true↔∀ v∈l,belowV n f v=true
 | []=>by simp[belowV.belowL]
 | v :: l=>by simp[belowV.belowL,belowL_iff (l:=l)]
theorem below_rel:∀ (f:Nat){v y:Value},belowV n f v=true→VRel ρ v y→VRel (ρ.below n) v y:=by
 intro f
 induction f with
 | zero =>
   intro v y hb h;cases h with
   | bool b=>exact .bool b
   | int k i=>exact .int k i
   | string s=>exact .string s
   | ptr0=>exact .ptr0
   | ptr hL=>exact .ptr (below_some.2 ⟨by simpa [belowV,bltT] using hb,hL⟩)
   | slice0 l c=>exact .slice0 l c
   | slice l c hL hc=>exact .slice l c (below_some.2 ⟨by simpa [belowV,bltT] using hb,hL⟩) hc
   | sliceU l hL hu hk hl hc hs ho=>exact .sliceU l (below_some.2 ⟨by simpa [belowV,bltT] using hb,hL⟩) hu hk hl hc hs ho
   | sliceZ a hL hk hz=>exact .sliceZ a (below_some.2 ⟨by simpa [belowV,bltT] using hb,hL⟩) hk hz
   | map0=>exact .map0
   | map hL=>exact .map (below_some.2 ⟨by simpa [belowV,bltT] using hb,hL⟩)
   | nilFunc=>exact .nilFunc
   | nilIface=>exact .nilIface
   | func hf ha hb' h1 h2=>simp[belowV] at hb
   | iface t h=>simp[belowV] at hb
   | agg ha h=>simp[belowV] at hb
   | tuple ha h=>simp[belowV] at hb
 | succ f ih =>
   intro v y hb h;cases h with
   | bool b=>exact .bool b
   | int k i=>exact .int k i
   | string s=>exact .string s
   | ptr0=>exact .ptr0
   | ptr hL=>exact .ptr (below_some.2 ⟨by simpa [belowV,bltT] using hb,hL⟩)
   | slice0 l c=>exact .slice0 l c
   | slice l c hL hc=>exact .slice l c (below_some.2 ⟨by simpa [belowV,bltT] using hb,hL⟩) hc
   | sliceU l hL hu hk hl hc hs ho=>exact .sliceU l (below_some.2 ⟨by simpa [belowV,bltT] using hb,hL⟩) hu hk hl hc hs ho
   | sliceZ a hL hk hz=>exact .sliceZ a (below_some.2 ⟨by simpa [belowV,bltT] using hb,hL⟩) hk hz
   | map0=>exact .map0
   | map hL=>exact .map (below_some.2 ⟨by simpa [belowV,bltT] using hb,hL⟩)
   | nilFunc=>exact .nilFunc
   | nilIface=>exact .nilIface
   | func hf ha hb' h1 h2 =>
     rename_i g g' a b a' b';simp only[belowV,baT,belowL_iff] at hb;refine .func ?_ ha hb' (fun i x y hx hy=>ih (hb.1.2 x (List.mem_of_getElem? hx)) (h1 i x y hx hy)) (fun i x y hx hy=>ih (hb.2 x (List.mem_of_getElem? hx)) (h2 i x y hx hy));unfold FRel at hf ⊢;split
     ·simpa using hf
     ·rename_i l m;obtain⟨L,q1,q2⟩:=hf;exact⟨L,below_some.2 ⟨by simpa [bltT] using hb.1.1,q1⟩,q2⟩
     ·split at hf<;>simp_all
   | iface t h =>
     simp only[belowV] at hb;exact .iface t (ih hb h)
   | agg ha h =>
     simp only[belowV,belowL_iff] at hb;exact .agg ha fun i x y hx hy=>ih (hb x (List.mem_of_getElem? hx)) (h i x y hx hy)
   | tuple ha h =>
     simp only[belowV,belowL_iff] at hb;exact .tuple ha fun i x y hx hy=>ih (hb x (List.mem_of_getElem? hx)) (h i x y hx hy)
theorem belowT_spec:∀ {l:List Tmp},belowT n t l=true→∀ k∈l,∀ v,t.get k=some v→belowV n 8 v=true
 | [],_,k,hk,_,_=>by cases hk
 | j :: l,h,k,hk,v,hv=>by
   simp only[belowT,baT] at h;rcases List.mem_cons.1 hk with rfl|hk
   ·have h1:=h.1;rw[hv] at h1;exact h1
   ·exact belowT_spec h.2 k hk v hv
theorem valq{X:Option Value}{why:String}{v:Value}{h':T Blk}{n':Nat}(hx:val? h n why X= .val v h' n'):X=some v∧h'=h∧n'=n:=by
 cases X with
 | none=>cases hx
 | some x=>cases hx;exact⟨rfl,rfl,rfl⟩
theorem opA_pure{o:Oper}(hk:kindOf o= .pure){v:Value}{h':T Blk}{n':Nat}(hx:opA E t h n o= .val v h' n') :
 h'=h∧n'=n∧∀ (h2:T Blk) (n2:Nat),opA E t h2 n2 o= .val v h2 n2:=by
 obtain⟨dst,op,ty0,pos,after,guard⟩:=o;have Q:∀ {X:Option Value} {why:String},val? h n why X= .val v h' n'→h'=h∧n'=n∧∀ (h2:T Blk) (n2:Nat),val? h2 n2 why X= .val v h2 n2:=by intro X why hq;obtain⟨q1,q2,q3⟩:=valq hq;exact⟨q2,q3,fun h2 n2=>by rw[q1];rfl⟩
 have V:∀ {x:Value},OO.val x h n= .val v h' n'→h'=h∧n'=n∧∀ (h2:T Blk) (n2:Nat),OO.val x h2 n2= .val v h2 n2:=by intro x hq;cases hq;exact⟨rfl,rfl,fun _ _=>rfl⟩
 cases op with
 | move x=>exact Q hx
 | assign x=>exact Q hx
 | pick c x y =>
   simp only[opA] at hx ⊢;split at hx
   ·exact Q hx
   ·exact Q hx
   ·cases hx
 | build ty ps =>
   simp only[opA] at hx ⊢;split at hx
   ·exact Q hx
   ·cases hx
 | fieldAddr s x k =>
   simp only[opA] at hx ⊢;split at hx
   ·exact V hx
   ·cases hx
 | indexAddr ty x i =>
   simp only[opA] at hx ⊢;split at hx
   ·exact Q hx
   ·cases hx
 | index ty x i =>
   simp only[opA] at hx ⊢;split at hx
   ·split at hx
    ·split at hx
     ·exact V hx
     ·cases hx
    ·cases hx
   ·cases hx
 | binOp op ty x y yt =>
   simp only[opA] at hx ⊢;split at hx
   ·exact Q hx
   ·cases hx
 | unOp op ty x =>
   simp only[opA] at hx ⊢;split at hx
   ·exact Q hx
   ·cases hx
 | convert src dst x =>
   simp only[opA] at hx ⊢;split at hx
   ·exact Q hx
   ·cases hx
 | nilCheck x =>
   simp only[opA] at hx ⊢;split at hx
   ·exact V hx
   ·exact V hx
   ·exact V hx
   ·cases hx
 | extract x k =>
   simp only[opA] at hx ⊢;split at hx
   ·exact Q hx
   ·cases hx
 | makeInterface ty x =>
   simp only[opA] at hx ⊢;split at hx
   ·split at hx
    ·cases hx
    ·exact V hx
   ·cases hx
 | makeFunc f first capt =>
   simp only[opA] at hx ⊢;split at hx
   ·exact V hx
   ·cases hx
 | slice ty x lo hi mx =>
   simp only[opA] at hx ⊢;split at hx
   ·split at hx
    ·exact Q hx
    ·exact Q hx
   ·cases hx
 | call c =>
   obtain⟨callee,cargs,ats⟩:=c;cases callee with
   | value f=>simp[kindOf] at hk
   | invoke r nm=>simp[kindOf] at hk
   | builtin b =>
     simp only[opA] at hx ⊢;split at hx
     ·rename_i args hargs;cases b<;>simp[kindOf] at hk
      all_goals
       simp only[builtinA] at hx ⊢
       first
        | exact Q hx
        | (split at hx
           all_goals first|exact Q hx|(simp at *;done)|(cases hx;done))
     ·cases hx
 | makeMap ty r=>cases r<;>simp[kindOf] at hk
 | _=>simp[kindOf] at hk
theorem opA_alloc{o:Oper}(hk:kindOf o= .alloc){v:Value}{h':T Blk}{n':Nat}(hx:opA E t h n o= .val v h' n') :
 n'=n+1∧∃ k,isRo k=false∧h'=h.upd (some k) n∧(∀ h2:T Blk,opA E t h2 n o= .val v (h2.upd (some k) n) (n+1))∧∀ (ρ:Ren) (y:Value),VRel ρ v y→∃ L,ρ n=some L:=by
 have Vp:∀ (ρ:Ren) (y:Value),VRel ρ (.pointer (some ⟨n,0,none⟩)) y→∃ L,ρ n=some L:=by
  intro ρ y hv;cases hv with
  | ptr hL=>exact⟨_,hL⟩
 have Vm:∀ (ρ:Ren) (y:Value),VRel ρ (.map (some n)) y→∃ L,ρ n=some L:=by
  intro ρ y hv;cases hv with
  | map hL=>exact⟨_,hL⟩
 have Vs:∀ (l c:Nat) (ρ:Ren) (y:Value),VRel ρ (.slice (some ⟨n,0,none⟩) l c) y→∃ L,ρ n=some L:=by
  intro l c ρ y hv;cases hv with
  | slice _ _ hL _=>exact⟨_,hL⟩
  | sliceU _ hL=>exact⟨_,hL⟩
  | sliceZ _ hL=>exact⟨_,hL⟩
 obtain⟨dst,op,ty0,pos,after,guard⟩:=o;cases op with
 | alloc e =>
   simp only[opA] at hx ⊢;split at hx
   ·rename_i i hi;rw[biE] at hx;split at hx
    ·rename_i hz;cases hx;exact⟨rfl,_,rfl,rfl,(fun h2=>by rw[hz];rfl),Vp⟩
    ·cases hx
   ·cases hx
 | box e x =>
   simp only[opA] at hx ⊢;split at hx
   ·cases hx;exact⟨rfl,_,rfl,rfl,fun h2=>rfl,Vp⟩
   ·cases hx
 | buildSlice ty len ps =>
   simp only[opA] at hx ⊢;split at hx
   ·split at hx
    ·cases hx;exact⟨rfl,_,rfl,rfl,fun h2=>rfl,Vs _ _⟩
    ·cases hx
   ·cases hx
 | makeMap ty r =>
   cases r with
   | none =>
     simp only[opA] at hx ⊢;cases hx;exact⟨rfl,_,rfl,rfl,fun h2=>rfl,Vm⟩
   | some r=>simp[kindOf] at hk
 | makeSlice ty l c =>
   simp only[opA] at hx ⊢;split at hx
   ·split at hx
    ·rename_i lv cv hl hc v1 cs hm;cases hx;have hv:∃ l c,v= .slice (some ⟨n,0,none⟩) l c:=by
      unfold makeSliceA at hm;split at hm
      ·split at hm
       ·split at hm
        ·split at hm
         ·simp only[biE] at hm;split at hm
          ·cases hm;exact⟨_,_,rfl⟩
          ·cases hm
         ·cases hm
        ·cases hm
       ·cases hm
      ·cases hm
     obtain⟨l',c',rfl⟩:=hv;exact⟨rfl,_,rfl,rfl,fun h2=>rfl,Vs _ _⟩
    ·cases hx
   ·cases hx
 | call c =>
   obtain⟨callee,cargs,ats⟩:=c;cases callee with
   | value f=>simp[kindOf] at hk
   | invoke r nm=>simp[kindOf] at hk
   | builtin b=>cases b<;>simp[kindOf] at hk
 | _=>simp[kindOf] at hk
theorem read_sim{a:Act}(K:EOk E P)(hg:E.glob≤G.ng){h0:T Blk}(H:WRel G ρ h0 w)(hw:∀ b L k,ρ b=some L→h.get b=some k→BRel ρ L k w.heap[L.blk]?)(ht:TR ρ t a.tmps){o:Oper}(hk:kindOf o= .read)
 {v:Value} {h':T Blk} {n':Nat} (hx:opA E t h n o= .val v h' n'):h'=h∧n'=n∧∃ y,(execOp a.eval o).run P w= .ok (.value y) w∧VRel ρ v y:=by
 have ev:∀ {x:Operand} {v:Value},evA E t x=some v→VRel ρ v (a.eval x):=fun hx=>ev_sim H hg ht hx
 obtain⟨dst,op,ty0,pos,after,guard⟩:=o;cases op with
 | load ty x =>
   simp only[opA] at hx;split at hx
   ·rename_i p hp;obtain⟨q1,q2,q3⟩:=valq hx;obtain⟨y,r1,r2⟩:=load_sim (P:=P) K hw (ev hp) v q1;refine⟨q2,q3,y,?_,r2⟩;unfold execOp;simp only[Sem.run_bind,r1,Result.andThen_ok,Sem.run_pure]
   ·cases hx
 | lookup ty x i ok =>
   simp only[opA] at hx;split at hx
   ·rename_i m k hm hk';obtain⟨q1,q2,q3⟩:=valq hx;obtain⟨y,r1,r2⟩:=lookup_sim (P:=P) K hw (ev hm) (ev hk') v q1;refine⟨q2,q3,y,?_,r2⟩;unfold execOp;simp only[Sem.run_bind,r1,Result.andThen_ok,Sem.run_pure]
   ·cases hx
 | makeMap ty r=>cases r<;>simp[kindOf] at hk
 | call c =>
   obtain⟨callee,cargs,ats⟩:=c;cases callee with
   | value f=>simp[kindOf] at hk
   | invoke r nm=>simp[kindOf] at hk
   | builtin b=>cases b<;>simp[kindOf] at hk
 | _=>simp[kindOf] at hk
end
theorem sameL_eq{f:Nat}(ih:∀ a b,sameV f a b=true→a=b):∀ {x y:List Value},sameV.sameL f x y=true→x=y
 | [],[],_=>rfl
 | [],_ :: _,h=>by simp[sameV.sameL] at h
 | _ :: _,[],h=>by simp[sameV.sameL] at h
 | a :: x,b :: y,h=>by simp only[sameV.sameL,baT] at h;rw[ih _ _ h.1,sameL_eq ih h.2]
theorem sameV_eq:∀ (f:Nat)(a b:Value),sameV f a b=true→a=b:=by
 intro f
 induction f with
 | zero =>
   intro a b h;unfold sameV at h;split at h
   all_goals first
    | (cases h;done)
    | (exfalso;omega)
    | (simp only[baT,beqT,kindEqT,decide_eq_true_eq,bytesEq_iff,beq_iff_eq] at h
       first
        | (obtain⟨⟨⟨rfl,rfl⟩,rfl⟩,rfl⟩:=h;rfl)
        | (obtain⟨rfl,rfl⟩:=h;rfl)
        | (rw[data_inj h])
        | (subst h;rfl)
        | (cases h;rfl))
    | rfl
 | succ f ih =>
   intro a b h;unfold sameV at h;split at h
   all_goals first
    | (cases h;done)
    | (rename_i he
       cases he;rw[Array.toList_inj.1 (sameL_eq ih h)]
       done)
    | (rename_i he
       cases he;simp only[baT,beqT] at h
       first
        | (obtain⟨⟨rfl,h1⟩,h2⟩:=h
           rw[Array.toList_inj.1 (sameL_eq ih h1),Array.toList_inj.1 (sameL_eq ih h2)]
           done)
        | (rw[Array.toList_inj.1 (sameL_eq ih h)]
           done))
    | (simp only[baT,beqT,kindEqT,decide_eq_true_eq,bytesEq_iff,beq_iff_eq] at h
       first
        | (obtain⟨⟨⟨rfl,rfl⟩,rfl⟩,rfl⟩:=h;rfl)
        | (obtain⟨⟨rfl,h1⟩,h2⟩:=h
           rw[Array.toList_inj.1 (sameL_eq ih h1),Array.toList_inj.1 (sameL_eq ih h2)])
        | (obtain⟨rfl,rfl⟩:=h;rfl)
        | (rw[data_inj h])
        | (rw[Array.toList_inj.1 (sameL_eq ih h)])
        | (subst h;rfl)
        | (cases h;rfl))
    | rfl
section
variable {E:Env}{P:Program}{w w':World}{G:Gh}{ρ:Ren}{h:T Blk}{n:Nat}{t t':T Value}{a:Act}{ih:Run}
theorem opN_sim(K:EOk E P)(hg:E.glob≤G.ng)(HC:CallOk E P (callF E ih))(HR:RoundOk E P (roundF E ih))(H:St G ρ h n w)(ht:TR ρ t a.tmps){rd':Option Nat}{o:Oper}{v:Value}{h':T Blk}{n':Nat}
 (ho:opN E ih t h n o= .inl (v,h',n')) {next:Act→World→Prop} {Q:Exit→Act→World→Prop}
 (hn:∀ y ρ' w',VRel ρ' v y→Stp G ρ h n ρ' h' n' w'→next (a.put o.dst y) w'):o.wpIn (Fr rd') 0 P a w next Q:=by
 refine⟨fun f _=>fr_fn rd' f,?_⟩;have hs:=op_sim K hg H ht o;have sem:(∀ dd,opA E t h n o≠ .dfr dd)→(∀ s,opA E t h n o≠ .no s)→o.semAt (Fr rd').round a.eval=execOp a.eval o:=by
  intro h1 h2;refine Oper.semAt_eq _ _ _ fun c hc=>?_
  rcases opA_defer (E:=E) (t:=t) (h:=h) (n:=n) hc with⟨dd,hd⟩|⟨s,hd⟩
  ·exact h1 dd hd
  ·exact h2 s hd
 unfold opN at ho;cases hop:opA E t h n o with
 | val v1 h1 n1 =>
   rw[hop] at ho hs sem;simp only[Sum.inl.injEq,Prod.mk.injEq] at ho;obtain⟨rfl,rfl,rfl⟩:=ho;obtain⟨ρ',w',y,r1,r2,r3⟩:=hs;rw[sem (by simp) (by simp),r1];exact hn y ρ' w' r2 r3
 | skip h1 n1 =>
   rw[hop] at ho hs sem;simp only[Sum.inl.injEq,Prod.mk.injEq] at ho;obtain⟨rfl,rfl,rfl⟩:=ho;obtain⟨ρ',w',r1,r3⟩:=hs;rw[sem (by simp) (by simp),r1];exact hn undef ρ' w' (undef_rel ρ') r3
 | dfr dd=>rw[hop] at ho;cases ho
 | enter f args =>
   rw[hop] at ho hs sem;simp only at ho;split at ho
   ·rename_i v1 h1 n1 hc;simp only[Sum.inl.injEq,Prod.mk.injEq] at ho;obtain⟨rfl,rfl,rfl⟩:=ho;obtain⟨ys,r1,r2⟩:=hs;rw[sem (by simp) (by simp),r1];refine⟨(fun hd=>by rw[fr_depth] at hd;cases hd),?_⟩;have:=HC f args h n _ _ _ hc G ρ ys w hg H r2;refine CallsIn.mono (F:=Fence.wide) this fun e w' he=>?_
    obtain⟨y,ρ',rfl,q1,q2⟩:=he;exact hn y ρ' w' q1 q2
   ·cases ho
 | round l args =>
   rw[hop] at ho hs sem;simp only at ho;split at ho
   ·rename_i v1 h1 n1 hc;simp only[Sum.inl.injEq,Prod.mk.injEq] at ho;obtain⟨rfl,rfl,rfl⟩:=ho;obtain⟨⟨lr,g1,g2⟩,g3⟩:=HR l args h n _ _ _ hc;obtain⟨L,ys,R,r1,r2,r3,r4⟩:=hs lr g1 g2;rw[sem (by simp) (by simp),r4];refine⟨(fun hd=>by rw[fr_depth] at hd;cases hd),?_⟩;have:=g3 G ρ ys w L R hg H r3 r1 r2;refine RoundIn.mono (F:=Fence.wide) this fun e w' he=>?_
    obtain⟨y,ρ',rfl,q1,q2⟩:=he;exact hn y ρ' w' q1 q2
   ·cases ho
 | pan v1=>rw[hop] at ho;cases ho
 | no s=>rw[hop] at ho;cases ho
theorem only_rel{o:Oper}(hb:belowT n t (opTmps o)=true)(ht:∀ k∈opTmps o,∀ x,t.get k=some x→∃ y,a.tmps[k]? =some y∧VRel ρ x y):TR (ρ.below n) (only t (opTmps o)) a.tmps:=by intro k x hx;obtain⟨h1,h2⟩:=only_some t hx;obtain⟨y,y1,y2⟩:=ht k h1 x h2;exact⟨y,y1,below_rel 8 (belowT_spec hb k h1 x h2) y2⟩
theorem WRel.grow(H:WRel G ρ h w)(hn:ρ n=none){k:Blk}{L:Pl}(hL:w.heap.size≤L.blk)(hw:∀ r,r<w.heap.size→w'.heap[r]? =w.heap[r]?)(hsz:w.heap.size≤w'.heap.size)(ho:Oo w'=Oo w)
 (hb:BRel (ρ.add n L) L k w'.heap[L.blk]?):WRel G (ρ.add n L) (h.upd (some k) n) w':=by
 have hx:Ext ρ (ρ.add n L):=Ext.add L hn;refine⟨?_,?_,?_,?_,Nat.le_trans H.size hsz,fun g hg=>let ⟨s,hs⟩:=H.glob g hg;⟨s,hx _ _ hs⟩,ho.trans H.out⟩
 ·intro b M k' h1 h2;by_cases hbn:b=n
  ·subst hbn;rw[Ren.add_same] at h1;cases h1;rw[T.gsE] at h2;cases h2;exact hb
  ·rw[Ren.add_ne _ _ hbn] at h1;rw[T.gnE _ _ hbn] at h2;rw[hw _ (H.lt h1 h2)];exact(H.blk b M k' h1 h2).mono hx
 ·intro b b' M M' k1 k2 hne h1 h1' h2 h2' hr;by_cases hbn:b=n
  ·subst hbn;rw[Ren.add_same] at h1;cases h1;rw[Ren.add_ne _ _ (Ne.symm hne)] at h1';rw[T.gnE _ _ (Ne.symm hne)] at h2';have:=H.lt h1' h2';omega
  ·rw[Ren.add_ne _ _ hbn] at h1;rw[T.gnE _ _ hbn] at h2;by_cases hbn':b'=n
   ·subst hbn';rw[Ren.add_same] at h1';cases h1';have:=H.lt h1 h2;omega
   ·rw[Ren.add_ne _ _ hbn'] at h1';rw[T.gnE _ _ hbn'] at h2';exact H.apart b b' M M' k1 k2 hne h1 h1' h2 h2' hr
 ·intro b M k' h1 h2 hr;by_cases hbn:b=n
  ·subst hbn;rw[Ren.add_same] at h1;cases h1;exact .inr (Nat.le_trans H.size hL)
  ·rw[Ren.add_ne _ _ hbn] at h1;rw[T.gnE _ _ hbn] at h2;exact H.own b M k' h1 h2 hr
 ·intro r hr ho;rw[hw r (Nat.lt_of_lt_of_le hr H.size)];exact H.frame r hr ho
theorem alloc_any(K:EOk E P)(hg:E.glob≤G.ng)(H:WRel G ρ h w)(hn:ρ n=none)(hgl:∀ g,g<G.ng→g<n){o:Oper}(hb:belowT n t (opTmps o)=true)
 (ht:∀ k∈opTmps o,∀ x,t.get k=some x→∃ y,a.tmps[k]? =some y∧VRel ρ x y) (hk:kindOf o= .alloc) {h1:T Blk} {v:Value} {h':T Blk} {n':Nat} (hx:opA E t h1 n o= .val v h' n') :
 n'=n+1∧∃ k L y w',isRo k=false∧w.heap.size≤L.blk∧h'=h1.upd (some k) n∧(execOp a.eval o).run P w= .ok (.value y) w'∧VRel (ρ.add n L) v y∧WRel G (ρ.add n L) (h.upd (some k) n) w':=by
 have hc:opA E (only t (opTmps o)) h1 n o= .val v h' n':=by rw[←hx];exact opA_congr fun k hk=>only_get t hk
 obtain⟨q1,k,q2,q3,q4,q5⟩:=opA_alloc hk hc;refine⟨q1,?_⟩
 let G':Gh:={heap:=w.heap,own:=fun _=>False,ng:=G.ng,oo:=Oo w}
 have S:St G' (ρ.below n) .leaf n w:=by
  refine⟨⟨?_,?_,?_,fun _ _ _=>rfl,nlR _,?_,rfl⟩,?_,fun _ _=>rfl⟩
  ·intro b L k h1 h2;rw[T.get_leaf] at h2;cases h2
  ·intro b b' L L' k k' _ _ _ h2;rw[T.get_leaf] at h2;cases h2
  ·intro b L k h1 h2;rw[T.get_leaf] at h2;cases h2
  ·intro g hg';obtain⟨s,hs⟩:=H.glob g hg';exact⟨s,below_some.2 ⟨hgl g hg',hs⟩⟩
  ·intro b hb;unfold Ren.below;rw[if_neg (by omega)]
 have hs:=op_sim (G:=G') K hg S (only_rel hb ht) o;rw[q4 .leaf] at hs;obtain⟨ρ',w',y,r1,r2,r3⟩:=hs;obtain⟨L,hL⟩:=q5 ρ' y r2;have hext:Ext ρ' (ρ.add n L):=by
  intro b M hM;rcases Nat.lt_trichotomy b n with hlt|heq|hgt
  ·cases hbl:ρ.below n b with
   | none=>rw[r3.new b hlt hbl] at hM;cases hM
   | some N =>
     have:=r3.ext b N hbl;rw[hM] at this;cases this;rw[Ren.add_ne _ _ (by omega)];exact(below_some.1 hbl).2
  ·subst heq;rw[hL] at hM;cases hM;exact Ren.add_same _ _ _
  ·rw[r3.st.fr b (by omega)] at hM;cases hM
 have hnb:ρ.below n n=none:=by unfold Ren.below;rw[if_neg (by omega)]
 have hLs:w.heap.size≤L.blk:=by
  rcases r3.newOwn n L hnb hL with h|h
  ·exact h.elim
  ·exact h
 have hbr:=(r3.st.wr.blk n L k hL (T.gsE _ _ _)).mono hext;exact⟨k,L,y,w',q2,hLs,q3,r1,r2.mono hext,H.grow hn hLs (fun r hr=>r3.st.wr.frame r hr id) r3.st.wr.size r3.st.wr.out hbr⟩
end
end Go.Sx
