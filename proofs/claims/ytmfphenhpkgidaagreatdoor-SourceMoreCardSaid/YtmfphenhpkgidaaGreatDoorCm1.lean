/-
  The evaluator of the model, and that it is sound: part 1.
-/
import Derived.Calls
import Derived.Laws.Sem
import Derived.Laws.World
import Derived.Laws.Entries
import Derived.Laws.Cells
import Derived.Laws.Append
import Derived.Laws.Slices
import Derived.Laws.StructEq
import Derived.ChangeKeysEq
import Derived.LaidEql
import Derived.Laws.Tables
namespace Go.Cm
def PT(α:Type):Nat→Type
 |0=>Option α
 |d+1=>PT α d×PT α d
namespace PT
variable{α:Type}
def nil:(d:Nat)→PT α d
 |0=>(none:Option α)
 |d+1=>(nil d,nil d)
def at_:(d:Nat)→PT α d→Nat→Option α
 |0,t,_=>t
 |d+1,t,k=>bif Nat.beq (k%2) 0 then at_ d t.1 (k/2)else at_ d t.2 (k/2)
def Bb(v:Option α):(d:Nat)→PT α d→Nat→PT α d
 |0,_,_=>v
 |d+1,t,k=>bif Nat.beq (k%2) 0 then(Bb v d t.1 (k/2),t.2)else(t.1,Bb v d t.2 (k/2))
def get{d:Nat}(t:PT α d)(k:Nat):Option α:=bif Nat.blt k (2 ^ d)then at_ d t k else none
def set{d:Nat}(t:PT α d)(k:Nat)(v:Option α):PT α d:=bif Nat.blt k (2 ^ d)then Bb v d t k else t
def ofList{d:Nat}(k:Nat)(t:PT α d):List α→PT α d
 | []=>t
 |x::r=>ofList (k+1) (t.set k (some x)) r
end PT
abbrev Tm:=PT Value 8
inductive AF where
 |cells (c:List Value) (elem:TypeId) (row own:Bool) (kin:List Nat)
 |map (es:List MapEntry) (clock:Nat)
 |iter (s:List UInt8) (pos:Nat)
 |loop (state:LoopState) (pending:Option Code) (n:Nat) (tmps:Tm) (params:List Tmp) (assign body:Code) (defers:Nat)
 |defs (taken:Bool)
 |Uv (m:Nat)
structure Cr where
 t:PT AF 18
 more:Nat→Option AF
def Cr.get(h:Cr)(b:Nat):Option AF:=bif Nat.blt b 262144 then PT.at_ 18 h.t b else h.more b
def Cr.set(h:Cr)(b:Nat)(x:Option AF):Cr:=bif Nat.blt b 262144 then⟨PT.Bb x 18 h.t b,h.more⟩else⟨h.t,fun j=>bif Nat.beq j b then x else h.more j⟩
def Cr.nil:Cr:=⟨PT.nil 18,fun _=>none⟩
structure St where
 heap:Cr
 size:Nat
def St.get(S:St)(b:Nat):Option AF:=S.heap.get b
def St.set(S:St)(b:Nat)(x:AF):St:={S with heap:=S.heap.set b (some x)}
def St.kill(S:St):List Nat→St
 | []=>S
 |b::r=>St.kill {S with heap:=S.heap.set b none} r
def St.new(S:St)(x:AF):Nat×St:=(S.size, {heap:=S.heap.set S.size (some x),size:=S.size+1})
structure Ca where
 n:Nat
 t:Tm
 defers:List Deferred
def Ca.get(a:Ca)(t:Tmp):Value:=match a.t.get t with
 |some v=>v
 |none=>undef
def Ca.ev(a:Ca):Operand→Value
 | .tmp t=>a.get t
 | .const v=>v
 | .global g=> .pointer (some ⟨g,0,none⟩)
 | .func f=> .func (.func f) #[] #[]
def Ca.put(a:Ca)(dst:Option Tmp)(v:Value):Option Ca :=
 match dst with
 |none=>some a
 |some d=>bif Nat.blt d a.n then some {a with t:=a.t.set d (some v)}else none
def takeN{α:Type}:Nat→List α→Option (List α)
 |0,_=>some []
 |_+1,[]=>none
 |n+1,x::l=>match takeN n l with
  |some r=>some (x::r)
  |none=>none
def CH{α:Type}:Nat→List α→List α
 |0,l=>l
 |_+1,[]=>[]
 |n+1,_::l=>CH n l
def nth{α:Type}:List α→Nat→Option α
 | [],_=>none
 |x::_,0=>some x
 |_::l,n+1=>nth l n
def Bq{α:Type}:Nat→List α→List α→Option (List α)
 |_,[],l=>some l
 |0,_::_,[]=>none
 |0,x::xs,_::l=>match Bq 0 xs l with
  |some r=>some (x::r)
  |none=>none
 |_+1,_::_,[]=>none
 |o+1,x::xs,y::l=>match Bq o (x::xs) l with
  |some r=>some (y::r)
  |none=>none
def GQ:List UInt8→List UInt8→Bool
 | [],[]=>true
 |a::l,b::r=>bif Nat.beq a.toNat b.toNat then GQ l r else false
 |_,_=>false
def Ri:List UInt8→List UInt8→Bool
 |_,[]=>false
 | [],_::_=>true
 |a::x,b::y=>bif Nat.blt a.toNat b.toNat then true else bif Nat.beq a.toNat b.toNat then Ri x y else false
def BG:Value→List Value
 | .agg cs=>cs.toList
 |v=>[v]
def AX(l:List Value):Value:= .agg l.toArray
def EE{α:Type}:Nat→List α→List α
 |0,_=>[]
 |n+1,l=>l++EE n l
mutual
def Dx:Nat→Value→Bool
 |0,_=>false
 |_+1,.bool _=>true
 |_+1,.int _ _=>true
 |_+1,.float _ _=>true
 |_+1,.complex _ _ _=>true
 |_+1,.string _=>true
 |_+1,.pointer none=>true
 |_+1,.slice none 0 0=>true
 |_+1,.map none=>true
 |_+1,.nilFunc=>true
 |_+1,.func (.func _) ⟨[]⟩ ⟨[]⟩=>true
 |_+1,.nilIface=>true
 |n+1,.iface _ v=>Dx n v
 |n+1,.agg a=>T9 n a.toList
 |n+1,.tuple a=>T9 n a.toList
 |_+1,_=>false
def T9:Nat→List Value→Bool
 |0,_=>false
 |_+1,[]=>true
 |n+1,v::l=>Dx n v&&T9 n l
end
def L8:Nat:=1000000
def D9:Value→Bool
 | .agg _=>false
 | .tuple _=>false
 |_=>true
section
variable(P:Program)
def A5(t:TypeId):Option Nat:=match P.info? t with
 |some i=>some i.size
 |none=>none
def zeroV(t:TypeId):Option Value:=match P.info? t with
 |some i=>match i.zero with
  |some v=>bif Dx L8 v then some v else none
  |none=>none
 |none=>none
def zeroOf(t:TypeId):Option (List Value):=match zeroV P t with
 |some v=>some (BG v)
 |none=>none
def Fv(t:TypeId):Option Bool:=match P.underlying t with
 |some (.struct _)|some (.array _ _)=>some true
 |some _=>some false
 |none=>none
def Em(t:TypeId)(cs:List Value)(off:Nat):Option Value :=
 match Fv P t with
 |some true=>match A5 P t with
  |some n=>match takeN n (CH off cs)with
   |some l=>some (AX l)
   |none=>none
  |none=>none
 |some false=>nth cs off
 |none=>none
def Ui(op:BinOp)(k:IntKind)(a b:Int):Option Value :=
 match op with
 | .add=>some (.int k (k.wrap (a+b)))
 | .sub=>some (.int k (k.wrap (a-b)))
 | .mul=>some (.int k (k.wrap (a*b)))
 | .quo=>if b=0 then none else some (.int k (k.wrap (a.tdiv b)))
 | .rem=>if b=0 then none else some (.int k (a.tmod b))
 | .and=>some (.int k (k.wrap (BitVec.ofInt k.bits a &&&BitVec.ofInt k.bits b).toNat))
 | .or=>some (.int k (k.wrap (BitVec.ofInt k.bits a |||BitVec.ofInt k.bits b).toNat))
 | .xor=>some (.int k (k.wrap (BitVec.ofInt k.bits a ^^^ BitVec.ofInt k.bits b).toNat))
 | .andNot=>some (.int k (k.wrap (BitVec.ofInt k.bits a &&& ~~~ BitVec.ofInt k.bits b).toNat))
 | .eql=>some (.bool (a==b))
 | .neq=>some (.bool (a !=b))
 | .lss=>some (.bool (a<b))
 | .leq=>some (.bool (a≤b))
 | .gtr=>some (.bool (a>b))
 | .geq=>some (.bool (a≥b))
 |_=>none
def nz(op:BinOp)(k:IntKind)(a b:Int):Option Value :=
 if b<0 then none else
  match op with
  | .shl=>some (.int k (k.wrap (a*2 ^ min b.toNat k.bits)))
  | .shr=>some (.int k (a.fdiv (2 ^ min b.toNat k.bits)))
  |_=>none
def oO(op:BinOp)(a b:ByteArray):Option Value :=
 match op with
 | .add=>if a.size+b.size>1000000 then none else some (.string ⟨(a.data.toList++b.data.toList).toArray⟩)
 | .eql=>some (.bool (GQ a.data.toList b.data.toList))
 | .neq=>some (.bool (!GQ a.data.toList b.data.toList))
 | .lss=>some (.bool (Ri a.data.toList b.data.toList))
 | .leq=>some (.bool (Ri a.data.toList b.data.toList||GQ a.data.toList b.data.toList))
 | .gtr=>some (.bool (!(Ri a.data.toList b.data.toList||GQ a.data.toList b.data.toList)))
 | .geq=>some (.bool (!Ri a.data.toList b.data.toList))
 |_=>none
def eqFields(eq:TypeId→Value→Value→Option Bool)(xs ys:List Value):List Field→Option Bool
 | []=>some true
 |f::fs =>
  if f.name= "_" then eqFields eq xs ys fs else
  match Em P f.type xs f.offset,Em P f.type ys f.offset with
  |some x,some y=>match eq f.type x y with
   |some true=>eqFields eq xs ys fs
   |r=>r
  |_,_=>none
def WR(eq:TypeId→Value→Value→Option Bool)(elem:TypeId)(size:Nat)(xs ys:List Value):Nat→Nat→Option Bool
 |0,_=>some true
 |n+1,i =>
  match Em P elem xs (i*size),Em P elem ys (i*size)with
  |some x,some y=>match eq elem x y with
   |some true=>WR eq elem size xs ys n (i+1)
   |r=>r
  |_,_=>none
def Cl:Nat→TypeId→Value→Value→Option Bool
 |0,_,_,_=>none
 |d+1,t,x,y =>
  match P.underlying t with
  |some .bool=>match x,y with
   | .bool a,.bool b=>some (a==b)
   |_,_=>none
  |some (.int _)=>match x,y with
   | .int k a,.int k' b=>if k=k' then some (a==b)else none
   |_,_=>none
  |some .string=>match x,y with
   | .string a,.string b=>some (GQ a.data.toList b.data.toList)
   |_,_=>none
  |some (.pointer e)=>match x,y with
   | .pointer none,.pointer b=>some b.isNone
   | .pointer _,.pointer none=>some false
   | .pointer (some ⟨b,o,none⟩),.pointer (some ⟨b',o',none⟩)=>bif Nat.beq b b'&&Nat.beq o o'&&(P.info? e).isSome then some true else none
   |_,_=>none
  |some (.interface _)=>match x,y with
   | .nilIface,.nilIface=>some true
   | .nilIface,.iface _ _=>some false
   | .iface _ _,.nilIface=>some false
   | .iface tx vx,.iface ty vy=>if tx≠ty then some false else
    match P.info? tx with
    |some i=>if i.comparable then Cl d tx vx vy else none
    |none=>none
   |_,_=>none
  |some (.struct fields)=>match x,y with
   | .agg xs,.agg ys=>if P.stoodInHeld t then none else eqFields P (Cl d) xs.toList ys.toList fields.toList
   |_,_=>none
  |some (.array len elem)=>match x,y with
   | .agg xs,.agg ys=>match A5 P elem with
    |some n=>WR P (Cl d) elem n xs.toList ys.toList len 0
    |none=>none
   |_,_=>none
  |some (.slice _)=>match x,y with
   | .slice none _ _,.slice b _ _=>some b.isNone
   | .slice _ _ _,.slice none _ _=>some false
   |_,_=>none
  |some (.map _ _)=>match x,y with
   | .map none,.map b=>some b.isNone
   | .map _,.map none=>some false
   |_,_=>none
  |some (.func _ _ _)=>match x,y with
   | .nilFunc,.nilFunc=>some true
   | .nilFunc,.func _ _ _=>some false
   | .func _ _ _,.nilFunc=>some false
   |_,_=>none
  |_=>none
def E':Nat:=40
def Ox(_:BinOp)(t:TypeId)(x y:Operand)(a b:Value):Bool :=
 match a,b with
 | .nilIface,.nilIface=>match x,y with
  | .const _,_=>true
  |_,.const _=>true
  |_,_=>false
 | .agg _,.agg _=>!(P.eqGuardType P.depth t)
 |_,_=>true
def Fy(op:BinOp)(t:TypeId)(xo yo:Operand)(x y:Value):Option Value :=
 match x,y with
 | .int k a,.int k' b=>match op with
  | .shl| .shr=>nz op k a b
  |_=>if k=k' then Ui op k a b else none
 | .string a,.string b=>oO op a b
 | .float _ _,_| .complex _ _ _,_=>none
 |x,y=>match op with
  | .eql=>if Ox P op t xo yo x y then match Cl P E' t x y with
    |some r=>some (.bool r)
    |none=>none
   else none
  | .neq=>if Ox P op t xo yo x y then match Cl P E' t x y with
    |some r=>some (.bool (!r))
    |none=>none
   else none
  |_=>none
def dv(op:UnOp)(x:Value):Option Value :=
 match op,x with
 | .neg,.int k n=>some (.int k (k.wrap (0-n)))
 | .xor,.int k n=>Ui .xor k (if k.signed then-1 else k.max) n
 | .not,.bool b=>some (.bool !b)
 |_,_=>none
def KC(place:Nat→Option (Nat×Nat))(cells:List Value):List (Nat×Value)→Option (List Value)
 | []=>some cells
 |(i,v)::rest =>
  match place i with
  |none=>none
  |some (off,size) =>
   bif Nat.beq (BG v).length size&&Nat.ble (off+size) cells.length then
    match Bq off (BG v) cells with
    |some c=>KC place c rest
    |none=>none
   else none
def Jp(ρ:Operand→Value)(l:List (Nat×Operand)):List (Nat×Value):=l.map fun x=>(x.1,ρ x.2)
def WD(t:TypeId)(parts:List (Nat×Value)):Option Value :=
 match zeroOf P t,P.underlying t with
 |some z,some (.struct fields)=>match fields.toList.mapM (fun f=>(P.info? f.type).map fun i=>(f.offset,i.size))with
  |some places=>match KC (nth places) z parts with
   |some c=>some (AX c)
   |none=>none
  |none=>none
 |some z,some (.array _ elem)=>match A5 P elem with
  |some n=>match KC (fun i=>some (i*n,n)) z parts with
   |some c=>some (AX c)
   |none=>none
  |none=>none
 |_,_=>none
def MW(S:St)(b o n:Nat):Option (List Value) :=
 match S.get b with
 |some (.cells c _ _ _ _)=>takeN n (CH o c)
 |_=>none
def De(t:TypeId)(v:Value)(S:St):Option Value :=
 match v with
 | .pointer (some ⟨b,o,none⟩)=>match S.get b with
  |some (.cells c _ _ _ _)=>Em P t c o
  |_=>none
 |_=>none
def Jx(S:St)(b o:Nat)(vs:List Value):Option St :=
 match S.get b with
 |some (.cells c e row true kin)=>bif vs.all D9&&Nat.blt 0 vs.length then match Bq o vs c with
  |some c'=>some ((S.kill kin).set b (.cells c' e row true []))
  |none=>none
  else none
 |_=>none
def Fs(t:TypeId)(a v:Value)(S:St):Option St :=
 match a with
 | .pointer (some ⟨b,o,none⟩)=>match A5 P t with
  |some n=>bif Nat.beq (BG v).length n then Jx S b o (BG v)else none
  |none=>none
 |_=>none
def ptrTo(b o:Nat):Value:= .pointer (some ⟨b,o,none⟩)
def PV(S:St)(c:List Value)(e:TypeId)(row:Bool):Value×St :=
 match S.new (.cells c e row true [])with
 |(b,S')=>(ptrTo b 0,S')
def N8(S:St)(c:List Value)(e:TypeId)(len cap:Nat):Value×St :=
 match S.new (.cells c e true true [])with
 |(b,S')=>(.slice (some ⟨b,0,none⟩) len cap,S')
def Jt(x:Option Value)(Om:Nat)(hi:Nat):Option Nat :=
 match x with
 |none=>some Om
 |some (.int _ i)=>if 0≤i∧i≤hi then some i.toNat else none
 |_=>none
def H0(len cap:Nat)(lo hi mx:Option Value):Option (Nat×Nat×Nat) :=
 match Jt mx cap cap with
 |some m=>match hi,mx with
  |none,some _=>none
  |_,_=>match Jt hi len m with
   |some h=>match Jt lo 0 h with
    |some l=>some (l,h,m)
    |none=>none
   |none=>none
 |none=>none
def I8(S:St)(b z:Nat):Bool:=match S.get b with
 |some (.cells _ e true _ _)=>match A5 P e with
  |some n=>Nat.beq n z
  |none=>false
 |some (.cells _ _ false _ _)=>true
 |_=>false
def Ru(S:St)(b:Nat):Bool:=match S.get b with
 |some (.cells _ _ false _ _)=>true
 |_=>false
def Fq(t:TypeId)(x:Value)(lo hi mx:Option Value)(S:St):Option Value :=
 match P.underlying t with
 |some .string=>match x with
  | .string s=>match mx with
   |some _=>none
   |none=>match H0 s.data.toList.length s.data.toList.length lo hi none with
    |some (l,h,_)=>some (.string ⟨((s.data.toList.drop l).take (h-l)).toArray⟩)
    |none=>none
  |_=>none
 |some (.slice elem)=>match x with
  | .slice a len cap=>match A5 P elem,H0 len cap lo hi mx with
   |some z,some (l,h,m)=>match a with
    |none=>some (.slice none (h-l) (m-l))
    |some ⟨b,o,none⟩=>bif I8 P S b z then(bif mx.isSome&&Nat.beq m l then some (.slice (some ⟨b,o,some 0⟩) 0 0)else some (.slice (some ⟨b,o+l*z,none⟩) (h-l) (m-l)))else none
    |some ⟨b,o,some k⟩=>bif Nat.beq len 0&&Nat.beq cap 0 then some (.slice (some ⟨b,o,some k⟩) 0 0)else none
   |_,_=>none
  |_=>none
 |some (.array n elem)=>match x with
  | .pointer (some ⟨b,o,none⟩)=>match A5 P elem,H0 n n lo hi mx with
   |some z,some (l,h,m)=>bif Ru S b then some (.slice (some ⟨b,o+l*z,none⟩) (h-l) (m-l))else none
   |_,_=>none
  |_=>none
 |_=>none
def H4(s:TypeId)(x:Value)(i:Nat):Option Value :=
 match P.underlying s,x with
 |some (.struct fields),.pointer (some ⟨b,o,none⟩)=>match nth fields.toList i with
  |some f=>match A5 P f.type with
   |some (_+1)=>some (ptrTo b (o+f.offset))
   |_=>none
  |none=>none
 |_,_=>none
def Zr(s:TypeId)(x:Value)(i:Nat):Option Value :=
 match P.underlying s,x with
 |some (.struct fields),.agg cs=>match nth fields.toList i with
  |some f=>Em P f.type cs.toList f.offset
  |none=>none
 |_,_=>none
def G5(t:TypeId)(x ix:Value):Option Value :=
 match ix with
 | .int _ i=>match P.underlying t,x with
  |some (.array len elem),.pointer (some ⟨b,o,none⟩)=>if 0≤i∧i<len then match A5 P elem with
   |some n=>some (ptrTo b (o+i.toNat*n))
   |none=>none
   else none
  |some (.slice elem),.slice (some ⟨b,o,none⟩) len _=>if 0≤i∧i<len then match A5 P elem with
   |some n=>some (ptrTo b (o+i.toNat*n))
   |none=>none
   else none
  |_,_=>none
 |_=>none
def Nt(t:TypeId)(x ix:Value):Option Value :=
 match ix with
 | .int _ i=>match P.underlying t,x with
  |some (.array len elem),.agg cs=>if 0≤i∧i<len then match A5 P elem with
   |some n=>Em P elem cs.toList (i.toNat*n)
   |none=>none
   else none
  |some .string,.string s=>if 0≤i then match nth s.data.toList i.toNat with
   |some b=>some (.int .u8 b.toNat)
   |none=>none
   else none
  |_,_=>none
 |_=>none
def Xe(x:Value):Option Value :=
 match x with
 | .pointer (some a)=>some (.pointer (some a))
 | .iface t v=>some (.iface t v)
 | .func (.func f) a b=>some (.func (.func f) a b)
 | .func (.yield f) a b=>some (.func (.yield f) a b)
 | .func (.via t p f q) a b=>some (.func (.via t p f q) a b)
 |_=>none
mutual
def CP:Nat→Value→Value→Bool
 |0,_,_=>false
 |_+1,.bool a,.bool b=>a==b
 |_+1,.int j a,.int k b=>decide (j=k)&&decide (a=b)
 |_+1,.string a,.string b=>GQ a.data.toList b.data.toList
 |_+1,.pointer a,.pointer b=>decide (a=b)
 |_+1,.slice a n c,.slice b m d=>decide (a=b)&&Nat.beq n m&&Nat.beq c d
 |_+1,.map a,.map b=>decide (a=b)
 |n+1,.func f a b,.func g c d=>decide (f=g)&&Gp n a.toList c.toList&&Gp n b.toList d.toList
 |_+1,.nilFunc,.nilFunc=>true
 |n+1,.iface t v,.iface u w=>Nat.beq t u&&CP n v w
 |_+1,.nilIface,.nilIface=>true
 |n+1,.agg a,.agg b=>Gp n a.toList b.toList
 |n+1,.tuple a,.tuple b=>Gp n a.toList b.toList
 |_,_,_=>false
def Gp:Nat→List Value→List Value→Bool
 |0,_,_=>false
 |_+1,[],[]=>true
 |n+1,a::l,b::r=>CP n a b&&Gp n l r
 |_,_,_=>false
end
def F4:Nat→TypeId→Value→Bool
 |0,_,_=>false
 |n+1,t,v =>
  match P.underlying t with
  |some (.interface _)=>false
  |some (.array len elem)=>match v,A5 P elem with
   | .agg cs,some z=>(List.range len).all fun i=>match Em P elem cs.toList (i*z)with
    |some x=>F4 n elem x
    |none=>false
   |_,_=>false
  |some (.struct fields)=>match v with
   | .agg cs=>fields.toList.all fun f=>f.name= "_" ||match Em P f.type cs.toList f.offset with
    |some x=>F4 n f.type x
    |none=>false
   |_=>false
  |some _=>true
  |none=>false
def JP(t:TypeId)(k:Value):List MapEntry→Nat→Option (Option (Nat×Value))
 | [],_=>some none
 |e::es,i=>match Cl P E' t k e.key with
  |some true=>some (some (i,e.val))
  |some false=>JP t k es (i+1)
  |none=>none
def mapOf(S:St)(x:Value):Option (List MapEntry) :=
 match x with
 | .map none=>some []
 | .map (some r)=>match S.get r with
  |some (.map es _)=>some es
  |_=>none
 |_=>none
def N3(t:TypeId)(x ix:Value)(T7:Bool)(S:St):Option Value :=
 match P.underlying t with
 |some (.map key elem)=>match mapOf S x with
  |some es=>if F4 P 20 key ix then match JP P key ix es 0 with
   |some (some (_,v))=>some (if T7 then .tuple #[v,.bool true]else v)
   |some none=>match zeroV P elem with
    |some z=>some (if T7 then .tuple #[z,.bool false]else z)
    |none=>none
   |none=>none
   else none
  |none=>none
 |_=>none
def plainKey:Nat→Value→Bool
 |_,.bool _=>true
 |_,.int _ _=>true
 |_,.string _=>true
 |n+1,.agg cs=>cs.toList.all (plainKey n)
 |_,_=>false
def HS(es:List MapEntry)(i:Nat)(k v:Value):List MapEntry :=
 match es,i with
 | [],_=>[]
 |e::es,0=>{e with key:=k,val:=v}::es
 |e::es,i+1=>e::HS es i k v
def Uw(t:TypeId)(m k v:Value)(S:St):Option St :=
 match P.underlying t,m with
 |some (.map key _),.map (some r)=>match S.get r with
  |some (.map es clock)=>if F4 P 20 key k&&plainKey 20 k then match JP P key k es 0 with
   |some (some (i,_))=>match nth es i with
    |some e=>bif CP 1000 e.key k then some (S.set r (.map (HS es i k v) clock))else none
    |none=>none
   |some none=>some (S.set r (.map (es++[{key:=k,val:=v,born:=clock}]) (clock+1)))
   |none=>none
   else none
  |_=>none
 |_,_=>none
def la(t:TypeId)(m k:Value)(S:St):Option (Value×St) :=
 match P.underlying t,m with
 |some (.map key elem),.map (some r)=>match S.get r with
  |some (.map es clock)=>if F4 P 20 key k&&plainKey 20 k then match JP P key k es 0 with
   |some (some (i,v))=>match nth es i with
    |some e=>bif CP 1000 e.key k then some (.tuple #[v,.int .i64 e.born],S.set r (.map (HS es i k e.val) clock))else none
    |none=>none
   |some none=>match zeroV P elem with
    |some z=>some (.tuple #[z,.int .i64 clock],S.set r (.map (es++[{key:=k,val:=z,born:=clock}]) (clock+1)))
    |none=>none
   |none=>none
   else none
  |_=>none
 |_,_=>none
def dk(born:Int)(v:Value):List MapEntry→Option (List MapEntry)
 | []=>none
 |e::es=>if(e.born:Int)=born then some ({e with val:=v}::es)else match dk born v es with
  |some r=>some (e::r)
  |none=>none
def fg(m AOt v:Value)(S:St):Option St :=
 match m,AOt with
 | .map (some r),.int _ born=>match S.get r with
  |some (.map es clock)=>match dk born v es with
   |some BP=>some (S.set r (.map BP clock))
   |none=>none
  |_=>none
 |_,_=>none
def mm(t:TypeId)(x:Value)(S:St):Option (Value×St) :=
 match P.underlying t,x with
 |some (.map _ _),.map (some r)=>match S.get r with
  |some (.map [] _)=>match S.new (.Uv r)with
   |(b,S')=>some (ptrTo b 0,S')
  |_=>none
 |_,_=>none
def lp(it:Value)(isString:Bool)(S:St):Option (Value×St) :=
 match it,isString with
 | .pointer (some ⟨r,0,none⟩),false=>match S.get r with
  |some (.Uv m)=>match S.get m with
   |some (.map [] _)=>some (.tuple #[.bool false],S)
   |_=>none
  |_=>none
 |_,_=>none
def oY(x:Value)(asserted:TypeId)(T7:Bool):Option Value :=
 match P.underlying asserted,x with
 |some (.interface _),_=>none
 |some _,.nilIface=>if T7 then match zeroV P asserted with
  |some z=>some (.tuple #[z,.bool false])
  |none=>none
  else none
 |some _,.iface t v=>if t=asserted then some (if T7 then .tuple #[v,.bool true]else v)
  else if T7 then match zeroV P asserted with
   |some z=>some (.tuple #[z,.bool false])
   |none=>none
  else none
 |_,_=>none
def Fo(t:TypeId)(x:Value)(S:St):Option Value :=
 match P.underlying t,x with
 |some .string,.string s=>some (.int .i64 s.data.toList.length)
 |some (.array n _),_=>some (.int .i64 n)
 |some (.pointer arr),_=>match P.underlying arr with
  |some (.array n _)=>some (.int .i64 n)
  |_=>none
 |some (.slice _),.slice _ n _=>some (.int .i64 n)
 |some (.map _ _),.map none=>some (.int .i64 0)
 |some (.map _ _),.map (some r)=>match S.get r with
  |some (.map es _)=>some (.int .i64 es.length)
  |_=>none
 |_,_=>none
def EN(S:St)(size n:Nat)(x:Value):Option (List Value) :=
 match x with
 | .slice none _ _=>bif Nat.beq n 0 then some []else none
 | .slice (some ⟨b,o,none⟩) _ _=>MW S b o (n*size)
 | .slice (some ⟨_,_,some _⟩) _ _=>bif Nat.beq n 0 then some []else none
 | .string s=>bif Nat.beq size 1 then takeN n (s.data.toList.map fun b=> .int .u8 b.toNat)else none
 |_=>none
def F6:Value→Option Nat
 | .slice _ n _=>some n
 | .string s=>some s.data.toList.length
 |_=>none
def Ae:Nat:=2 ^ 30
def ft(S:St)(b o size:Nat)(new:List Value):Option St :=
 match S.get b with
 |some (.cells c e true true kin)=>match A5 P e with
  |some z=>bif new.all D9&&Nat.blt 0 new.length&&Nat.beq o c.length&&Nat.beq z size&&Nat.blt 0 z then some ((S.kill kin).set b (.cells (c++new) e true true []))else none
  |none=>none
 |_=>none
def Tv(base:Option Addr)(len n cap size:Nat)(new:List Value)(S:St):Option (Value×St) :=
 match base with
 |none=>some (.slice none (len+n) cap,S)
 |some ⟨b,o,none⟩=>bif Nat.beq new.length 0 then some (.slice (some ⟨b,o,none⟩) (len+n) cap,S)else match Jx S b (o+len*size) new with
  |some S'=>some (.slice (some ⟨b,o,none⟩) (len+n) cap,S')
  |none=>match ft P S b (o+len*size) size new with
   |some S'=>some (.slice (some ⟨b,o,none⟩) (len+n) cap,S')
   |none=>none
 |some ⟨b,o,some k⟩=>bif Nat.beq new.length 0&&(Nat.beq (len+n) 0&&Nat.beq cap 0)then some (.slice (some ⟨b,o,some k⟩) 0 0,S)else none
def OZ(elem:TypeId)(base:Option Addr)(len n size:Nat)(new:List Value)(S:St):Option (Value×St) :=
 match base with
 |none=>bif Nat.beq len 0 then some (N8 S new elem n n)else none
 |some ⟨_,_,some _⟩=>bif Nat.beq len 0 then some (N8 S new elem n n)else none
 |some ⟨b,o,none⟩=>match S.get b with
  |some (.cells c e true true kin)=>match takeN (len*size) (CH o c)with
   |some old=>bif Nat.beq e elem&&Nat.beq (o+len*size) c.length then
    match(S.set b (.cells c e true false kin)).new (.cells (old++new) elem true true (b::kin))with
    |(b',S')=>some (.slice (some ⟨b',0,none⟩) (len+n) (len+n),S')
    else none
   |none=>none
  |_=>none
def MB(elem:TypeId)(size need:Nat):Bool:=match P.info? elem,zeroV P elem with
 |some ei,some z=>Nat.ble ei.bytes 1024&&Nat.blt 0 ei.bytes&&Nat.ble need Ae&&Nat.beq (BG z).length size&&Nat.blt 0 size
 |_,_=>false
def Fw(elem:TypeId)(base:Option Addr)(len cap n size:Nat)(new:List Value)(S:St):Option (Value×St) :=
 bif Nat.ble (len+n) cap then Tv P base len n cap size new S
 else bif MB P elem size (len+n)&&Ol new then OZ elem base len n size new S else none
 where Ol (l:List Value):Bool:=l.all D9
def FV(d:TypeDesc):Bool:=match d with
 | .int _=>true
 |_=>false
def Fx(argTypes:List TypeId)(s x:Value)(S:St):Option (Value×St) :=
 match argTypes with
 |sT::xT::_=>match P.underlying sT,s,F6 x,P.underlying xT with
  |some (.slice elem),.slice base len cap,some n,some xd=>bif FV xd then none else match A5 P elem with
   |some size=>match EN S size n x with
    |some new=>Fw P elem base len cap n size new S
    |none=>none
   |none=>none
  |_,_,_,_=>none
 |_=>none
def ec(argTypes:List TypeId)(s x:Value)(S:St):Option (Value×St) :=
 match argTypes,s,x with
 |sT::xT::_,.slice none 0 0,.int _ (.ofNat n)=>match P.underlying sT,P.underlying xT with
  |some (.slice elem),some (.int _)=>match A5 P elem,zeroV P elem with
   |some size,some z=>bif Nat.blt 0 n&&MB P elem size n then some (N8 S (EE n (BG z)) elem n n)else none
   |_,_=>none
  |_,_=>none
 |_,_,_=>none
def copyV(argTypes:List TypeId)(d x:Value)(S:St):Option (Value×St) :=
 match argTypes with
 |dT::_=>match P.underlying dT,d,F6 x with
  |some (.slice elem),.slice base Qk _,some xn=>match A5 P elem with
   |some size=>match EN S size (Nat.min xn Qk) x with
    |some new=>match base with
     |none=>some (.int .i64 (Nat.min xn Qk),S)
     |some ⟨b,o,none⟩=>bif Nat.beq new.length 0 then some (.int .i64 (Nat.min xn Qk),S)else match Jx S b o new with
      |some S'=>some (.int .i64 (Nat.min xn Qk),S')
      |none=>none
     |_=>none
    |none=>none
   |none=>none
  |_,_,_=>none
 |_=>none
def PU(isMax:Bool):Value→List Value→Option Value
 |v,[]=>some v
 | .int k x,.int _ y::r=>PU isMax (.int k (if isMax then(if y>x then y else x)else(if y<x then y else x))) r
 |_,_=>none
def Uu(t:TypeId)(len cap:Value)(S:St):Option (Value×St) :=
 match P.underlying t,len,cap with
 |some (.slice elem),.int _ l,.int _ c=>match P.info? elem with
  |some ei=>match zeroV P elem with
   |some z=>if 0≤l∧l≤c∧c≤Ae∧ei.bytes≤1024∧(BG z).length=ei.size then some (N8 S (EE c.toNat (BG z)) elem l.toNat c.toNat)else none
   |none=>none
  |none=>none
 |_,_,_=>none
def NQ:List Value→Option (List UInt8)
 | []=>some []
 | .int .u8 n::r=>match NQ r with
  |some l=>some (UInt8.ofNat n.toNat::l)
  |none=>none
 |_::_=>none
def Yi(argTypes:List TypeId)(p:Value)(n:Int)(S:St):Option (Value×St) :=
 match argTypes,p with
 | [pt,_],.pointer a=>match n with
  | .ofNat 0=>some (.string ⟨#[]⟩,S)
  | .ofNat (m+1)=>match a with
   |some ⟨b,o,none⟩=>match P.underlying pt,S.get b with
    |some (.pointer t),some (.cells c e true true kin)=>bif Nat.beq t e&&!(Nat.beq e 0)&&Nat.beq (P.cellsOf e) 1&&Nat.blt m 1000000 then match takeN (m+1) (CH o c)with
     |some l=>match NQ l with
      |some bs=>some (.string ⟨bs.toArray⟩,(S.kill kin).set b (.cells c e true false []))
      |none=>none
     |none=>none
     else none
    |_,_=>none
   |_=>none
  |_=>none
 |_,_=>none
def fS(argTypes:List TypeId)(x:Value)(S:St):Option (Value×St) :=
 match argTypes with
 |t::_=>match P.underlying t,x with
  |some (.slice elem),.slice base n _=>bif Nat.beq n 0 then some (.tuple #[],S)else match base,zeroV P elem with
   |some ⟨b,o,none⟩,some z=>match Jx S b o (EE n (BG z))with
    |some S'=>some (.tuple #[],S')
    |none=>none
   |_,_=>none
  |_,_=>none
 | []=>none
def L4(S:St)(src dst:TypeId)(x:Value):Option (Value×St) :=
 match P.underlying src,P.underlying dst,x with
 |some _,some (.int k),.int _ n=>some (.int k (k.wrap n),S)
 |some _,some .string,.string s=>some (.string s,S)
 |some (.slice e),some .string,.slice none _ _=>match P.underlying e with
  |some (.int .u8)=>some (.string ⟨#[]⟩,S)
  |_=>none
 |some (.slice e),some .string,.slice (some ⟨b,o,none⟩) n c=>match P.underlying e,EN S 1 n (.slice (some ⟨b,o,none⟩) n c)with
  |some (.int .u8),some l=>match NQ l with
   |some bs=>some (.string ⟨bs.toArray⟩,S)
   |none=>none
  |_,_=>none
 |some (.pointer t),some .unsafePointer,.pointer (some ⟨b,o,none⟩)=>match A5 P t,S.get b with
  |some (_+1),some (.cells c _ _ _ _)=>bif Nat.blt o c.length then some (.pointer (some ⟨b,o,none⟩),S)else none
  |_,_=>none
 |some .unsafePointer,some (.pointer u),.pointer (some ⟨b,o,none⟩)=>match A5 P u,S.get b with
  |some _,some (.cells c e false _ _)=>bif !(Nat.beq e 0)&&liesAt P P.depth e (c.length/P.cellsOf e) o u 1 then some (.pointer (some ⟨b,o,none⟩),S)else none
  |_,_=>none
 |_,_,_=>none
def ER(b:Builtin)(argTypes:List TypeId)(args:List Value)(S:St):Option (Value×St) :=
 match b,args with
 | .len,[x]=>match argTypes with
  |t::_=>match Fo P t x S with
   |some v=>some (v,S)
   |none=>none
  | []=>none
 | .append,[s,x]=>match Fx P argTypes s x S with
  |some r=>some r
  |none=>ec P argTypes s x S
 | .min,x::r=>match PU false x r with
  |some v=>some (v,S)
  |none=>none
 | .max,x::r=>match PU true x r with
  |some v=>some (v,S)
  |none=>none
 | .copy,[d,x]=>copyV P argTypes d x S
 | .clear,[x]=>fS P argTypes x S
 | .cap,[x]=>match argTypes,x with
  |t::_,.slice none 0 0=>match P.underlying t with
   |some (.slice _)=>some (.int .i64 0,S)
   |_=>none
  |_,_=>none
 | .unsafeSliceData,[x]=>match x with
  | .slice none _ _=>some (.pointer none,S)
  | .slice (some ⟨b,o,none⟩) _ (_+1)=>some (ptrTo b o,S)
  |_=>none
 | .unsafeString,[p,n]=>match n with
  | .int .i64 i=>Yi P argTypes p i S
  |_=>none
 |_,_=>none
def FY(ρ:Operand→Value)(op:Op):Option Value :=
 match op with
 | .move x| .assign x=>some (ρ x)
 | .pick c a b=>match ρ c with
  | .bool t=>some (if t then ρ a else ρ b)
  |_=>none
 | .build t parts=>WD P t (Jp ρ parts.toList)
 | .nilCheck x=>Xe (ρ x)
 | .binOp op t x y _=>Fy P op t x y (ρ x) (ρ y)
 | .unOp op _ x=>dv op (ρ x)
 | .makeInterface t x=>match P.underlying t with
  |some (.interface _)=>none
  |some _=>some (.iface t (ρ x))
  |none=>none
 | .makeFunc fn first captured=>match fn with
  | .func f=>some (.func (.func f) ⟨first.toList.map ρ⟩ ⟨captured.toList.map ρ⟩)
  | .method n=>some (.func (.method n) ⟨first.toList.map ρ⟩ ⟨captured.toList.map ρ⟩)
  | .via t p f q=>some (.func (.via t p f q) ⟨first.toList.map ρ⟩ ⟨captured.toList.map ρ⟩)
  |_=>none
 | .fieldAddr s x i=>H4 P s (ρ x) i
 | .field t x i=>Zr P t (ρ x) i
 | .indexAddr t x i=>G5 P t (ρ x) (ρ i)
 | .index t x i=>Nt P t (ρ x) (ρ i)
 | .typeAssert x _ t ok=>oY P (ρ x) t ok
 | .extract x i=>match ρ x with
  | .tuple vs=>nth vs.toList i
  |_=>none
 |_=>none
def CF(ρ:Operand→Value)(op:Op)(S:St):Option Value :=
 match op with
 | .load t a=>De P t (ρ a) S
 | .slice t x lo hi mx=>Fq P t (ρ x) (lo.map ρ) (hi.map ρ) (mx.map ρ) S
 | .lookup t x i ok=>N3 P t (ρ x) (ρ i) ok S
 | .call {callee:= .builtin .len,args,argTypes}=>match args.toList,argTypes.toList with
  | [x],t::_=>Fo P t (ρ x) S
  |_,_=>none
 |op=>FY P ρ op
def DY(ρ:Operand→Value)(op:Op)(S:St):Option (Value×St) :=
 match op with
 | .alloc e=>match zeroOf P e with
  |some z=>some (PV S z e false)
  |none=>none
 | .box e x=>some (PV S (BG (ρ x)) e false)
 | .buildSlice t len parts=>match P.underlying t with
  |some (.slice elem)=>match P.info? elem with
   |some ei=>match zeroV P elem with
    |some z=>if len*ei.size≤1000000∧(BG z).length=ei.size then match KC (fun i=>some (i*ei.size,ei.size)) (EE len (BG z)) (Jp ρ parts.toList)with
     |some c=>some (N8 S c elem len len)
     |none=>none
     else none
    |none=>none
   |none=>none
  |_=>none
 | .makeMap _ none=>match S.new (.map [] 0)with
  |(b,S')=>some (.map (some b),S')
 |_=>none
def KH(ρ:Operand→Value)(op:Op)(S:St):Option (Value×St) :=
 match op with
 | .store t a x=>match Fs P t (ρ a) (ρ x) S with
  |some S'=>some (undef,S')
  |none=>none
 | .convert src dst x=>L4 P S src dst (ρ x)
 | .makeMap t (some h)=>match P.underlying t,ρ h with
  |some (.map _ _),.int _ _=>match S.new (.map [] 0)with
   |(b,S')=>some (.map (some b),S')
  |_,_=>none
 | .makeSlice t l c=>Uu P t (ρ l) (ρ c) S
 | .range t x=>mm P t (ρ x) S
 | .next it isString=>lp (ρ it) isString S
 | .mapUpdate t m k x=>match Uw P t (ρ m) (ρ k) (ρ x) S with
  |some S'=>some (undef,S')
  |none=>none
 | .insert t m k x=>match Uw P t (ρ m) (ρ k) (ρ x) S with
  |some S'=>some (undef,S')
  |none=>none
 | .mapEntry t m k=>la P t (ρ m) (ρ k) S
 | .entryStore _ m s x=>match fg (ρ m) (ρ s) (ρ x) S with
  |some S'=>some (undef,S')
  |none=>none
 | .call {callee:= .builtin b,args,argTypes}=>ER P b argTypes.toList (args.toList.map ρ) S
 |_=>none
inductive Kind where
 |read|fresh|Fk
 deriving DecidableEq
def kindOf(op:Op):Kind :=
 match op with
 | .move _| .assign _| .pick .. | .build .. | .nilCheck _| .binOp .. | .unOp .. | .makeInterface .. | .makeFunc .. | .slice .. | .fieldAddr .. | .field ..
 | .indexAddr .. | .index .. | .typeAssert .. | .extract .. | .load .. | .lookup .. => .read
 | .call {callee:= .builtin .len, ..}=> .read
 | .alloc _| .box .. | .buildSlice .. | .makeMap _ none=> .fresh
 |_=> .Fk
inductive QX where
 |val (v:Value)
 |Ab (chain:List PanicEntry)
structure Ap where
 exec:Option Nat→Code→Ca→St→Option (Exit×Ca×St)
 call:Target→List Value→St→Option (Ending×St)
structure BX where
 ext:FuncId→List Value→St→Option (Value×St)
 call:FuncId→List Value→St→Option Value
 defers:FuncId→Bool
end
section
variable(P:Program)(K:BX)(ih:Ap)
def Oh(ρ:Operand→Value)(c:Call)(S:St):Option (Ending×St) :=
 match c.callee with
 | .builtin _=>none
 | .invoke r name=>ih.call (.fn (.method name) #[]) (ρ r::c.args.toList.map ρ) S
 | .value f=>match ρ f with
  | .func fn first cap=>ih.call (.fn fn cap) (first.toList++c.args.toList.map ρ) S
  |_=>none
def CG(ρ:Operand→Value)(op:Op)(S:St):Option (QX×St) :=
 match kindOf op with
 | .read=>match CF P ρ op S with
  |some v=>some (.val v,S)
  |none=>none
 | .fresh=>match DY P ρ op S with
  |some (v,S')=>some (.val v,S')
  |none=>none
 | .Fk=>match op with
  | .call {callee:= .builtin b,args,argTypes}=>match ER P b argTypes.toList (args.toList.map ρ) S with
   |some (v,S')=>some (.val v,S')
   |none=>none
  | .call c=>match Oh ih ρ c S with
   |some (.returned v,S')=>some (.val v,S')
   |some (.panicked ch,S')=>some (.Ab ch,S')
   |_=>none
  | .panic x=>match ρ x with
   | .iface t v=>some (.Ab [{v:= .iface t v,recovered:=false}],S)
   |_=>none
  |op=>match KH P ρ op S with
   |some (v,S')=>some (.val v,S')
   |none=>none
def Du(full:List Oper)(a:Ca)(o:Oper):Bool :=
 match o.guard with
 |none=>true
 |some (j,w)=>match nth full j with
  |some oj=>match oj.dst with
   |some d=>match a.t.get d with
    |some (.bool b)=>b==w
    |_=>false
   |none=>false
  |none=>false
def BT(full:List Oper):List Oper→Ca→St→Option (Exit×Ca×St)
 | [],a,S=>some (.normal,a,S)
 |o::rest,a,S =>
  bif Du full a o then
   match CG P ih a.ev o.op S with
   |some (.val v,S')=>match a.put o.dst v with
    |some a'=>BT full rest a' S'
    |none=>none
   |some (.Ab ch,S')=>some (.panic ch,a,S')
   |none=>none
  else match a.put o.dst undef with
   |some a'=>BT full rest a' S
   |none=>none
def Db:List Oper→List Nat→List Nat
 | [],acc=>acc
 |o::r,acc=>Db r (acc++[o.after.toList.foldl (fun s e=>if Region.binds .any e then s |||2 ^ e.on |||((nth acc e.on).getD 0)else s) 0])
def KW(full:List Oper)(o:Oper):List Tmp :=
 (match o.guard with
  |none=>[]
  |some (j,_)=>match nth full j with
   |some oj=>oj.dst.toList
   |none=>[])++o.dst.toList++o.op.operands.toList.filterMap fun x=>match x with
  | .tmp t=>some t
  |_=>none
def cE(full:List Oper)(AJ:List Nat)(i:Nat)(o:Oper)(j:Nat)(p:Oper):Bool :=
 let ord:=((nth AJ j).getD 0).testBit i
 let AGR:=kindOf o.op== .Fk&&kindOf p.op== .Fk
 (ord||(!AGR&&(match o.dst with|some d=>!(KW full p).contains d|none=>true)&&(match p.dst with|some d=>!(KW full o).contains d|none=>true)))
 &&(match o.dst,p.dst with|some d,some e=>!Nat.beq d e|_,_=>true)
def Jo(full:List Oper)(AJ:List Nat):List (Oper×Nat)→Bool
 | []=>true
 |(o,i)::r=>(r.all fun(p,j)=>cE full AJ i o j p)&&Jo full AJ r
def WM(l:List (Oper×Nat)):Bool:=l.all fun(o,i)=>(o.after.toList.all fun e=>!Region.binds .any e||decide (e.on<i))&&(match o.guard with|some (j,_)=>j<i&&((o.after.toList.any fun e=>e.on==j&&Region.binds .any e))|none=>true)
def m6(full:List Oper):Bool :=
 let l:=full.zipIdx
 WM l&&Jo full (Db full []) l&&l.all fun(o,_)=>match o.op with| .defer _| .go _| .select .. | .send .. | .recv .. | .panic _=>false|_=>true
inductive DD where
 |read (a:Ca) (op:Op) (v:Value)
 |cells (b:Nat) (c:List Value) (e:TypeId) (row:Bool)
 |map (b:Nat)
def DD.ok(S:St):DD→Bool
 | .read a op v=>match CF P a.ev op S with
  |some w=>CP 100000 v w
  |none=>false
 | .cells b c e row=>match S.get b with
  |some (.cells c' e' zR true [])=>Nat.beq e e'&&(row==zR)&&Gp 100000 c c'
  |_=>false
 | .map b=>match S.get b with
  |some (.map [] 0)=>true
  |_=>false
def looks(op:Op):Bool:=match op with
 | .load .. =>true
 | .slice .. =>true
 | .lookup .. =>true
 | .call _=>true
 |_=>false
def Kx(S:St)(b:Nat):Option DD:=match S.get b with
 |some (.cells c e row true [])=>some (.cells b c e row)
 |some (.map [] 0)=>some (.map b)
 |_=>none
def DT(full:List Oper)(AJ:List Nat):List (Oper×Nat)→List (Nat×DD)→Ca→St→Option (Exit×Ca×St)
 | [],_,a,S=>some (.normal,a,S)
 |(o,i)::r,Ah,a,S =>
  bif Du full a o then
   match kindOf o.op with
   | .read=>match CF P a.ev o.op S with
    |some v=>match a.put o.dst v with
     |some a'=>DT full AJ r (bif looks o.op then(i,.read a o.op v)::Ah else Ah) a' S
     |none=>none
    |none=>none
   | .fresh=>match DY P a.ev o.op S with
    |some (v,S')=>match a.put o.dst v,Kx S' S.size,S.get S.size with
     |some a',some c,none=>DT full AJ r ((i,c)::Ah) a' S'
     |_,_,_=>none
    |none=>none
   | .Fk=>match CG P ih a.ev o.op S with
    |some (.val v,S')=>match a.put o.dst v with
     |some a' =>
      let rest:=Ah.filter fun x=>!((nth AJ i).getD 0).testBit x.1
      bif rest.all fun x=>x.2.ok P S' then DT full AJ r rest a' S' else none
     |none=>none
    |_=>none
  else match a.put o.dst undef with
   |some a'=>DT full AJ r Ah a' S
   |none=>none
def ZB(x y:Nat):Bool:=Nat.beq (Nat.land x y) x
def Rv(AJ:List Nat):List (Oper×Nat)→Nat→List (Oper×Nat)×Nat
 | [],done=>([],done)
 |(o,i)::r,done =>
  if done.testBit i||kindOf o.op== .Fk||!ZB ((nth AJ i).getD 0) done then Rv AJ r done
  else match Rv AJ r (Nat.lor done (2 ^ i))with
   |(l,d)=>((o,i)::l,d)
def cJ(AJ:List Nat)(l:List (Oper×Nat)):List (Oper×Nat)→Nat→List (Oper×Nat)
 | [],done=>(Rv AJ l done).1
 |(o,i)::r,done=>match Rv AJ l done with
  |(x,d)=>x++(o,i)::cJ AJ l r (Nat.lor d (2 ^ i))
def cM(full:List Oper):List (Oper×Nat) :=
 let l:=full.zipIdx
 cJ (Db full []) l (l.filter fun x=>kindOf x.1.op== .Fk) 0
def OB(full:List Oper)(AJ:List Nat):List (Oper×Nat)→Nat→Bool
 | [],done=>Nat.beq done (2 ^ full.length-1)
 |(o,i)::r,done =>
  (match nth full i with
   |some o'=>Nat.beq o'.op.operands.size o.op.operands.size
   |none=>false)&&!done.testBit i&&ZB ((nth AJ i).getD 0) done &&
  (kindOf o.op != .Fk||r.all fun x=>((nth AJ x.2).getD 0).testBit i)&&OB full AJ r (Nat.lor done (2 ^ i))
def Rx(full:List Oper):Option (List Nat×List (Oper×Nat)) :=
 let AJ:=Db full []
 let pl:=cM full
 bif m6 full&&OB full AJ pl 0 then some (AJ,pl)else none
def OH(full:List Oper)(a:Ca)(S:St):Option (Exit×Ca×St) :=
 match Rx full with
 |some (AJ,pl)=>DT P ih full AJ pl [] a S
 |none=>none
def D'(l:List Oper):Bool:=l.all fun o=>o.op.operands.toList.all fun x=>match x with
 | .const v=>Dx L8 v
 | .global g=>Nat.blt g P.globals.size
 |_=>true
def N5(S:St)(l:Nat):Option (LoopState×Option Code×Nat×Tm×List Tmp×Code×Code×Nat) :=
 match S.get l with
 |some (.loop st p n t ps x y d)=>some (st,p,n,t,ps,x,y,d)
 |_=>none
def isConst:Operand→Bool
 | .const _=>true
 |_=>false
def Qh(fn:Fn):Bool:=match fn with
 | .func f=>match P.funcs[f]? with
  |some F=>!(F.name== "runtime.NumGoroutine")&&F.body.isSome
  |none=>false
 |_=>false
def Bx(ro:Option Nat)(code:Code)(a:Ca)(S:St):Option (Exit×Ca×St) :=
 match code with
 | .skip=>some (.normal,a,S)
 | .label _=>some (.normal,a,S)
 | .exit id=>some (.exit id,a,S)
 | .ret=>some (.ret,a,S)
 | .region _ ops draw=>bif D' P ops.toList then(bif draw then OH P ih ops.toList a S else BT P ih ops.toList ops.toList a S)else none
 | .seq x y=>match ih.exec ro x a S with
  |some (.normal,a',S')=>ih.exec ro y a' S'
  |r=>r
 | .cond c x y=>match a.ev c with
  | .bool b=>ih.exec ro (if b then x else y) a S
  |_=>none
 | .block id c=>match ih.exec ro c a S with
  |some (.exit j,a',S')=>bif Nat.beq j id then some (.normal,a',S')else some (.exit j,a',S')
  |r=>r
 | .loop c=>match ih.exec ro c a S with
  |some (.normal,a',S')=>ih.exec ro (.loop c) a' S'
  |r=>r
 | .scope c=>match ih.exec ro c a S with
  |some (.goto _,_,_)=>none
  |r=>r
 | .rangeFunc f params assign body =>
  match a.ev f with
  | .func fn first cap=>bif isConst f||!Qh P fn then none else
   let start:Option (Nat×List Deferred×St):=match ro with
    |none=>match S.new (.defs false)with
     |(r,S1)=>some (r,[{target:= .collected r,args:= #[]}],S1)
    |some l=>match N5 S l with
     |some (_,_,_,_,_,_,_,d)=>some (d,[],S)
     |none=>none
   match start with
   |some (d,mark,S1)=>match S1.new (.loop .ready none a.n a.t params.toList assign body d)with
    |(l,S2)=>match ih.call (.fn fn cap) (first.toList++[.func (.yield l) #[] #[]]) S2 with
     |some (.returned _,S3)=>match N5 S3 l with
      |some (st,p,n,t,ps,x,y,d)=>bif (st==LoopState.busy)then none else
       match {a with defers:=mark++a.defers},S3.set l (.loop .exhausted p n t ps x y d)with
       |a',S4=>match p with
        |none=>some (.normal,a',S4)
        |some .ret=>some (.ret,a',S4)
        |some (.exit id)=>some (.exit id,a',S4)
        |_=>none
      |none=>none
     |some (.panicked ch,S3)=>some (.panic ch, {a with defers:=mark++a.defers},S3)
     |_=>none
   |none=>none
  |_=>none
 | .goto _=>none
 | .refuse _=>none
def GS:List Deferred→St→Option St
 | [],S=>some S
 | {target:= .collected r, ..}::ds,S=>match S.get r with
  |some (.defs false)=>GS ds (S.set r (.defs true))
  |_=>none
 |_::_,_=>none
def FL(t:Ca)(S:St):List ResultVar→Option (List Value)
 | []=>some []
 | .tmp x::r=>match FL t S r with
  |some l=>some (t.get x::l)
  |none=>none
 | .cell x e::r=>match De P e (t.get x) S,FL t S r with
  |some v,some l=>some (v::l)
  |_,_=>none
def El(a b:Nat):Nat:=bif Nat.ble a b then b else a
def Kz(f:FuncId)(args:List Value)(S:St):Option (Ending×St) :=
 match P.funcs[f]? with
 |some fn=>match fn.body with
  |some c=>bif (fn.name== "runtime.NumGoroutine")||Nat.blt 256 (El fn.ntmps args.length)then none else match ih.exec none c {n:=El fn.ntmps args.length,t:=PT.ofList 0 (PT.nil 8) args,defers:=[]} S with
   |some (e,a',S')=>match e with
    | .normal| .ret=>match GS a'.defers S' with
     |some GA=>match FL P a' GA fn.results.toList with
      |some [v]=>some (.returned v,GA)
      |some vs=>some (.returned (.tuple vs.toArray),GA)
      |none=>none
     |none=>none
    | .panic ch=>match GS a'.defers S' with
     |some GA=>some (.panicked ch,GA)
     |none=>none
    |_=>none
   |none=>none
  |none=>match K.ext f args S with
   |some (v,S')=>some (.returned v,S')
   |none=>none
 |none=>none
def AHi(o:Oper):Bool:=match o.op with
 | .defer _=>true
 |_=>false
def iM(l:List Oper):Bool:=l.any AHi
def sO(ρ:Operand→Value)(c:Call):Option Deferred:=match c.callee with
 | .value f=>match ρ f with
  | .func (.func fn) first cap=>some {target:= .fn (.func fn) cap,args:=(first.toList++c.args.toList.map ρ).toArray}
  |_=>none
 |_=>none
def MY(full:List Oper):List Oper→Ca→St→Option (Exit×Ca×St)
 | [],a,S=>some (.normal,a,S)
 |o::rest,a,S =>
  bif Du full a o then
   match o.op with
   | .defer c=>match sO a.ev c with
    |some d=>match Ca.put {a with defers:=d::a.defers} o.dst undef with
     |some a'=>MY full rest a' S
     |none=>none
    |none=>none
   |op=>match CG P ih a.ev op S with
    |some (.val v,S')=>match a.put o.dst v with
     |some a'=>MY full rest a' S'
     |none=>none
    |some (.Ab ch,S')=>some (.panic ch,a,S')
    |none=>none
  else match a.put o.dst undef with
   |some a'=>MY full rest a' S
   |none=>none
def K0:Nat→Code→Ca→St→Option (Exit×Ca×St)
 |0,_,_,_=>none
 |n+1,code,a,S=>match code with
  | .region id ops draw=>bif iM ops.toList then(bif draw||!D' P ops.toList then none else MY P ih ops.toList ops.toList a S)else ih.exec none (.region id ops draw) a S
  | .seq x y=>match K0 n x a S with
   |some (.normal,a',S')=>K0 n y a' S'
   |r=>r
  | .cond c x y=>match a.ev c with
   | .bool b=>K0 n (if b then x else y) a S
   |_=>none
  |code=>ih.exec none code a S
inductive Mode where
 |ret
 |Ab (chain:List PanicEntry)
def nu:Mode→Mode
 | .Ab (⟨_,true,_⟩::l7)=>match l7.dropWhile (!·.goexit)with
  | []=> .ret
  |x::rest=> .Ab (x::rest)
 |m=>m
def VD:Mode→Value×Mode
 | .Ab (⟨v,false,false⟩::l7)=>(v,.Ab (⟨v,true,false⟩::l7))
 |m=>(.nilIface,m)
def oM(ρ:Operand→Value)(op:Op)(S:St):Option (Value×St) :=
 match kindOf op with
 | .read=>match CF P ρ op S with
  |some v=>some (v,S)
  |none=>none
 | .fresh=>DY P ρ op S
 | .Fk=>match op with
  | .call _=>none
  | .panic _=>none
  | .defer _=>none
  |op=>KH P ρ op S
def isRec(o:Oper):Bool:=match o.op with
 | .call c=>match c.callee with
  | .builtin .recover=>true
  |_=>false
 |_=>false
def R4(full:List Oper):List Oper→Ca→St→Mode→Option (Ca×St×Mode)
 | [],a,S,m=>some (a,S,m)
 |o::rest,a,S,m =>
  bif Du full a o then
   bif isRec o then match a.put o.dst (VD m).1 with
    |some a'=>R4 full rest a' S (VD m).2
    |none=>none
   else match oM P a.ev o.op S with
    |some (v,S')=>match a.put o.dst v with
     |some a'=>R4 full rest a' S' m
     |none=>none
    |none=>none
  else match a.put o.dst undef with
   |some a'=>R4 full rest a' S m
   |none=>none
def L7:Nat→Code→Ca→St→Mode→Option (Exit×Ca×St×Mode)
 |0,_,_,_,_=>none
 |n+1,code,a,S,m=>match code with
  | .skip=>some (.normal,a,S,m)
  | .ret=>some (.ret,a,S,m)
  | .region _ ops false=>bif !D' P ops.toList then none else match R4 P ops.toList ops.toList a S m with
   |some (a',S',m')=>some (.normal,a',S',m')
   |none=>none
  | .seq x y=>match L7 n x a S m with
   |some (.normal,a',S',m')=>L7 n y a' S' m'
   |r=>r
  | .cond c x y=>match a.ev c with
   | .bool b=>L7 n (if b then x else y) a S m
   |_=>none
  |code=>match ih.exec none code a S with
   |some (.normal,a',S')=>some (.normal,a',S',m)
   |_=>none
def T4(f:FuncId)(args:List Value)(m:Mode)(S:St):Option (Mode×St):=match P.funcs[f]? with
 |some fn=>match fn.body with
  |some c=>bif (fn.name== "runtime.NumGoroutine")||Nat.blt 256 (El fn.ntmps args.length)then none else match L7 P ih 1000 c {n:=El fn.ntmps args.length,t:=PT.ofList 0 (PT.nil 8) args,defers:=[]} S m with
   |some (e,a',S',m')=>match e with
    | .normal| .ret=>match a'.defers,FL P a' S' fn.results.toList with
     | [],some _=>some (m',S')
     |_,_=>none
    |_=>none
   |none=>none
  |none=>none
 |none=>none
def IJ:List Deferred→Mode→St→Option (Mode×St)
 | [],m,S=>some (m,S)
 |d::ds,m,S=>match d.target with
  | .collected r=>match S.get r with
   |some (.defs false)=>IJ ds m (S.set r (.defs true))
   |_=>none
  | .fn (.func f) cap=>match T4 P ih f (d.args.toList++cap.toList) m S with
   |some (m',S')=>IJ ds (nu m') S'
   |none=>none
  |_=>none
def Oo(a:Ca)(rs:List ResultVar)(r:Option (Mode×St)):Option (Ending×St):=match r with
 |some (m,S)=>match m with
  | .ret=>match FL P a S rs with
   |some [v]=>some (.returned v,S)
   |some vs=>some (.returned (.tuple vs.toArray),S)
   |none=>none
  | .Ab ch=>some (.panicked ch,S)
 |none=>none
def Qm(f:FuncId)(args:List Value)(S:St):Option (Ending×St) :=
 match P.funcs[f]? with
 |some fn=>match fn.body with
  |some c=>bif (fn.name== "runtime.NumGoroutine")||Nat.blt 256 (El fn.ntmps args.length)then none else match K0 P ih 1000 c {n:=El fn.ntmps args.length,t:=PT.ofList 0 (PT.nil 8) args,defers:=[]} S with
   |some (e,a',S')=>match e with
    | .normal| .ret=>Oo P a' fn.results.toList (IJ P ih a'.defers .ret S')
    | .panic ch=>Oo P a' fn.results.toList (IJ P ih a'.defers (.Ab ch) S')
    |_=>none
   |none=>none
  |none=>none
 |none=>none
def Hb(f:FuncId)(args:List Value)(S:St):Option (Ending×St) :=
 match K.call f args S with
 |some v=>some (.returned v,S)
 |none=>bif K.defers f then Qm P ih f args S else Kz P K ih f args S
def YN(n:Nat)(t:Tm):List Tmp→List Value→Option Tm
 | [],[]=>some t
 |p::ps,v::vs=>bif Nat.blt p n then YN n (t.set p (some v)) ps vs else none
 |_,_=>none
def VF(l:Nat)(args:List Value)(S:St):Option (Ending×St) :=
 match N5 S l with
 |some (.ready,_,n,t,ps,x,y,_)=>bif Nat.blt 256 n then none else match YN n t ps args with
  |some t'=>match ih.exec (some l) x {n:=n,t:=t',defers:=[]} S with
   |some (.normal,a1,S1)=>match N5 S1 l with
    |some (.ready,p1,n1,t1,Pc,x1,y1,d1)=>match ih.exec (some l) y a1 (S1.set l (.loop .busy p1 n1 t1 Pc x1 y1 d1))with
     |some (e,_,S2)=>match N5 S2 l with
      |some (_,_,n2,t2,U',x2,y2,d2)=>match e with
       | .normal=>some (.returned (.bool true),S2.set l (.loop .ready none n2 t2 U' x2 y2 d2))
       | .ret=>some (.returned (.bool false),S2.set l (.loop .done (some .ret) n2 t2 U' x2 y2 d2))
       | .exit id=>some (.returned (.bool false),S2.set l (.loop .done (some (.exit id)) n2 t2 U' x2 y2 d2))
       |_=>none
      |none=>none
     |none=>none
    |_=>none
   |_=>none
  |none=>none
 |_=>none
def methodOf(t:TypeId)(v:Value)(name:String)(S:St):Option (FuncId×Value) :=
 match P.info? t with
 |some i=>match i.methods.find? (·.name==name)with
  |some m=>bif m.path.isEmpty then match m.func with
   |some (f,ptr)=>match P.underlying t,ptr with
    |some (.pointer _),true=>some (f,v)
    |some (.pointer e),false=>match De P e v S with
     |some x=>some (f,x)
     |none=>none
    |some _,false=>some (f,v)
    |_,_=>none
   |none=>none
   else none
  |none=>none
 |none=>none
def NR(target:Target)(args:List Value)(S:St):Option (Ending×St) :=
 match target with
 | .fn (.func f) cap=>Hb P K ih f (args++cap.toList) S
 | .fn (.yield l) _=>VF ih l args S
 | .fn (.method name) _=>match args with
  | .iface t v::rest=>match methodOf P t v name S with
   |some (f,r)=>Hb P K ih f (r::rest) S
   |none=>none
  |_=>none
 | .fn (.via t path f ptr) _=>match args with
  |x::rest=>bif path.isEmpty then match P.underlying t,ptr with
    |some (.pointer _),true=>Hb P K ih f (x::rest) S
    |some (.pointer e),false=>match De P e x S with
     |some y=>Hb P K ih f (y::rest) S
     |none=>none
    |some _,false=>Hb P K ih f (x::rest) S
    |_,_=>none
   else none
  | []=>none
 |_=>none
end
def fns(P:Program)(K:BX):Nat→Ap
 |0=>⟨fun _ _ _ _=>none,fun _ _ _=>none⟩
 |n+1=>⟨Bx P (fns P K n),NR P K (fns P K n)⟩
end Go.Cm
namespace Go.Cm
theorem MP{a b:Nat}(h:a≠b):Nat.beq a b=false:=by
 cases hb:Nat.beq a b with
 |false=>rfl
 |true=>exact absurd (Nat.eq_of_beq_eq_true hb) h
theorem IN(a:Nat):Nat.beq a a=true:=Nat.beq_refl a
theorem Bc{a b:Nat}(h:Nat.beq a b=true):a=b:=Nat.eq_of_beq_eq_true h
theorem Gk{a b:Nat}(h:Nat.blt a b=true):a<b:=by simpa [Nat.blt_eq]using h
namespace PT
variable{α:Type}
theorem Yk{v:Option α}{d:Nat}{t:PT α (d+1)}{k:Nat}(h:Nat.beq (k%2) 0=true):Bb v (d+1) t k=((Bb v d t.1 (k/2),t.2):PT α d×PT α d):=by
 have e:Bb v (d+1) t k=(bif Nat.beq (k%2) 0 then((Bb v d t.1 (k/2),t.2):PT α d×PT α d)else(t.1,Bb v d t.2 (k/2))):=rfl
 rw[e,h];rfl
theorem Yj{v:Option α}{d:Nat}{t:PT α (d+1)}{k:Nat}(h:Nat.beq (k%2) 0=false):Bb v (d+1) t k=((t.1,Bb v d t.2 (k/2)):PT α d×PT α d):=by
 have e:Bb v (d+1) t k=(bif Nat.beq (k%2) 0 then((Bb v d t.1 (k/2),t.2):PT α d×PT α d)else(t.1,Bb v d t.2 (k/2))):=rfl
 rw[e,h];rfl
theorem Ob{d:Nat}{t:PT α (d+1)}{k:Nat}(h:Nat.beq (k%2) 0=true):at_ (d+1) t k=at_ d t.1 (k/2):=by
 have e:at_ (d+1) t k=(bif Nat.beq (k%2) 0 then at_ d t.1 (k/2)else at_ d t.2 (k/2)):=rfl
 rw[e,h];rfl
theorem Oa{d:Nat}{t:PT α (d+1)}{k:Nat}(h:Nat.beq (k%2) 0=false):at_ (d+1) t k=at_ d t.2 (k/2):=by
 have e:at_ (d+1) t k=(bif Nat.beq (k%2) 0 then at_ d t.1 (k/2)else at_ d t.2 (k/2)):=rfl
 rw[e,h];rfl
theorem Y7(v:Option α):∀(d:Nat) (t:PT α d) (k:Nat),at_ d (Bb v d t k) k=v
 |0,_,_=>rfl
 |d+1,t,k=>by
  cases hb:Nat.beq (k%2) 0 with
  |true=>exact(Ob hb).trans ((congrArg (fun x:PT α (d+1)=>at_ d x.1 (k/2)) (Yk hb)).trans (Y7 v d _ _))
  |false=>exact(Oa hb).trans ((congrArg (fun x:PT α (d+1)=>at_ d x.2 (k/2)) (Yj hb)).trans (Y7 v d _ _))
theorem Y8(v:Option α):∀(d:Nat) (t:PT α d) (k j:Nat),k<2 ^ d→j<2 ^ d→j≠k→at_ d (Bb v d t k) j=at_ d t j
 |0,_,k,j,hk,hj,h=>by simp at hk hj;omega
 |d+1,t,k,j,hk,hj,h=>by
  rw[Nat.pow_succ]at hk hj
  cases hb:Nat.beq (k%2) 0 with
  |true =>
   have ED:=Bc hb
   cases hc:Nat.beq (j%2) 0 with
   |true =>
    have HH:=Bc hc
    exact(Ob hc).trans ((congrArg (fun x:PT α (d+1)=>at_ d x.1 (j/2)) (Yk hb)).trans ((Y8 v d t.1 (k/2) (j/2) (by omega) (by omega) (by omega)).trans (Ob hc).symm))
   |false=>exact(Oa hc).trans ((congrArg (fun x:PT α (d+1)=>at_ d x.2 (j/2)) (Yk hb)).trans (Oa (t:=t) hc).symm)
  |false =>
   have ED:k%2≠0:=fun e=>by rw[e]at hb;cases hb
   cases hc:Nat.beq (j%2) 0 with
   |true=>exact(Ob hc).trans ((congrArg (fun x:PT α (d+1)=>at_ d x.1 (j/2)) (Yj hb)).trans (Ob (t:=t) hc).symm)
   |false =>
    have HH:j%2≠0:=fun e=>by rw[e]at hc;cases hc
    exact(Oa hc).trans ((congrArg (fun x:PT α (d+1)=>at_ d x.2 (j/2)) (Yj hb)).trans ((Y8 v d t.2 (k/2) (j/2) (by omega) (by omega) (by omega)).trans (Oa hc).symm))
theorem Ga{a b:Nat}:Nat.blt a b=decide (a<b):=by
 cases h:Nat.blt a b with
 |true=>simp[Gk h]
 |false =>
  have:¬a<b:=fun e=>by
   have:Nat.blt a b=true:=by rw[Nat.blt_eq];exact e
   rw[this]at h;cases h
  simp[this]
theorem Hd{d:Nat}(t:PT α d)(k j:Nat)(v:Option α):(t.set k v).get j=if j=k∧k<2 ^ d then v else t.get j:=by
 unfold get set
 by_cases hk:k<2 ^ d
 ·by_cases hj:j=k
  ·subst hj
   simp[Ga,hk,Y7]
  by_cases HH:j<2 ^ d
  ·simp[Ga,hk,hj,HH,Y8 v d t k j hk HH hj]
  simp[Ga,hj,HH]
 simp[Ga,hk]
theorem tb{d:Nat}(t:PT α d){k:Nat}(h:¬k<2 ^ d):t.get k=none:=by simp[get,Ga,h]
theorem Zy{d:Nat}(t:PT α d){k:Nat}(j:Nat)(v:Option α)(h:k<2 ^ d):(t.set k v).get j=if j=k then v else t.get j:=by
 rw[Hd];simp[h]
theorem get_nil(d j:Nat):(nil d:PT α d).get j=none:=by
 have:∀(d j:Nat),at_ d (nil d:PT α d) j=none:=by
  intro d
  induction d with
  |zero=>intro j;rfl
  |succ d ih =>
   intro j
   cases hb:Nat.beq (j%2) 0 with
   |true=>exact(Ob hb).trans (ih _)
   |false=>exact(Oa hb).trans (ih _)
 unfold get
 cases Nat.blt j (2 ^ d)<;>simp[this]
theorem gi{d:Nat}:∀(l:List α) (k:Nat) (t:PT α d) (j:Nat),k+l.length≤2 ^ d→(ofList k t l).get j=if k≤j∧j<k+l.length then l[j-k]? else t.get j
 | [],k,t,j,_=>by rw[if_neg (by simp only[List.length_nil];omega)];rfl
 |x::l,k,t,j,h=>by
  simp only[List.length_cons]at h
  rw[ofList,gi l (k+1) _ _ (by omega),Zy _ _ _ (by omega)]
  by_cases h1:j=k
  ·subst h1
   rw[if_neg (by omega),if_pos rfl,if_pos (by simp)]
   simp
  by_cases h2:k≤j
  ·have e:j-k=(j-(k+1))+1:=by omega
   by_cases h3:j<k+(l.length+1)
   ·rw[if_pos (by omega),if_pos (by simp;omega),e];simp
   rw[if_neg (by omega),if_neg h1,if_neg (by simp;omega)]
  rw[if_neg (by omega),if_neg h1,if_neg (by omega)]
end PT
theorem IW{α:Type}:∀(n:Nat) (l r:List α),takeN n l=some r→r.length=n∧n≤l.length∧r=l.take n
 |0,l,r,h=>by simp[takeN]at h;subst h;simp
 |n+1,[],r,h=>by simp[takeN]at h
 |n+1,x::l,r,h=>by
  simp only[takeN]at h
  split at h
  ·rename_i r' hr
   obtain⟨h1,h2,h3⟩:=IW n l r' hr
   cases h
   subst h3
   simp[h2]
  cases h
theorem Td{α:Type}:∀(n:Nat) (l:List α),n≤l.length→takeN n l=some (l.take n)
 |0,l,_=>by simp[takeN]
 |n+1,[],h=>by simp at h
 |n+1,x::l,h=>by simp[takeN,Td n l (by simpa using h)]
theorem Ha{α:Type}:∀(n:Nat) (l:List α),CH n l=l.drop n
 |0,l=>by simp[CH]
 |n+1,[]=>by simp[CH]
 |n+1,_::l=>by simp[CH,Ha n l]
theorem CE{α:Type}:∀(l:List α) (i:Nat),nth l i=l[i]?
 | [],i=>by simp[nth]
 |x::l,0=>by simp[nth]
 |x::l,i+1=>by simp[nth,CE l i]
theorem VL{α:Type}:∀(o:Nat) (xs l r:List α),Bq o xs l=some r →
  r.length=l.length∧(xs≠[]→o+xs.length≤l.length)∧∀i,r[i]?=if o≤i∧i<o+xs.length then xs[i-o]? else l[i]?
 |o,[],l,r,h=>by
  simp[Bq]at h;subst h
  refine⟨rfl,fun h=>absurd rfl h,fun i=>?_⟩
  rw[if_neg (by simp only[List.length_nil];omega)]
 |0,x::xs,[],r,h=>by simp[Bq]at h
 |0,x::xs,y::l,r,h=>by
  simp only[Bq]at h
  split at h
  ·rename_i r' hr
   cases h
   obtain⟨h1,h2,h3⟩:=VL 0 xs l r' hr
   refine⟨by simp[h1],fun _=>?_,fun i=>?_⟩
   ·by_cases hx:xs= []
    ·subst hx;simp
    have:=h2 hx;simp;omega
   cases i with
   |zero=>simp
   |succ i=>simpa using h3 i
  cases h
 |o+1,x::xs,[],r,h=>by simp[Bq]at h
 |o+1,x::xs,y::l,r,h=>by
  simp only[Bq]at h
  split at h
  ·rename_i r' hr
   cases h
   obtain⟨h1,h2,h3⟩:=VL o (x::xs) l r' hr
   refine⟨by simp[h1],fun _=>?_,fun i=>?_⟩
   ·have:=h2 (by simp);simp at this ⊢;omega
   cases i with
   |zero=>simp
   |succ i =>
    have:=h3 i
    simp only[List.getElem?_cons_succ,this]
    by_cases hc:o≤i∧i<o+(x::xs).length
    ·rw[if_pos hc,if_pos (by omega)];congr 1;omega
    rw[if_neg hc,if_neg (by omega)]
  cases h
theorem nq{α:Type}:∀(o:Nat) (xs l:List α),o+xs.length≤l.length→∃r,Bq o xs l=some r
 |o,[],l,_=>⟨l,by cases o<;>cases l<;>rfl⟩
 |0,x::xs,[],h=>by simp at h
 |0,x::xs,y::l,h=>by
  obtain⟨r,hr⟩:=nq 0 xs l (by simp at h ⊢;omega)
  exact⟨x::r,by simp[Bq,hr]⟩
 |o+1,x::xs,[],h=>by simp at h
 |o+1,x::xs,y::l,h=>by
  obtain⟨r,hr⟩:=nq o (x::xs) l (by simp at h ⊢;omega)
  exact⟨y::r,by simp[Bq,hr]⟩
structure Loc where
 r:Nat
 d:Nat
 Lh:Nat
 z:Nat
abbrev AI:=Nat→Option Loc
def Ext(ρ ρ':AI):Prop:= ∀b L,ρ b=some L→ρ' b=some L
theorem Ext.refl(ρ:AI):Ext ρ ρ:=fun _ _ h=>h
theorem Ext.trans{a b c:AI}(h:Ext a b)(k:Ext b c):Ext a c:=fun _ _ x=>k _ _ (h _ _ x)
def Bb(ρ:AI)(b:Nat)(L:Loc):AI:=fun x=>if x=b then some L else ρ x
theorem Ot{ρ:AI}{b:Nat}(L:Loc)(h:ρ b=none):Ext ρ (Bb ρ b L):=by
 intro x M hx
 unfold Bb
 by_cases e:x=b
 ·subst e;rw[h]at hx;cases hx
 rw[if_neg e];exact hx
inductive VR(ρ:AI):Value→Value→Prop
 |bool (b:Bool):VR ρ (.bool b) (.bool b)
 |int (k:IntKind) (n:Int):VR ρ (.int k n) (.int k n)
 |float (k:FloatKind) (n:Nat):VR ρ (.float k n) (.float k n)
 |complex (k:FloatKind) (m n:Nat):VR ρ (.complex k m n) (.complex k m n)
 |string (s:ByteArray):VR ρ (.string s) (.string s)
 |MT:VR ρ (.pointer none) (.pointer none)
 |ptr {b o:Nat} {L:Loc} (h:ρ b=some L):VR ρ (.pointer (some ⟨b,o,none⟩)) (.pointer (some ⟨L.r,o+L.d,none⟩))
 |JA:VR ρ (.slice none 0 0) (.slice none 0 0)
 |slice {b o n c o' c':Nat} {L:Loc} (h:ρ b=some L) (hn:n≤c) (hc:c≤c') (hr:L.z≠0→o'+c'*L.z≤L.Lh) (ho:o'=o+L.d∨c'=0) :
  VR ρ (.slice (some ⟨b,o,none⟩) n c) (.slice (some ⟨L.r,o',none⟩) n c')
 |Lg (b o k:Nat) (a:Addr):VR ρ (.slice (some ⟨b,o,some k⟩) 0 0) (.slice (some a) 0 0)
 |N7:VR ρ (.map none) (.map none)
 |map {b:Nat} {L:Loc} (h:ρ b=some L):VR ρ (.map (some b)) (.map (some L.r))
 |func (f:FuncId) {a a' c c':List Value} (ha:a.length=a'.length) (h:∀(i:Nat) v v',a[i]?=some v→a'[i]?=some v'→VR ρ v v')
  (hc:c.length=c'.length) (k:∀(i:Nat) v v',c[i]?=some v→c'[i]?=some v'→VR ρ v v'):VR ρ (.func (.func f) ⟨a⟩ ⟨c⟩) (.func (.func f) ⟨a'⟩ ⟨c'⟩)
 |method (f:String) {a a' c c':List Value} (ha:a.length=a'.length) (h:∀(i:Nat) v v',a[i]?=some v→a'[i]?=some v'→VR ρ v v')
  (hc:c.length=c'.length) (k:∀(i:Nat) v v',c[i]?=some v→c'[i]?=some v'→VR ρ v v'):VR ρ (.func (.method f) ⟨a⟩ ⟨c⟩) (.func (.method f) ⟨a'⟩ ⟨c'⟩)
 |via (t:TypeId) (p:Array FieldStep) (f:FuncId) (q:Bool) {a a' c c':List Value} (ha:a.length=a'.length) (h:∀(i:Nat) v v',a[i]?=some v→a'[i]?=some v'→VR ρ v v')
  (hc:c.length=c'.length) (k:∀(i:Nat) v v',c[i]?=some v→c'[i]?=some v'→VR ρ v v'):VR ρ (.func (.via t p f q) ⟨a⟩ ⟨c⟩) (.func (.via t p f q) ⟨a'⟩ ⟨c'⟩)
 |yield {l:Nat} {L:Loc} (h:ρ l=some L):VR ρ (.func (.yield l) #[] #[]) (.func (.yield L.r) #[] #[])
 |nilFunc:VR ρ .nilFunc .nilFunc
 |iface (t:TypeId) {v v':Value} (h:VR ρ v v'):VR ρ (.iface t v) (.iface t v')
 |nilIface:VR ρ .nilIface .nilIface
 |agg {a a':List Value} (ha:a.length=a'.length) (h:∀(i:Nat) v v',a[i]?=some v→a'[i]?=some v'→VR ρ v v'):VR ρ (.agg ⟨a⟩) (.agg ⟨a'⟩)
 |tuple {a a':List Value} (ha:a.length=a'.length) (h:∀(i:Nat) v v',a[i]?=some v→a'[i]?=some v'→VR ρ v v'):VR ρ (.tuple ⟨a⟩) (.tuple ⟨a'⟩)
theorem VR.mono{ρ ρ':AI}(e:Ext ρ ρ'){v v':Value}(h:VR ρ v v'):VR ρ' v v':=by
 induction h with
 |bool b=>exact .bool b
 |int k n=>exact .int k n
 |float k n=>exact .float k n
 |complex k m n=>exact .complex k m n
 |string s=>exact .string s
 |MT=>exact .MT
 |ptr h=>exact .ptr (e _ _ h)
 |JA=>exact .JA
 |slice h hn hc hr ho=>exact .slice (e _ _ h) hn hc hr ho
 |Lg b o k a=>exact .Lg b o k a
 |N7=>exact .N7
 |map h=>exact .map (e _ _ h)
 |func f ha _ hc _ i1 i2=>exact .func f ha i1 hc i2
 |method f ha _ hc _ i1 i2=>exact .method f ha i1 hc i2
 |via t p f q ha _ hc _ i1 i2=>exact .via t p f q ha i1 hc i2
 |yield h=>exact .yield (e _ _ h)
 |nilFunc=>exact .nilFunc
 |iface t _ i=>exact .iface t i
 |nilIface=>exact .nilIface
 |agg ha _ i=>exact .agg ha i
 |tuple ha _ i=>exact .tuple ha i
def AS(ρ:AI)(l l':List Value):Prop:=l.length=l'.length∧∀(i:Nat) v v',l[i]?=some v→l'[i]?=some v'→VR ρ v v'
theorem AS.mono{ρ ρ':AI}(e:Ext ρ ρ'){l l':List Value}(h:AS ρ l l'):AS ρ' l l':=⟨h.1,fun i v v' a b=>(h.2 i v v' a b).mono e⟩
theorem AS.nil{ρ:AI}:AS ρ [] []:=⟨rfl,fun i v v' h=>by simp at h⟩
theorem AS.cons{ρ:AI}{v v':Value}{l l':List Value}(h:VR ρ v v')(k:AS ρ l l'):AS ρ (v::l) (v'::l'):=by
 refine⟨by simp[k.1],fun i x x' a b=>?_⟩
 cases i with
 |zero=>simp at a b;subst a;subst b;exact h
 |succ i=>exact k.2 i x x' (by simpa using a) (by simpa using b)
theorem AS.head{ρ:AI}{v v':Value}{l l':List Value}(h:AS ρ (v::l) (v'::l')):VR ρ v v':=h.2 0 v v' rfl rfl
theorem AS.tail{ρ:AI}{v v':Value}{l l':List Value}(h:AS ρ (v::l) (v'::l')):AS ρ l l' :=
 ⟨by simpa using h.1,fun i x x' a b=>h.2 (i+1) x x' (by simpa using a) (by simpa using b)⟩
theorem AS.cons_inv{ρ:AI}{v:Value}{l k:List Value}(h:AS ρ (v::l) k):∃v' l',k=v'::l'∧VR ρ v v'∧AS ρ l l':=by
 cases k with
 |nil=>simp[AS]at h
 |cons v' l'=>exact⟨v',l',rfl,h.head,h.tail⟩
theorem AS.HR{ρ:AI}{k:List Value}(h:AS ρ [] k):k= []:=by
 cases k with
 |nil=>rfl
 |cons v' l'=>simp[AS]at h
theorem AS.get{ρ:AI}{l l':List Value}(h:AS ρ l l'){i:Nat}{v:Value}(hv:l[i]?=some v):∃v',l'[i]?=some v'∧VR ρ v v':=by
 have hi:i<l'.length:=h.1▸(List.getElem?_eq_some_iff.1 hv).1
 exact⟨l'[i],List.getElem?_eq_getElem hi,h.2 i v _ hv (List.getElem?_eq_getElem hi)⟩
theorem AS.append{ρ:AI}{a a' b b':List Value}(h:AS ρ a a')(k:AS ρ b b'):AS ρ (a++b) (a'++b'):=by
 refine⟨by simp[h.1,k.1],fun i v v' x y=>?_⟩
 by_cases hi:i<a.length
 ·rw[List.getElem?_append_left hi]at x
  rw[List.getElem?_append_left (h.1▸hi)]at y
  exact h.2 i v v' x y
 rw[List.getElem?_append_right (by omega)]at x
 rw[List.getElem?_append_right (by rw[←h.1];omega),←h.1]at y
 exact k.2 _ v v' x y
theorem AS.take{ρ:AI}{a a':List Value}(h:AS ρ a a')(n:Nat):AS ρ (a.take n) (a'.take n):=by
 refine⟨by simp[h.1],fun i v v' x y=>?_⟩
 rw[List.getElem?_take]at x y
 split at x
 ·rw[if_pos ‹_›]at y;exact h.2 i v v' x y
 cases x
theorem AS.drop{ρ:AI}{a a':List Value}(h:AS ρ a a')(n:Nat):AS ρ (a.drop n) (a'.drop n):=by
 refine⟨by simp[h.1],fun i v v' x y=>?_⟩
 rw[List.getElem?_drop]at x y
 exact h.2 _ v v' x y
theorem AS.map{ρ:AI}{β:Type}(f g:β→Value)(h:∀x,VR ρ (f x) (g x)):∀l:List β,AS ρ (l.map f) (l.map g)
 | []=>AS.nil
 |x::l=>AS.cons (h x) (AS.map f g h l)
theorem VR.Y4{ρ:AI}{l l':List Value}(h:AS ρ l l'):VR ρ (.agg ⟨l⟩) (.agg ⟨l'⟩):= .agg h.1 h.2
theorem VR.tuple'{ρ:AI}{l l':List Value}(h:AS ρ l l'):VR ρ (.tuple ⟨l⟩) (.tuple ⟨l'⟩):= .tuple h.1 h.2
theorem VR.NG{ρ:AI}{a:Array Value}{v':Value}(h:VR ρ (.agg a) v'):∃a',v'= .agg a'∧AS ρ a.toList a'.toList:=by
 cases h with
 |agg ha h=>exact⟨_,rfl,ha,h⟩
theorem VR.ASI{ρ:AI}{a:Array Value}{v':Value}(h:VR ρ (.tuple a) v'):∃a',v'= .tuple a'∧AS ρ a.toList a'.toList:=by
 cases h with
 |tuple ha h=>exact⟨_,rfl,ha,h⟩
theorem VR.undef(ρ:AI):VR ρ undef undef:=VR.tuple' (l:=[]) (l':=[]) AS.nil
theorem JM(v:Value):BG v=v.cells.toList:=by cases v<;>rfl
theorem VR.cells{ρ:AI}{v v':Value}(h:VR ρ v v'):AS ρ (BG v) (BG v'):=by
 cases h with
 |agg ha h=>exact⟨ha,h⟩
 |bool b=>exact AS.cons (.bool b) .nil
 |int k n=>exact AS.cons (.int k n) .nil
 |float k n=>exact AS.cons (.float k n) .nil
 |complex k m n=>exact AS.cons (.complex k m n) .nil
 |string s=>exact AS.cons (.string s) .nil
 |MT=>exact AS.cons .MT .nil
 |ptr h=>exact AS.cons (.ptr h) .nil
 |JA=>exact AS.cons .JA .nil
 |slice h hn hc hr ho=>exact AS.cons (.slice h hn hc hr ho) .nil
 |Lg b o k a=>exact AS.cons (.Lg b o k a) .nil
 |N7=>exact AS.cons .N7 .nil
 |map h=>exact AS.cons (.map h) .nil
 |func f ha i1 hc i2=>exact AS.cons (.func f ha i1 hc i2) .nil
 |method f ha i1 hc i2=>exact AS.cons (.method f ha i1 hc i2) .nil
 |via t p f q ha i1 hc i2=>exact AS.cons (.via t p f q ha i1 hc i2) .nil
 |yield h=>exact AS.cons (.yield h) .nil
 |nilFunc=>exact AS.cons .nilFunc .nil
 |iface t i=>exact AS.cons (.iface t i) .nil
 |nilIface=>exact AS.cons .nilIface .nil
 |tuple ha i=>exact AS.cons (.tuple ha i) .nil
theorem VR.l8{ρ:AI}{v v':Value}(h:VR ρ v v'):v'.oneCell'=v.oneCell':=by cases h<;>rfl
inductive Flat:Value→Prop
 |bool (b:Bool):Flat (.bool b)
 |int (k:IntKind) (n:Int):Flat (.int k n)
 |float (k:FloatKind) (n:Nat):Flat (.float k n)
 |complex (k:FloatKind) (m n:Nat):Flat (.complex k m n)
 |string (s:ByteArray):Flat (.string s)
 |MT:Flat (.pointer none)
 |JA:Flat (.slice none 0 0)
 |N7:Flat (.map none)
 |nilFunc:Flat .nilFunc
 |func (f:FuncId):Flat (.func (.func f) #[] #[])
 |nilIface:Flat .nilIface
 |iface (t:TypeId) {v:Value} (h:Flat v):Flat (.iface t v)
 |agg {a:List Value} (h:∀(i:Nat) v,a[i]?=some v→Flat v):Flat (.agg ⟨a⟩)
 |tuple {a:List Value} (h:∀(i:Nat) v,a[i]?=some v→Flat v):Flat (.tuple ⟨a⟩)
theorem Flat.refl{v:Value}(h:Flat v)(ρ:AI):VR ρ v v:=by
 induction h with
 |bool b=>exact .bool b
 |int k n=>exact .int k n
 |float k n=>exact .float k n
 |complex k m n=>exact .complex k m n
 |string s=>exact .string s
 |MT=>exact .MT
 |JA=>exact .JA
 |N7=>exact .N7
 |nilFunc=>exact .nilFunc
 |func f=>exact .func f rfl (fun i v v' h=>by simp at h) rfl (fun i v v' h=>by simp at h)
 |nilIface=>exact .nilIface
 |iface t _ i=>exact .iface t i
 |agg _ i=>exact .agg rfl fun j v v' h h'=>by rw[h]at h';cases h';exact i j v h
 |tuple _ i=>exact .tuple rfl fun j v v' h h'=>by rw[h]at h';cases h';exact i j v h
def Yy(ρ:AI)(e e':MapEntry):Prop:=VR ρ e.key e'.key∧VR ρ e.val e'.val∧e'.born=e.born
def Ia(ρ:AI)(l l':List MapEntry):Prop:=l.length=l'.length∧∀(i:Nat) e e',l[i]?=some e→l'[i]?=some e'→Yy ρ e e'
theorem Yy.mono{ρ ρ':AI}(h:Ext ρ ρ'){e e':MapEntry}(x:Yy ρ e e'):Yy ρ' e e':=⟨x.1.mono h,x.2.1.mono h,x.2.2⟩
theorem Ia.mono{ρ ρ':AI}(h:Ext ρ ρ'){e e':List MapEntry}(x:Ia ρ e e'):Ia ρ' e e':=⟨x.1,fun i a b p q=>(x.2 i a b p q).mono h⟩
def Ow(t:Tm)(i:Nat):Value:=match t.get i with
 |some v=>v
 |none=>undef
def GC(ρ:AI)(n:Nat)(t:Tm)(tmps:Array Value):Prop:=tmps.size=n∧∀i,VR ρ (Ow t i) (tmps.getD i undef)
theorem GC.mono{ρ ρ':AI}(h:Ext ρ ρ'){n:Nat}{t:Tm}{a:Array Value}(x:GC ρ n t a):GC ρ' n t a:=⟨x.1,fun i=>(x.2 i).mono h⟩
def AF.ext:AF→Nat
 | .cells c _ _ _ _=>c.length
 |_=>0
def AF.Ux:AF→Bool
 | .cells _ _ _ own _=>own
 |_=>true
def AF.kin:AF→List Nat
 | .cells _ _ _ _ k=>k
 |_=>[]
def Jy(P:Program)(ρ:AI)(B:AF)(o:Option Obj)(L:Loc):Prop :=
 match B with
 | .cells c e row own _=>∃(arr:Array Value) (e':TypeId) (fz:Nat×Nat),o=some (.cells arr e' fz)∧arr.size=L.Lh ∧
   (∀(i:Nat) v,c[i]?=some v→∃v',arr[L.d+i]?=some v'∧VR ρ v v')∧(own=true→∀j,j<L.Lh→¬(fz.1≤j∧j<fz.2)) ∧
   (row=true→A5 P e=some L.z)∧(row=false→L.z=0∧L.d=0∧L.Lh=c.length)∧((own=true∨row=false)→e≠0→e'=e)
 | .map es clock=>∃BP:List MapEntry,o=some (.map BP.toArray clock)∧Ia ρ es BP
 | .iter s pos=>o=some (.stringIter ⟨s.toArray⟩ pos)
 | .loop st p n t ps x y d=>∃(fn:FuncId) (tmps:Array Value) (D:Loc),o=some (.loop {state:=st,pending:=p,fn:=fn,tmps:=tmps,params:=ps.toArray,assign:=x,body:=y,defers:=D.r}) ∧
   GC ρ n t tmps∧ρ d=some D
 | .defs taken=>o=some (.deferred (if taken then none else some []))
 | .Uv m=>∃(M:Loc) (since last:Nat),ρ m=some M∧L.d=0∧o=some (.mapIter (some M.r) since #[] last)
theorem Jy.mono{P:Program}{ρ ρ':AI}(h:Ext ρ ρ'){B:AF}{o:Option Obj}{L:Loc}(x:Jy P ρ B o L):Jy P ρ' B o L:=by
 cases B with
 |cells c e row own kin =>
  obtain⟨arr,e',fz,h1,h2,h3,h4,h5⟩:=x
  exact⟨arr,e',fz,h1,h2,fun i v hv=>let⟨v',a,b⟩:=h3 i v hv;⟨v',a,b.mono h⟩,h4,h5⟩
 |map es clock=>obtain⟨BP,h1,h2⟩:=x;exact⟨BP,h1,h2.mono h⟩
 |iter s pos=>exact x
 |loop st p n t ps a b d=>obtain⟨fn,tmps,D,h1,h2,h3⟩:=x;exact⟨fn,tmps,D,h1,h2.mono h,h _ _ h3⟩
 |defs taken=>exact x
 |Uv m=>obtain⟨M,since,last,h1,h2⟩:=x;exact⟨M,since,last,h _ _ h1,h2⟩
structure Bi extends World where
 no:Nat→Bool
structure AW(P:Program)(w0:Bi)(ρ:AI)(S:St)(w:World):Prop where
 size:w0.heap.size≤w.heap.size
 old:∀i,i<w0.heap.size→w.heap[i]?=w0.heap[i]?
 os:w.os=w0.os
 out:w.output=w0.output
 Dj:∀b L,ρ b=some L→b<S.size∧L.r<w.heap.size
 Bn:∀b L B,ρ b=some L→S.get b=some B→Jy P ρ B w.heap[L.r]? L
 own:∀b L B,ρ b=some L→S.get b=some B→B.Ux=true→w0.heap.size≤L.r ∧
  ∀b' L' B',ρ b'=some L'→L'.r=L.r→S.get b'=some B'→b'≠b→b'∈B.kin∧B'.Ux=false∧B'.ext+L'.d≤B.ext+L.d
 KE:∀g,g<P.globals.size→∃L,ρ g=some L∧L.r=g∧L.d=0
 no:∀b,w0.no b=true→ρ b=none∧b<S.size
theorem Cr.Hd(h:Cr)(k j:Nat)(v:Option AF):(h.set k v).get j=if j=k then v else h.get j:=by
 unfold Cr.get Cr.set
 by_cases hk:k<262144
 ·have hk':k<2 ^ 18:=hk
  by_cases hj:j=k
  ·subst hj
   simp[PT.Ga,hk,PT.Y7]
  by_cases HH:j<262144
  ·have AGZ:j<2 ^ 18:=HH
   simp[PT.Ga,hk,hj,HH,PT.Y8 v 18 h.t k j hk' AGZ hj]
  simp[PT.Ga,hk,hj,HH]
 by_cases hj:j=k
 ·subst hj
  simp[PT.Ga,hk]
 by_cases HH:j<262144
 ·simp[PT.Ga,hk,hj,HH]
 simp[PT.Ga,hk,hj,HH,MP hj]
theorem Cr.get_nil(j:Nat):Cr.nil.get j=none:=by
 have:=PT.get_nil (α:=AF) 18 j
 unfold PT.get at this
 unfold Cr.get Cr.nil
 rw[show(2:Nat) ^ 18=262144 from rfl]at this
 cases h:Nat.blt j 262144 with
 |true=>rw[h]at this;exact this
 |false=>rfl
theorem Ee(S:St)(b j:Nat)(x:AF):(S.set b x).get j=if j=b then some x else S.get j:=Cr.Hd _ _ _ _
theorem PQ:∀(l:List Nat) (S:St),(S.kill l).size=S.size
 | [],_=>rfl
 |b::r,S=>by rw[St.kill,PQ r]
theorem LQ:∀(l:List Nat) (S:St) (j:Nat),(S.kill l).get j=if j∈l then none else S.get j
 | [],S,j=>by simp[St.kill]
 |b::r,S,j=>by
  rw[St.kill,LQ r]
  by_cases h:j∈r
  ·simp[h]
  simp only[St.get,Cr.Hd,h,if_false,List.mem_cons,or_false]
theorem AW.same{P:Program}{w0:Bi}{ρ:AI}{S:St}{w w':World}(h:AW P w0 ρ S w)(hh:w'.heap=w.heap)(ho:w'.os=w.os)(hp:w'.output=w.output):AW P w0 ρ S w' :=
 ⟨by rw[hh];exact h.size,by rw[hh];exact h.old,ho.trans h.os,hp.trans h.out,by rw[hh];exact h.Dj,by rw[hh];exact h.Bn,h.own,h.KE,h.no⟩
theorem AW.drew{P:Program}{w0:Bi}{ρ:AI}{S:St}{w:World}(h:AW P w0 ρ S w):AW P w0 ρ S w.drew:=h.same rfl rfl rfl
theorem AW.kill{P:Program}{w0:Bi}{ρ:AI}{S:St}{w:World}(h:AW P w0 ρ S w)(l:List Nat):AW P w0 ρ (S.kill l) w:=by
 refine⟨h.size,h.old,h.os,h.out,by rw[PQ];exact h.Dj,fun b L B hb hB=>?_,fun b L B hb hB hm=>?_,h.KE,by rw[PQ];exact h.no⟩
 ·rw[LQ]at hB
  split at hB
  ·cases hB
  exact h.Bn b L B hb hB
 rw[LQ]at hB
 split at hB
 ·cases hB
 refine⟨(h.own b L B hb hB hm).1,fun b' L' B' Bj hr EC Ac=>?_⟩
 rw[LQ]at EC
 split at EC
 ·cases EC
 exact(h.own b L B hb hB hm).2 b' L' B' Bj hr EC Ac
theorem heap_alloc_old{w:World}{o:Obj}{i:Nat}(h:i<w.heap.size):(w.alloc o).heap[i]?=w.heap[i]?:=by
 simp only[World.alloc,Array.getElem?_push]
 rw[if_neg (by omega)]
theorem heap_alloc_new{w:World}{o:Obj}:(w.alloc o).heap[w.heap.size]?=some o:=by
 show(w.heap.push o)[w.heap.size]?=some o
 simp
theorem AW.add{P:Program}{w0:Bi}{ρ:AI}{S:St}{w:World}(h:AW P w0 ρ S w){B:AF}{o:Obj}{L:Loc}(hr:L.r=w.heap.size)
  (hB:Jy P (Bb ρ S.size L) B (some o) L):Ext ρ (Bb ρ S.size L)∧AW P w0 (Bb ρ S.size L) ⟨S.heap.set S.size (some B),S.size+1⟩ (w.alloc o):=by
 have Jb:ρ S.size=none:=by
  cases hx:ρ S.size with
  |none=>rfl
  |some M=>exact absurd (h.Dj _ _ hx).1 (Nat.lt_irrefl _)
 have GI:=Ot L Jb
 refine⟨GI,⟨by rw[World.size_alloc];have:=h.size;omega,fun i hi=>?_,h.os,h.out,fun b M hb=>?_,fun b M C hb hC=>?_,fun b M C hb hC hm=>?_,fun g hg=>let⟨M,a,b⟩:=h.KE g hg;⟨M,GI _ _ a,b⟩,fun b hb=>?_⟩⟩
 ·rw[heap_alloc_old (by have:=h.size;omega)];exact h.old i hi
 ·rw[World.size_alloc]
  show b<S.size+1∧_
  unfold Bb at hb
  split at hb
  ·cases hb;omega
  have:=h.Dj b M hb;omega
 ·have Ir:(if b=S.size then some B else S.get b)=some C:=by
   have:=hC;simp only[St.get,Cr.Hd]at this
   exact this
  unfold Bb at hb
  by_cases e:b=S.size
  ·rw[if_pos e]at hb Ir
   cases hb;cases Ir
   rw[hr,heap_alloc_new]
   exact hB
  rw[if_neg e]at hb Ir
  rw[heap_alloc_old (h.Dj b M hb).2]
  exact(h.Bn b M C hb Ir).mono GI
 ·have key:∀{c:Nat} {D:AF},(⟨S.heap.set S.size (some B),S.size+1⟩:St).get c=some D→(if c=S.size then some B else S.get c)=some D:=by
   intro c D hD;simp only[St.get,Cr.Hd]at hD
   exact hD
  have Ir:=key hC
  unfold Bb at hb
  by_cases e:b=S.size
  ·rw[if_pos e]at hb
   cases hb
   refine⟨by have:=h.size;omega,fun b' L' B' Bj FG EC Ac=>?_⟩
   unfold Bb at Bj
   rw[if_neg (by rw[e]at Ac;exact Ac)]at Bj
   have:=(h.Dj b' L' Bj).2
   omega
  rw[if_neg e]at hb Ir
  refine⟨(h.own b M C hb Ir hm).1,fun b' L' B' Bj FG EC Ac=>?_⟩
  unfold Bb at Bj
  have tu:=key EC
  by_cases e':b'=S.size
  ·rw[if_pos e']at Bj
   cases Bj
   have:=(h.Dj b M hb).2
   omega
  rw[if_neg e']at Bj tu
  exact(h.own b M C hb Ir hm).2 b' L' B' Bj FG tu Ac
 have:=h.no b hb
 refine⟨?_,by show b<S.size+1;omega⟩
 unfold Bb
 rw[if_neg (by omega)]
 exact this.1
structure Kr(r:Nat)(o:Obj)(w w':World):Prop where
 same:∀k,k≠r→w'.heap[k]?=w.heap[k]?
 now:w'.heap[r]?=some o
 size:w'.heap.size=w.heap.size
 os:w'.os=w.os
 out:w'.output=w.output
theorem AW.put{P:Program}{w0:Bi}{ρ:AI}{S:St}{w w':World}(h:AW P w0 ρ S w){b:Nat}{L:Loc}{B B':AF}{o:Obj}(hb:ρ b=some L)(hB:S.get b=some B)
  (hm:B.Ux=true)(hw:Kr L.r o w w')(hk:Jy P ρ B' (some o) L):AW P w0 ρ ((S.kill B.kin).set b B') w':=by
 have vN:((S.kill B.kin).set b B').size=S.size:=PQ _ _
 have Dm:∀j,((S.kill B.kin).set b B').get j=if j=b then some B' else if j∈B.kin then none else S.get j:=fun j=>by rw[Ee,LQ]
 have Nn:=h.own b L B hb hB hm
 have alone:∀b' L' C,ρ b'=some L'→((S.kill B.kin).set b B').get b'=some C→b'≠b→L'.r≠L.r:=by
  intro b' L' C Bj hC Ac hr
  rw[Dm,if_neg Ac]at hC
  split at hC
  ·cases hC
  rename_i iz
  exact iz (Nn.2 b' L' C Bj hr hC Ac).1
 refine⟨by rw[hw.size];exact h.size,fun i hi=>?_,hw.os.trans h.os,hw.out.trans h.out,fun c M hc=>?_,fun c M C hc hC=>?_,fun c M C hc hC uw=>?_,h.KE,by rw[vN];exact h.no⟩
 ·rw[hw.same i (by have:=Nn.1;omega)];exact h.old i hi
 ·rw[vN,hw.size];exact h.Dj c M hc
 ·by_cases e:c=b
  ·subst e
   rw[Dm,if_pos rfl]at hC
   cases hC
   rw[hb]at hc;cases hc
   rw[hw.now];exact hk
  have Ac:=alone c M C hc hC e
  rw[Dm,if_neg e]at hC
  split at hC
  ·cases hC
  rw[hw.same _ Ac];exact h.Bn c M C hc hC
 by_cases e:c=b
 ·subst e
  rw[hb]at hc;cases hc
  exact⟨Nn.1,fun b' L' D Bj hr hD Ac=>absurd hr (alone b' L' D Bj hD Ac)⟩
 have hC0:=hC
 rw[Dm,if_neg e]at hC
 split at hC
 ·cases hC
 refine⟨(h.own c M C hc hC uw).1,fun b' L' D Bj hr hD Ac=>?_⟩
 by_cases e':b'=b
 ·subst e'
  rw[hb]at Bj;cases Bj
  exact absurd hr.symm (alone c M C hc hC0 e)
 rw[Dm,if_neg e']at hD
 split at hD
 ·cases hD
 exact(h.own c M C hc hC uw).2 b' L' D Bj hr hD Ac
end Go.Cm
namespace Go.Cm
open Go
variable{P:Program}
theorem A3{t:TypeId}{d:TypeDesc}(w:World)(h:P.underlying t=some d):(underlying t).run P w= .ok d w:=by
 simp[underlying,h]
theorem MZ{t:TypeId}{i:TypeInfo}(w:World)(h:P.info? t=some i):(typeInfo t).run P w= .ok i w:=by
 simp[typeInfo,h]
theorem Ye{t:TypeId}{n:Nat}(h:A5 P t=some n):∃i,P.info? t=some i∧i.size=n:=by
 unfold A5 at h
 split at h
 ·rename_i i hi;cases h;exact⟨i,hi,rfl⟩
 cases h
theorem FZ{t:TypeId}{n:Nat}(w:World)(h:A5 P t=some n):(sizeOf t).run P w= .ok n w:=by
 obtain⟨i,hi,rfl⟩:=Ye h
 simp[sizeOf,MZ w hi]
theorem ABr{t:TypeId}{b:Bool}(h:Fv P t=some b):∃d,P.underlying t=some d∧b=(match d with| .struct _| .array _ _=>true|_=>false):=by
 unfold Fv at h
 split at h
 ·rename_i f hd;cases h;exact⟨_,hd,rfl⟩
 ·rename_i n e hd;cases h;exact⟨_,hd,rfl⟩
 ·rename_i d h1 h2 hd
  cases h
  refine⟨d,hd,?_⟩
  cases d<;>first|rfl|(exact absurd rfl (h1 _))|(exact absurd rfl (h2 _ _))
 cases h
theorem cc{t:TypeId}{b:Bool}(w:World)(h:Fv P t=some b):(isAgg t).run P w= .ok b w:=by
 obtain⟨d,hd,rfl⟩:=ABr h
 simp only[isAgg,Sem.run_bind,A3 w hd,Result.andThen_ok]
 cases d<;>rfl
mutual
theorem NX:∀(n:Nat) (v:Value),Dx n v=true→Flat v
 |0,v,h=>by simp[Dx]at h
 |n+1,.bool b,_=> .bool b
 |n+1,.int k m,_=> .int k m
 |n+1,.float k m,_=> .float k m
 |n+1,.complex k a b,_=> .complex k a b
 |n+1,.string s,_=> .string s
 |n+1,.pointer none,_=> .MT
 |n+1,.pointer (some _),h=>by simp[Dx]at h
 |n+1,.slice none 0 0,_=> .JA
 |n+1,.slice none (a+1) b,h=>by simp[Dx]at h
 |n+1,.slice none 0 (b+1),h=>by simp[Dx]at h
 |n+1,.slice (some _) _ _,h=>by simp[Dx]at h
 |n+1,.map none,_=> .N7
 |n+1,.map (some _),h=>by simp[Dx]at h
 |n+1,.chan _,h=>by simp[Dx]at h
 |n+1,.nilFunc,_=> .nilFunc
 |n+1,.func f ⟨a⟩ ⟨c⟩,h=>by
  cases f<;>cases a<;>cases c<;>first|exact .func _|simp[Dx]at h
 |n+1,.nilIface,_=> .nilIface
 |n+1,.iface t v,h=> .iface t (NX n v (by simpa [Dx]using h))
 |n+1,.agg ⟨a⟩,h=> .agg (gK n a (by simpa [Dx]using h))
 |n+1,.tuple ⟨a⟩,h=> .tuple (gK n a (by simpa [Dx]using h))
theorem gK:∀(n:Nat) (l:List Value),T9 n l=true→∀(i:Nat) v,l[i]?=some v→Flat v
 |0,l,h,_,_,_=>by simp[T9]at h
 |n+1,[],_,i,v,hv=>by simp at hv
 |n+1,x::l,h,i,v,hv=>by
  simp only[T9,Bool.and_eq_true]at h
  cases i with
  |zero=>simp at hv;subst hv;exact NX n x h.1
  |succ i=>exact gK n l h.2 i v (by simpa using hv)
end
theorem QR{t:TypeId}{z:Value}(h:zeroV P t=some z):∃i,P.info? t=some i∧i.zero=some z∧Flat z:=by
 unfold zeroV at h
 split at h
 ·rename_i i hi
  split at h
  ·rename_i v hv
   cases hf:Dx L8 v with
   |false=>rw[hf]at h;cases h
   |true=>rw[hf]at h;cases h;exact⟨i,hi,hv,NX _ _ hf⟩
  cases h
 cases h
theorem Ka{t:TypeId}{z:Value}(w:World)(h:zeroV P t=some z):(zeroValue t).run P w= .ok z w:=by
 obtain⟨i,hi,hz,_⟩:=QR h
 simp[zeroValue,MZ w hi,hz]
theorem p0{t:TypeId}{c:List Value}(h:zeroOf P t=some c):∃z,zeroV P t=some z∧c=BG z∧Flat z:=by
 unfold zeroOf at h
 split at h
 ·rename_i z hz
  cases h
  obtain⟨_,_,_,hf⟩:=QR hz
  exact⟨z,hz,rfl,hf⟩
 cases h
theorem PX{ρ:AI}{t:TypeId}{cs:List Value}{off:Nat}{v:Value}(h:Em P t cs off=some v){J5:Array Value}(hc:AS ρ cs J5.toList)(w:World) :
  ∃v',(part t J5 off).run P w= .ok v' w∧VR ρ v v':=by
 unfold Em at h
 split at h
 ·rename_i ha
  split at h
  ·rename_i n hn
   split at h
   ·rename_i l hl
    cases h
    obtain⟨h1,h2,h3⟩:=IW _ _ _ hl
    refine⟨.agg (J5.extract off (off+n)),by simp[part,cc w ha,FZ w hn],?_⟩
    have:(J5.extract off (off+n)).toList=(J5.toList.drop off).take n:=by
     rw[Array.toList_extract];simp[List.extract]
    refine VR.Y4 (l:=l) (l':=(J5.extract off (off+n)).toList) ?_
    rw[this,h3,Ha]
    exact(hc.drop off).take n
   cases h
  cases h
 ·rename_i ha
  rw[CE]at h
  obtain⟨v',F1,hr⟩:=hc.get h
  refine⟨v',?_,hr⟩
  have:J5[off]?=some v':=by rw[←Array.getElem?_toList];exact F1
  simp[part,cc w ha,this]
 cases h
theorem cell_of{w:World}{r:Nat}{arr:Array Value}{e:TypeId}{fz:Nat×Nat}(h:w.heap[r]?=some (.cells arr e fz))(i:Nat):w.cell? ⟨r,i,none⟩=arr[i]?:=by
 simp[World.cell?,h]
theorem lX{ρ:AI}{w:World}{r d:Nat}{arr:Array Value}{e:TypeId}{fz:Nat×Nat}(h:w.heap[r]?=some (.cells arr e fz)){c:List Value}
  (hc:∀(i:Nat) v,c[i]?=some v→∃v',arr[d+i]?=some v'∧VR ρ v v'){o n:Nat}{l:List Value}(hl:takeN n (CH o c)=some l) :
  ∃l':List Value,(loadCells ⟨r,o+d,none⟩ n).run P w= .ok l'.toArray w∧AS ρ l l':=by
 obtain⟨h1,h2,h3⟩:=IW _ _ _ hl
 rw[Ha]at h2 h3
 have key:∀j,j<n→∃v v',l[j]?=some v∧arr[o+d+j]?=some v'∧VR ρ v v':=by
  intro j hj
  have aK:j<l.length:=by omega
  refine⟨l[j],?_⟩
  have hv:l[j]?=some l[j]:=List.getElem?_eq_getElem aK
  have e0:l[j]?=c[o+j]?:=by
   conv=>lhs;rw[h3]
   rw[List.getElem?_take,if_pos hj,List.getElem?_drop]
  have hcv:c[o+j]?=some l[j]:=e0▸hv
  obtain⟨v',ha,hr⟩:=hc _ _ hcv
  exact⟨v',hv,by rw[show o+d+j=d+(o+j) by omega];exact ha,hr⟩
 refine⟨(List.range n).map fun j=>arr.getD (o+d+j) undef,?_,?_⟩
 ·rw[run_loadCells w ⟨r,o+d,none⟩ n (fun j=>arr.getD (o+d+j) undef)]
  intro j hj
  obtain⟨v,v',_,ha,_⟩:=key j hj
  rw[Addr.add_lit,cell_of h,ha]
  simp[Array.getD_eq_getD_getElem?,ha]
 refine⟨by simp[h1],fun i v v' hv F1=>?_⟩
 have hi:i<n:=by have:=(List.getElem?_eq_some_iff.1 hv).1;omega
 obtain⟨x,x',hx,CS,hr⟩:=key i hi
 rw[hv]at hx;cases hx
 simp[List.getElem?_range hi,Array.getD_eq_getD_getElem?,CS]at F1
 subst F1
 exact hr
theorem AIO{ρ:AI}{w:World}{r d:Nat}{arr:Array Value}{e:TypeId}{fz:Nat×Nat}(h:w.heap[r]?=some (.cells arr e fz)){c:List Value}
  (hc:∀(i:Nat) v,c[i]?=some v→∃v',arr[d+i]?=some v'∧VR ρ v v'){t:TypeId}{o:Nat}{v:Value}(hl:Em P t c o=some v) :
  ∃v',(loadVar t ⟨r,o+d,none⟩).run P w= .ok v' w∧VR ρ v v':=by
 unfold Em at hl
 split at hl
 ·rename_i ha
  split at hl
  ·rename_i n hn
   split at hl
   ·rename_i l hl'
    cases hl
    obtain⟨l',h1,h2⟩:=lX (P:=P) h hc hl'
    exact⟨.agg l'.toArray,by simp[loadVar,cc w ha,FZ w hn,h1],VR.Y4 (l:=l) (l':=l') h2⟩
   cases hl
  cases hl
 ·rename_i ha
  rw[CE]at hl
  obtain⟨v',h1,h2⟩:=hc _ _ hl
  refine⟨v',?_,h2⟩
  have:w.cell? ⟨r,o+d,none⟩=some v':=by rw[cell_of h,Nat.add_comm];exact h1
  simp[loadVar,cc w ha,this]
 cases hl
variable{w0:Bi}
theorem lZ{ρ:AI}{S:St}{w:World}(hs:AW P w0 ρ S w){t:TypeId}{x x' v:Value}(h:De P t x S=some v)(hx:VR ρ x x') :
  ∃v',(Instr.loadAt t x').run P w= .ok v' w∧VR ρ v v':=by
 unfold De at h
 split at h
 ·rename_i b o
  split at h
  ·rename_i c e row own kin hB
   cases hx with
   |ptr hb =>
    rename_i L
    obtain⟨arr,e',fz,h1,h2,h3,h4,h5⟩:=hs.Bn b L _ hb hB
    obtain⟨v',a1,a2⟩:=AIO (P:=P) (ρ:=ρ) h1 h3 h
    exact⟨v',by simp[Instr.loadAt,Instr.sureAddr,a1],a2⟩
  cases h
 cases h
theorem ANE{w:World}{r o:Nat}{arr:Array Value}{e:TypeId}{fz:Nat×Nat}(h:w.heap[r]?=some (.cells arr e fz))(v:Value) :
  Kr r (.cells (arr.setIfInBounds o v) e fz) w (w.setCell ⟨r,o,none⟩ v):=by
 have hr:r<w.heap.size:=(Array.getElem?_eq_some_iff.1 h).1
 refine⟨fun k hk=>?_,?_,by simp,rfl,rfl⟩
 ·simp only[World.setCell,Array.getElem?_modify]
  rw[if_neg (fun e=>hk e.symm)]
 simp only[World.setCell,Array.getElem?_modify,if_true,h,Option.map_some]
 simp
theorem Kr.trans{r:Nat}{o o':Obj}{a b c:World}(h:Kr r o a b)(k:Kr r o' b c):Kr r o' a c :=
 ⟨fun j hj=>(k.same j hj).trans (h.same j hj),k.now,k.size.trans h.size,k.os.trans h.os,k.out.trans h.out⟩
theorem cd{r:Nat}{e:TypeId}{fz:Nat×Nat}:∀(vs:List Value) (w:World) (arr:Array Value) (o i:Nat),w.heap[r]?=some (.cells arr e fz) →
  o+i+vs.length≤arr.size→(∀j,j<arr.size→¬(fz.1≤j∧j<fz.2))→(∀v,v∈vs→v.oneCell'=true) →
  ∃(GY:Array Value) (w':World),(storeCells ⟨r,o,none⟩ vs i).run P w= .ok () w'∧Kr r (.cells GY e fz) w w'∧GY.size=arr.size ∧
   ∀j,GY[j]?=if o+i≤j∧j<o+i+vs.length then vs[j-(o+i)]? else arr[j]?
 | [],w,arr,o,i,h,_,_,_=>⟨arr,w,by simp[storeCells],⟨fun _ _=>rfl,h,rfl,rfl,rfl⟩,rfl,fun j=>by rw[if_neg (by simp only[List.length_nil];omega)]⟩
 |v::vs,w,arr,o,i,h,hl,hf,h1=>by
  simp only[List.length_cons]at hl
  have Wu:w.cell? (Addr.add ⟨r,o,none⟩ i)=some arr[o+i]:=by
   rw[Addr.add_lit,cell_of h];exact Array.getElem?_eq_getElem (by omega)
  have UP:w.frozen? (Addr.add ⟨r,o,none⟩ i)=false:=by
   rw[Addr.add_lit]
   have:=hf (o+i) (by omega)
   obtain⟨lo,hi⟩:=fz
   simp only[World.frozen?,h,Bool.and_eq_false_iff,decide_eq_false_iff_not]
   simp only at this
   omega
  have AHR:(store (Addr.add ⟨r,o,none⟩ i) v).run P w= .ok () (w.setCell ⟨r,o+i,none⟩ v):=by
   rw[run_store P w _ v .plain (h1 v (by simp)),Wu,UP,Addr.add_lit];rfl
  have hp:=ANE (o:=o+i) h v
  have ih:=cd vs (w.setCell ⟨r,o+i,none⟩ v) (arr.setIfInBounds (o+i) v) o (i+1) hp.now (by simp;omega) (fun j hj=>hf j (by simpa using hj)) (fun x hx=>h1 x (by simp[hx]))
  obtain⟨GY,w',a1,a2,a3,a4⟩:=ih
  refine⟨GY,w',?_,hp.trans a2,by simpa using a3,fun j=>?_⟩
  ·simp only[storeCells,Sem.run_bind,AHR,Result.andThen_ok,a1]
  rw[a4 j]
  simp only[List.length_cons]
  by_cases hj:j=o+i
  ·subst hj
   rw[if_neg (by omega),if_pos (by omega)]
   simp[Array.getElem?_setIfInBounds]
   omega
  by_cases hc:o+i≤j∧j<o+i+(vs.length+1)
  ·rw[if_pos (by omega),if_pos hc,show j-(o+i)=(j-(o+(i+1)))+1 by omega]
   simp
  rw[if_neg (by omega),if_neg hc,Array.getElem?_setIfInBounds,if_neg (by omega)]
theorem fL(v:Value):D9 v=v.oneCell':=by cases v<;>rfl
theorem eF{ρ:AI}{S S':St}{w:World}(hs:AW P w0 ρ S w){b o:Nat}{L:Loc}(hb:ρ b=some L){vs C2:List Value}(h:Jx S b o vs=some S')(hv:AS ρ vs C2) :
  ∃w',(storeCells ⟨L.r,o+L.d,none⟩ C2).run P w= .ok () w'∧AW P w0 ρ S' w':=by
 unfold Jx at h
 split at h
 ·rename_i c e row kin hB
  cases hg:(vs.all D9&&Nat.blt 0 vs.length)with
  |false=>rw[hg]at h;cases h
  |true =>
   rw[hg]at h
   simp only[cond_true]at h
   split at h
   ·rename_i c' Fj
    cases h
    rw[Bool.and_eq_true]at hg
    obtain⟨s1,s2,s3⟩:=VL _ _ _ _ Fj
    have XA:0<vs.length:=Gk hg.2
    have hle:=s2 (by intro e;rw[e]at XA;simp at XA)
    obtain⟨arr,e',fz,h1,h2,h3,h4,h5⟩:=hs.Bn b L _ hb hB
    have hd:L.d+c.length≤arr.size:=by
     by_cases JY:c.length=0
     ·omega
     obtain⟨v',F1,_⟩:=h3 (c.length-1) _ (List.getElem?_eq_getElem (by omega))
     have:=(Array.getElem?_eq_some_iff.1 F1).1
     omega
    have W8:∀v,v∈C2→v.oneCell'=true:=by
     intro v jY
     obtain⟨i,hi⟩:=List.getElem?_of_mem jY
     have Hh:i<vs.length:=by rw[hv.1];exact(List.getElem?_eq_some_iff.1 hi).1
     have jX:=List.getElem?_eq_getElem Hh
     have hr:=hv.2 i _ _ jX hi
     rw[hr.l8,←fL]
     exact List.all_eq_true.1 hg.1 _ (List.getElem_mem Hh)
    obtain⟨GY,w',a1,a2,a3,a4⟩:=cd (P:=P) C2 w arr (o+L.d) 0 h1 (by rw[←hv.1];omega) (fun j hj=>h4 rfl j (by omega)) W8
    refine⟨w',a1,?_⟩
    refine hs.put (B:= .cells c e row true kin) (B':= .cells c' e row true []) hb hB rfl a2 ⟨GY,e',fz,rfl,by omega,fun i v KJ=>?_,h4,h5.1,fun hr=>by rw[s1];exact h5.2.1 hr,h5.2.2⟩
    rw[s3]at KJ
    rw[a4]
    by_cases BH:o≤i∧i<o+vs.length
    ·rw[if_pos BH]at KJ
     rw[if_pos (by rw[←hv.1];omega)]
     obtain⟨v',x1,x2⟩:=hv.get KJ
     exact⟨v',by rw[show L.d+i-(o+L.d+0)=i-o by omega];exact x1,x2⟩
    rw[if_neg BH]at KJ
    rw[if_neg (by rw[←hv.1];omega)]
    exact h3 i v KJ
   cases h
 cases h
theorem AO6{ρ:AI}{S S':St}{w:World}(hs:AW P w0 ρ S w){t:TypeId}{a a' v v':Value}(h:Fs P t a v S=some S')(ha:VR ρ a a')(hv:VR ρ v v') :
  ∃w',(Instr.storeAt t a' v').run P w= .ok () w'∧AW P w0 ρ S' w':=by
 unfold Fs at h
 split at h
 ·rename_i b o
  split at h
  ·rename_i n hn
   cases hg:Nat.beq (BG v).length n with
   |false=>rw[hg]at h;cases h
   |true =>
    rw[hg]at h
    simp only[cond_true]at h
    cases ha with
    |ptr hb =>
     rename_i L
     obtain⟨w',a1,a2⟩:=eF hs hb h hv.cells
     refine⟨w',?_,a2⟩
     have hlen:v'.cells.size=n:=by
      have:=hv.cells.1
      rw[Bc hg,JM v']at this
      simpa using this.symm
     rw[JM v']at a1
     simp[Instr.storeAt,Instr.sureAddr,storeVar,FZ w hn,hlen,a1]
  cases h
 cases h
theorem ll{ρ:AI}{S:St}{w:World}(hs:AW P w0 ρ S w){c:List Value}{arr:Array Value}(hc:∀(i:Nat) v,c[i]?=some v→∃v',arr[i]?=some v'∧VR ρ v v')
  {e e':TypeId}{row:Bool}{kin:List Nat}{z:Nat}(hz:row=true→A5 P e=some z)(GL:row=false→z=0∧arr.size=c.length)(he:e≠0→e'=e) :
  Ext ρ (Bb ρ S.size ⟨w.heap.size,0,arr.size,z⟩) ∧
   AW P w0 (Bb ρ S.size ⟨w.heap.size,0,arr.size,z⟩) ⟨S.heap.set S.size (some (.cells c e row true kin)),S.size+1⟩ (w.alloc (.cells arr e')):=by
 have Jb:ρ S.size=none:=by
  cases hx:ρ S.size with
  |none=>rfl
  |some M=>exact absurd (hs.Dj _ _ hx).1 (Nat.lt_irrefl _)
 refine hs.add (L:=⟨w.heap.size,0,arr.size,z⟩) rfl ⟨arr,e',(0,0),rfl,rfl,fun i v hv=>?_,fun _ j _ hj=>by simp at hj,hz,fun hr=>⟨(GL hr).1,rfl,(GL hr).2⟩,fun _=>he⟩
 obtain⟨v',h1,h2⟩:=hc i v hv
 exact⟨v',by simpa using h1,h2.mono (Ot _ Jb)⟩
theorem Ju(ρ:AI)(b:Nat)(L:Loc):Bb ρ b L b=some L:=by simp[Bb]
theorem xr{ρ:AI}{S:St}{w:World}(hs:AW P w0 ρ S w){v v':Value}(hv:VR ρ v v')(e:TypeId) :
  ∃ρ' w',(newVar e v').run P w= .ok ⟨w.heap.size,0,none⟩ w'∧Ext ρ ρ'∧AW P w0 ρ' (PV S (BG v) e false).2 w' ∧
   VR ρ' (PV S (BG v) e false).1 (.pointer (some ⟨w.heap.size,0,none⟩)):=by
 have hc:=hv.cells
 rw[JM v']at hc
 obtain⟨h1,h2⟩:=ll (e:=e) (e':=e) (row:=false) (kin:=[]) (z:=0) (arr:=v'.cells) hs (c:=BG v)
  (fun i x hx=>by obtain⟨x',a,b⟩:=hc.get hx;exact⟨x',by rw[←Array.getElem?_toList];exact a,b⟩) (by simp) (fun _=>⟨rfl,by rw[hc.1];simp⟩) (fun _=>rfl)
 refine⟨_,_,rfl,h1,h2,?_⟩
 exact VR.ptr (L:=⟨w.heap.size,0,v'.cells.size,0⟩) (Ju _ _ _)
end Go.Cm
namespace Go.Cm
open Go
variable{P:Program}
theorem YL:∀a b:List UInt8,GQ a b=(a==b)
 | [],[]=>rfl
 | [],_::_=>rfl
 |_::_,[]=>rfl
 |x::a,y::b=>by
  simp only[GQ,List.cons_beq_cons]
  by_cases h:x=y
  ·subst h;simp[YL a b]
  have:Nat.beq x.toNat y.toNat=false:=MP (fun e=>h (UInt8.toNat_inj.1 e))
  simp[this,h]
theorem xA:∀a b:List UInt8,Ri a b=Op.bytesLess a b
 | [],[]=>rfl
 | [],_::_=>rfl
 |_::_,[]=>rfl
 |x::a,y::b=>by
  simp only[Ri,Op.bytesLess]
  by_cases h:x<y
  ·have:Nat.blt x.toNat y.toNat=true:=by rw[Nat.blt_eq];exact UInt8.lt_iff_toNat_lt.1 h
   simp[this,h]
  have h1:Nat.blt x.toNat y.toNat=false:=by
   cases hb:Nat.blt x.toNat y.toNat with
   |false=>rfl
   |true=>rw[Nat.blt_eq]at hb;exact absurd (UInt8.lt_iff_toNat_lt.2 hb) h
  by_cases e:x=y
  ·subst e;simp[h1,h,xA a b]
  have h2:Nat.beq x.toNat y.toNat=false:=MP (fun k=>e (UInt8.toNat_inj.1 k))
  simp[h1,h2,h,e]
theorem AHg{op:BinOp}{t:TypeId}{k:IntKind}{a b:Int}{v:Value}(h:Ui op k a b=some v)(w:World):(binOp op t (.int k a) (.int k b)).run P w= .ok v w∧Flat v:=by
 cases op<;>simp only[Ui]at h
 case quo=>split at h; · cases h
           ·rename_i hb;cases h;exact⟨by simp[binOp,Op.intDiv,hb],.int _ _⟩
 case rem=>split at h; · cases h
           ·rename_i hb;cases h;exact⟨by simp[binOp,Op.intDiv,hb],.int _ _⟩
 all_goals first
  |(cases h;done)
  |(cases h;exact⟨by simp[binOp,Op.intArith,Op.intBits,Op.intCmp],by first|exact .int _ _|exact .bool _⟩)
theorem z8{op:BinOp}{t:TypeId}{k k':IntKind}{a b:Int}{v:Value}(h:nz op k a b=some v)(ho:op= .shl∨op= .shr)(w:World) :
  (binOp op t (.int k a) (.int k' b)).run P w= .ok v w∧Flat v:=by
 unfold nz at h
 split at h
 ·cases h
 rename_i hb
 rcases ho with rfl|rfl<;>(simp only at h;cases h;exact⟨by simp[binOp,Op.shift,hb],.int _ _⟩)
theorem AEG(a b:ByteArray):(a++b)=⟨(a.data.toList++b.data.toList).toArray⟩:=by
 apply ByteArray.ext
 apply Array.ext'
 simp
theorem AO7{op:BinOp}{t:TypeId}{a b:ByteArray}{v:Value}(h:oO op a b=some v)(w:World):(binOp op t (.string a) (.string b)).run P w= .ok v w∧Flat v:=by
 cases op<;>simp only[oO]at h
 case add =>
  split at h
  ·cases h
  rename_i hb
  cases h
  refine⟨?_,.string _⟩
  have:¬(((a.size+b.size:Nat):Int)>IntKind.i64.max):=by rw[IntKind.max_i64];omega
  simp only[binOp,Op.stringOp,this,if_false]
  simp[AEG]
 all_goals first
  |(cases h;done)
  |(cases h;exact⟨by simp[binOp,Op.stringOp,YL,xA,ByteArray.toList_eq],.bool _⟩)
theorem fh{ρ:AI}{eq:TypeId→Value→Value→Option Bool}{D:Nat}
  (heq:∀t x y r x' y' (w:World),eq t x y=some r→VR ρ x x'→VR ρ y y'→(Op.equalIn D t x' y').run P w= .ok r w){xs ys:List Value}{Yo Yp:Array Value}
  (hx:AS ρ xs Yo.toList)(hy:AS ρ ys Yp.toList)(w:World):∀(fs:List Field) (r:Bool),eqFields P eq xs ys fs=some r→(Op.eqFields D Yo Yp fs).run P w= .ok r w
 | [],r,h=>by simp[eqFields]at h;subst h;simp[Op.eqFields]
 |f::fs,r,h=>by
  unfold eqFields at h
  split at h
  ·rename_i hn
   have:=fh heq hx hy w fs r h
   simp[Op.eqFields,hn,this]
  rename_i hn
  split at h
  ·rename_i x y jG jH
   obtain⟨x',a1,a2⟩:=PX jG hx w
   obtain⟨y',b1,b2⟩:=PX jH hy w
   split at h
   ·rename_i he
    have e1:=heq _ _ _ _ _ _ w he a2 b2
    have:=fh heq hx hy w fs r h
    simp[Op.eqFields,hn,a1,b1,e1,this]
   rename_i Ac
   cases r with
   |true=>exact absurd h Ac
   |false =>
    have e1:=heq _ _ _ _ _ _ w h a2 b2
    simp[Op.eqFields,hn,a1,b1,e1]
  cases h
theorem so{ρ:AI}{eq:TypeId→Value→Value→Option Bool}{D:Nat}{elem:TypeId}{size:Nat}
  (heq:∀t x y r x' y' (w:World),eq t x y=some r→VR ρ x x'→VR ρ y y'→(Op.equalIn D t x' y').run P w= .ok r w){xs ys:List Value}{Yo Yp:Array Value}
  (hx:AS ρ xs Yo.toList)(hy:AS ρ ys Yp.toList)(w:World):∀(n i:Nat) (r:Bool),WR P eq elem size xs ys n i=some r→(Op.eqItems D elem size Yo Yp (List.range' i n)).run P w= .ok r w
 |0,i,r,h=>by simp[WR]at h;subst h;simp[Op.eqItems]
 |n+1,i,r,h=>by
  unfold WR at h
  split at h
  ·rename_i x y jG jH
   obtain⟨x',a1,a2⟩:=PX jG hx w
   obtain⟨y',b1,b2⟩:=PX jH hy w
   split at h
   ·rename_i he
    have e1:=heq _ _ _ _ _ _ w he a2 b2
    have:=so heq hx hy w n (i+1) r h
    simp[List.range'_succ,Op.eqItems,a1,b1,e1,this]
   rename_i Ac
   cases r with
   |true=>exact absurd h Ac
   |false =>
    have e1:=heq _ _ _ _ _ _ w h a2 b2
    simp[List.range'_succ,Op.eqItems,a1,b1,e1]
  cases h
theorem tE{t:TypeId}{fs:Array Field}(h:P.underlying t=some (.struct fs)):P.fieldsOf t=fs:=by simp[Program.fieldsOf,h]
set_option maxHeartbeats 4000000 in
theorem Zk{ρ:AI}:∀(d D:Nat) (t:TypeId) (x y:Value) (r:Bool) (x' y':Value) (w:World),d≤D→Cl P d t x y=some r→VR ρ x x'→VR ρ y y' →
  (Op.equalIn D t x' y').run P w= .ok r w
 |0,_,_,_,_,_,_,_,_,_,h,_,_=>by simp[Cl]at h
 |d+1,D,t,x,y,r,x',y',w,hD,h,hx,hy=>by
  obtain⟨D,rfl⟩:∃k,D=k+1:=⟨D-1,by omega⟩
  have ih:∀t x y r x' y' (w:World),Cl P d t x y=some r→VR ρ x x'→VR ρ y y'→(Op.equalIn D t x' y').run P w= .ok r w :=
   fun t x y r x' y' w h hx hy=>Zk d D t x y r x' y' w (by omega) h hx hy
  unfold Cl at h
  split at h
  ·rename_i hu
   split at h
   ·cases h;cases hx;cases hy;simp[Op.equalIn,A3 w hu]
   cases h
  ·rename_i k0 hu
   split at h
   ·split at h
    ·rename_i hk;cases h;subst hk;cases hx;cases hy;simp[Op.equalIn,A3 w hu]
    cases h
   cases h
  ·rename_i hu
   split at h
   ·cases h;cases hx;cases hy;simp[Op.equalIn,A3 w hu,YL,beq_toListBytes,ByteArray.toList_eq]
   cases h
  ·rename_i e hu
   split at h
   ·cases h;cases hx;cases hy<;>simp[Op.equalIn,A3 w hu]
   ·rename_i Gg
    cases h
    cases hy
    cases hx with
    |MT=>first|exact(Gg _ rfl).elim|exact(Gg rfl).elim|exact Gg.elim|exact(Gg _ rfl rfl).elim|simp at Gg
    |ptr hb=>simp[Op.equalIn,A3 w hu]
   ·rename_i b o b' o'
    cases hc:(Nat.beq b b'&&Nat.beq o o'&&(P.info? e).isSome)with
    |false=>rw[hc]at h;cases h
    |true =>
     rw[hc]at h
     simp only[cond_true,Option.some.injEq]at h
     subst h
     simp only[Bool.and_eq_true]at hc
     obtain⟨⟨h1,h2⟩,h3⟩:=hc
     have h1:=Bc h1
     have h2:=Bc h2
     subst h1 h2
     obtain⟨j,hj⟩:=Option.isSome_iff_exists.1 h3
     cases hx with
     |ptr hb=>cases hy with
      |ptr Bj =>
       rw[hb]at Bj
       cases Bj
       simp[Op.equalIn,A3 w hu,sizeOf,MZ w hj,run_sameAddr_same]
   cases h
  ·rename_i ms hu
   split at h
   ·cases h;cases hx;cases hy;simp[Op.equalIn,A3 w hu]
   ·cases h;cases hx;cases hy;simp[Op.equalIn,A3 w hu]
   ·cases h;cases hx;cases hy;simp[Op.equalIn,A3 w hu]
   ·rename_i tx vx ty vy
    cases hx with
    |iface _ XK=>cases hy with
     |iface _ jZ =>
      split at h
      ·rename_i Ac;cases h;simp[Op.equalIn,A3 w hu,Ac]
      rename_i Ac
      have AGj:tx=ty:=by simpa using Ac
      subst AGj
      split at h
      ·rename_i i hi
       split at h
       ·rename_i AGM
        have:=ih _ _ _ _ _ _ w h XK jZ
        simp[Op.equalIn,A3 w hu,MZ w hi,AGM,this]
       cases h
      cases h
   cases h
  ·rename_i fields hu
   split at h
   ·split at h
    ·cases h
    rename_i BL
    obtain⟨xa,rfl,jd⟩:=hx.NG
    obtain⟨ya,rfl,jf⟩:=hy.NG
    rw[run_equalIn_struct w D t xa ya (by rw[tE hu];exact hu) (by simpa using BL),tE hu]
    exact fh ih jd jf w _ _ h
   cases h
  ·rename_i len elem hu
   split at h
   ·split at h
    ·rename_i n hn
     obtain⟨xa,rfl,jd⟩:=hx.NG
     obtain⟨ya,rfl,jf⟩:=hy.NG
     obtain⟨i,hi,A4⟩:=Ye hn
     rw[run_equalIn_array w D xa ya hu hi,List.range_eq_range']
     have hc:P.cellsOf elem=n:=by simp[Program.cellsOf,hi,A4]
     rw[hc]
     exact so ih jd jf w _ _ _ h
    cases h
   cases h
  ·rename_i e hu
   split at h
   ·cases h;cases hx;cases hy<;>simp[Op.equalIn,A3 w hu]
   ·rename_i Gg
    cases h
    cases hy
    cases hx with
    |JA=>first|exact(Gg _ _ rfl).elim|exact(Gg rfl).elim|exact Gg.elim|exact(Gg _ _ _ rfl rfl).elim|simp at Gg
    |slice=>simp[Op.equalIn,A3 w hu]
    |Lg=>simp[Op.equalIn,A3 w hu]
   cases h
  ·rename_i k e hu
   split at h
   ·cases h;cases hx;cases hy<;>simp[Op.equalIn,A3 w hu]
   ·rename_i Gg
    cases h
    cases hy
    cases hx with
    |N7=>first|exact(Gg _ rfl).elim|exact(Gg rfl).elim|exact Gg.elim|exact(Gg _ rfl rfl).elim|simp at Gg
    |map=>simp[Op.equalIn,A3 w hu]
   cases h
  ·rename_i ps rs vr hu
   split at h
   ·cases h;cases hx;cases hy;simp[Op.equalIn,A3 w hu]
   ·cases h;cases hx;cases hy<;>simp[Op.equalIn,A3 w hu]
   ·cases h;cases hy;cases hx<;>simp[Op.equalIn,A3 w hu]
   cases h
  cases h
end Go.Cm
namespace Go.Cm
open Go
variable{P:Program}
theorem fj{op:BinOp}{t:TypeId}{x y:Operand}{a b:Value}(h1:¬(a= .nilIface∧b= .nilIface))(h2:∀xs ys,¬(a= .agg xs∧b= .agg ys)):eqGuard op t x y a b=pure ():=by
 unfold eqGuard
 cases op<;>first
  |rfl
  |(cases a<;>first
   |rfl
   |(cases b<;>first
    |rfl
    |exact absurd ⟨rfl,rfl⟩ h1
    |exact absurd ⟨rfl,rfl⟩ (h2 _ _)))
theorem th{ρ:AI}{op:BinOp}{t:TypeId}{x y:Operand}{a b a' b':Value}(h:Ox P op t x y a b=true)(ha:VR ρ a a')(hb:VR ρ b b')(w:World) :
  (eqGuard op t x y a' b').run P w= .ok () w:=by
 by_cases c1:a'= .nilIface∧b'= .nilIface
 ·obtain⟨rfl,rfl⟩:=c1
  cases ha;cases hb
  unfold Ox at h
  cases op<;>first
   |rfl
   |(cases x<;>cases y<;>first|rfl|(simp at h))
 by_cases c2:∃xs ys,a'= .agg xs∧b'= .agg ys
 ·obtain⟨xs,ys,rfl,rfl⟩:=c2
  cases ha;cases hb
  have hm:P.eqGuardType P.depth t=false:=by simpa [Ox]using h
  exact run_eqGuard_agg w op t x y _ _ hm
 rw[fj c1 (fun xs ys e=>c2 ⟨xs,ys,e.1,e.2⟩)];rfl
theorem ADM{t:TypeId}{x y:Value}(h:∀k a k' b,¬(x= .int k a∧y= .int k' b))(hs:∀a b,¬(x= .string a∧y= .string b))(hf:∀k a,x≠ .float k a)
  (hc:∀k a b,x≠ .complex k a b):binOp .eql t x y=(do pure (.bool (←Op.equal t x y))):=by
 cases x<;>first
  |rfl
  |(exact absurd rfl (hf _ _))
  |(exact absurd rfl (hc _ _ _))
  |(cases y<;>first|rfl|(exact absurd ⟨rfl,rfl⟩ (h _ _ _ _))|(exact absurd ⟨rfl,rfl⟩ (hs _ _)))
theorem ADN{t:TypeId}{x y:Value}(h:∀k a k' b,¬(x= .int k a∧y= .int k' b))(hs:∀a b,¬(x= .string a∧y= .string b))(hf:∀k a,x≠ .float k a)
  (hc:∀k a b,x≠ .complex k a b):binOp .neq t x y=(do pure (.bool (!(←Op.equal t x y)))):=by
 cases x<;>first
  |rfl
  |(exact absurd rfl (hf _ _))
  |(exact absurd rfl (hc _ _ _))
  |(cases y<;>first|rfl|(exact absurd ⟨rfl,rfl⟩ (h _ _ _ _))|(exact absurd ⟨rfl,rfl⟩ (hs _ _)))
theorem VR.az{ρ:AI}{v:Value}{k:IntKind}{n:Int}(h:VR ρ v (.int k n)):v= .int k n:=by cases h;rfl
theorem VR.dm{ρ:AI}{v:Value}{s:ByteArray}(h:VR ρ v (.string s)):v= .string s:=by cases h;rfl
theorem VR.AFj{ρ:AI}{v:Value}{k:FloatKind}{n:Nat}(h:VR ρ v (.float k n)):v= .float k n:=by cases h;rfl
theorem VR.AEw{ρ:AI}{v:Value}{k:FloatKind}{m n:Nat}(h:VR ρ v (.complex k m n)):v= .complex k m n:=by cases h;rfl
theorem ADO{ρ:AI}{op:BinOp}{t:TypeId}{xo yo:Operand}{x y v x' y':Value}(h:Fy P op t xo yo x y=some v)(hx:VR ρ x x')(hy:VR ρ y y')(w:World) :
  (do eqGuard op t xo yo x' y';binOp op t x' y':Sem Value).run P w= .ok v w∧Flat v:=by
 unfold Fy at h
 split at h
 ·rename_i k a k' b
  cases hx;cases hy
  rw[fj (by simp) (by simp)]
  simp only[Sem.run_bind,Sem.run_pure,Result.andThen_ok]
  split at h
  ·exact z8 h (.inl rfl) w
  ·exact z8 h (.inr rfl) w
  split at h
  ·rename_i hk;subst hk;exact AHg h w
  cases h
 ·rename_i a b
  cases hx;cases hy
  rw[fj (by simp) (by simp)]
  simp only[Sem.run_bind,Sem.run_pure,Result.andThen_ok]
  exact AO7 h w
 ·cases h
 ·cases h
 rename_i h1 h2 h3 h4
 have n1:∀k a k' b,¬(x'= .int k a∧y'= .int k' b):=by
  rintro k a k' b ⟨rfl,rfl⟩
  have e1:=hx.az;have e2:=hy.az;subst e1;subst e2;clear h hx hy
  simp_all
  exact h3 _ _ _ _ rfl rfl rfl rfl
 have n2:∀a b,¬(x'= .string a∧y'= .string b):=by
  rintro a b ⟨rfl,rfl⟩
  have e1:=hx.dm;have e2:=hy.dm;subst e1;subst e2;clear h hx hy;simp_all
 have n3:∀k a,x'≠ .float k a:=by
  rintro k a rfl
  have e1:=hx.AFj;subst e1;clear h hx hy;simp_all
 have n4:∀k a b,x'≠ .complex k a b:=by
  rintro k a b rfl
  have e1:=hx.AEw;subst e1;clear h hx hy;simp_all
 split at h
 ·split at h
  ·rename_i hg
   split at h
   ·rename_i r he
    cases h
    have:=Zk E' 10000 t x y r x' y' w (by decide) he hx hy
    refine⟨?_,.bool _⟩
    simp only[Sem.run_bind,th hg hx hy w,Result.andThen_ok,ADM n1 n2 n3 n4,Op.equal,Op.maxDepth,this,Sem.run_pure]
   cases h
  cases h
 ·split at h
  ·rename_i hg
   split at h
   ·rename_i r he
    cases h
    have:=Zk E' 10000 t x y r x' y' w (by decide) he hx hy
    refine⟨?_,.bool _⟩
    simp only[Sem.run_bind,th hg hx hy w,Result.andThen_ok,ADN n1 n2 n3 n4,Op.equal,Op.maxDepth,this,Sem.run_pure]
   cases h
  cases h
 cases h
theorem ASM{ρ:AI}{op:UnOp}{x v x':Value}(h:dv op x=some v)(hx:VR ρ x x')(w:World):(Op.unary op x').run P w= .ok v w∧Flat v:=by
 unfold dv at h
 split at h
 ·cases h;cases hx;exact⟨by simp[Op.unary,Op.intArith],.int _ _⟩
 ·rename_i k n
  cases hx
  simp only[Ui]at h
  cases h
  exact⟨by simp[Op.unary,Op.intBits],.int _ _⟩
 ·cases h;cases hx;exact⟨by simp[Op.unary],.bool _⟩
 cases h
def J1(ρ:AI)(l l':List (Nat×Value)):Prop:=l.map (·.1)=l'.map (·.1)∧AS ρ (l.map (·.2)) (l'.map (·.2))
theorem J1.cons_inv{ρ:AI}{i:Nat}{v:Value}{l k:List (Nat×Value)}(h:J1 ρ ((i,v)::l) k):∃v' l',k=(i,v')::l'∧VR ρ v v'∧J1 ρ l l':=by
 cases k with
 |nil=>simp[J1]at h
 |cons x l' =>
  obtain⟨j,v'⟩:=x
  obtain⟨h1,h2⟩:=h
  simp only[List.map_cons,List.cons.injEq]at h1 h2
  obtain⟨rfl,h1⟩:=h1
  exact⟨v',l',rfl,h2.head,h1,h2.tail⟩
theorem J1.HR{ρ:AI}{k:List (Nat×Value)}(h:J1 ρ [] k):k= []:=by
 cases k with
 |nil=>rfl
 |cons x l'=>simp[J1]at h
theorem tV:∀(l:List Value) (off k:Nat) (cs:Array Value),off+k+l.length≤cs.size →
  ((l.zipIdx k).foldl (fun cs (x:Value×Nat)=>cs.setIfInBounds (off+x.2) x.1) cs).size=cs.size ∧
  ∀j:Nat,((l.zipIdx k).foldl (fun cs (x:Value×Nat)=>cs.setIfInBounds (off+x.2) x.1) cs)[j]?=if off+k≤j∧j<off+k+l.length then l[j-(off+k)]? else cs[j]?
 | [],off,k,cs,_=>⟨rfl,fun j=>by simp;omega⟩
 |v::l,off,k,cs,h=>by
  simp only[List.length_cons]at h
  obtain⟨h1,h2⟩:=tV l off (k+1) (cs.setIfInBounds (off+k) v) (by simp;omega)
  simp only[List.zipIdx_cons,List.foldl_cons]
  refine⟨by rw[h1];simp,fun j=>?_⟩
  rw[h2 j]
  by_cases hj:j=off+k
  ·subst hj
   rw[if_neg (by omega),if_pos (by simp only[List.length_cons];omega)]
   simp[Array.getElem?_setIfInBounds]
   omega
  by_cases hc:off+k≤j∧j<off+k+(l.length+1)
  ·rw[if_pos (by omega),if_pos (by simp only[List.length_cons];omega),show j-(off+k)=(j-(off+(k+1)))+1 by omega]
   simp
  rw[if_neg (by omega),if_neg (by simp only[List.length_cons];omega),Array.getElem?_setIfInBounds,if_neg (by omega)]
theorem Wb{ρ:AI}{place place':Nat→Option (Nat×Nat)}(hp:∀i,place i=place' i):∀(parts OA:List (Nat×Value)) (c c1:List Value) (c':Array Value),KC place c parts=some c1 →
  AS ρ c c'.toList→J1 ρ parts OA→∃J4,Instr.fill place' c' OA=some J4∧AS ρ c1 J4.toList
 | [],OA,c,c1,c',h,hc,hr=>by
  cases hr.HR
  simp[KC]at h;subst h
  exact⟨c',rfl,hc⟩
 |(i,v)::rest,OA,c,c1,c',h,hc,hr=>by
  obtain⟨v',YE,rfl,hv,Hl⟩:=hr.cons_inv
  unfold KC at h
  split at h
  ·cases h
  rename_i off size Dp
  cases hg:(Nat.beq (BG v).length size&&Nat.ble (off+size) c.length)with
  |false=>rw[hg]at h;cases h
  |true =>
   rw[hg]at h
   simp only[cond_true]at h
   rw[Bool.and_eq_true]at hg
   have hlen:=Bc hg.1
   have hle:off+size≤c.length:=Nat.le_of_ble_eq_true hg.2
   split at h
   ·rename_i c2 MG
    obtain⟨s1,s2,s3⟩:=VL _ _ _ _ MG
    have jW:=hv.cells
    have A4:v'.cells.size=size:=by rw[←hlen,jW.1,JM];simp
    have Hf:c'.size=c.length:=by rw[hc.1];simp
    obtain⟨f1,f2⟩:=tV v'.cells.toList off 0 c' (by simp;omega)
    have jR:v'.cells.zipIdx.foldl (fun cs (x:Value×Nat)=>cs.setIfInBounds (off+x.2) x.1) c'=(v'.cells.toList.zipIdx 0).foldl (fun cs (x:Value×Nat)=>cs.setIfInBounds (off+x.2) x.1) c':=by
     rw[←Array.foldl_toList]
     simp
    have AGJ:AS ρ c2 ((v'.cells.toList.zipIdx 0).foldl (fun cs (x:Value×Nat)=>cs.setIfInBounds (off+x.2) x.1) c').toList:=by
     refine⟨by rw[s1,Array.length_toList];exact(f1.trans Hf).symm,fun j x x' hx CS=>?_⟩
     rw[s3]at hx
     rw[Array.getElem?_toList,f2]at CS
     rw[JM v']at jW
     by_cases BH:off≤j∧j<off+(BG v).length
     ·rw[if_pos BH]at hx
      rw[if_pos (by simp;omega)]at CS
      exact jW.2 _ _ _ hx (by simpa using CS)
     rw[if_neg BH]at hx
     rw[if_neg (by simp;omega)]at CS
     exact hc.2 _ _ _ hx (by rw[Array.getElem?_toList];exact CS)
    obtain⟨J4,a1,a2⟩:=Wb hp rest YE c2 c1 _ h AGJ Hl
    refine⟨J4,?_,a2⟩
    have MF:(v'.cells.size !=size||decide (off+v'.cells.size>c'.size))=false:=by
     simp only[Bool.or_eq_false_iff,decide_eq_false_iff_not,A4,Hf]
     exact⟨by simp,by omega⟩
    simp only[Instr.fill,←hp i,Dp]
    rw[if_neg (by simp;omega),jR]
    exact a1
   cases h
theorem ABU{ρ:AI}{t:TypeId}{c:List Value}(h:zeroOf P t=some c):∃i z,P.info? t=some i∧i.zero=some z∧AS ρ c z.cells.toList∧zeroV P t=some z:=by
 obtain⟨z,hz,rfl,hf⟩:=p0 h
 obtain⟨i,hi,LJ,_⟩:=QR hz
 have:=(hf.refl ρ).cells
 exact⟨i,z,hi,LJ,by rw[←JM];exact this,hz⟩
theorem AEF{ρ:AI}{t:TypeId}{parts:List (Nat×Value)}{OA:Array (Nat×Value)}{v:Value}(h:WD P t parts=some v)(hp:J1 ρ parts OA.toList)(w:World) :
  ∃v',(Instr.build t OA).run P w= .ok v' w∧VR ρ v v':=by
 unfold WD at h
 split at h
 ·rename_i z fields hz hu
  split at h
  ·rename_i places Dp
   split at h
   ·rename_i c hc
    cases h
    obtain⟨i,zz,hi,LJ,PF,_⟩:=ABU (ρ:=ρ) hz
    obtain⟨J4,a1,a2⟩:=Wb (place':=(places.toArray[·]?)) (fun i=>by rw[CE];simp) _ _ _ _ _ hc PF hp
    exact⟨.agg J4,run_build w t OA J4 (by simp only[Program.built,hi,hu,LJ,Dp];exact a1),VR.Y4 (l:=c) (l':=J4.toList) a2⟩
   cases h
  cases h
 ·rename_i z n elem hz hu
  split at h
  ·rename_i size A4
   split at h
   ·rename_i c hc
    cases h
    obtain⟨i,zz,hi,LJ,PF,_⟩:=ABU (ρ:=ρ) hz
    obtain⟨ie,uZ,rfl⟩:=Ye A4
    obtain⟨J4,a1,a2⟩:=Wb (place':=fun i=>some (i*ie.size,ie.size)) (fun i=>rfl) _ _ _ _ _ hc PF hp
    exact⟨.agg J4,run_build w t OA J4 (by simp only[Program.built,hi,hu,LJ,uZ];exact a1),VR.Y4 (l:=c) (l':=J4.toList) a2⟩
   cases h
  cases h
 cases h
end Go.Cm
namespace Go.Cm
open Go
variable{P:Program}{w0:Bi}
theorem n5{x:Value}{Om hi n:Nat}(h:Jt (some x) Om hi=some n){E5:Nat}(hle:hi≤E5):(∀(code:BoundsCode) (w:World),(Instr.sliceBound x E5 code).run P w= .ok n w)∧n≤hi:=by
 cases x<;>simp only[Jt]at h<;>try (cases h;done)
 rename_i k i
 split at h
 ·rename_i hb
  cases h
  refine⟨fun code w=>?_,by omega⟩
  have:0≤i∧i≤(E5:Int):=⟨hb.1,by omega⟩
  simp[Instr.sliceBound,asIntOf,this]
 cases h
theorem n0{x:Value}{Om hi n:Nat}(h:Jt (some x) Om hi=some n):∃k i,x= .int k i:=by
 cases x<;>simp only[Jt]at h<;>try (cases h;done)
 rename_i k i
 exact⟨k,i,rfl⟩
theorem cy{Om hi n:Nat}(h:Jt none Om hi=some n):Om=n:=by simpa [Jt]using h
def Kk(ρ:AI):Option Value→Option Value→Prop
 |none,none=>True
 |some v,some v'=>VR ρ v v'
 |_,_=>False
theorem Kk.map{ρ:AI}{f g:Operand→Value}{x:Option Operand}(h:∀o,x=some o→VR ρ (f o) (g o)):Kk ρ (x.map f) (x.map g):=by
 cases x with
 |none=>trivial
 |some o=>exact h o rfl
theorem WC{ρ:AI}{len cap l h m:Nat}{lo hi mx I4 E5 mx':Option Value}(hb:H0 len cap lo hi mx=some (l,h,m))(HI:Kk ρ lo I4)(Ni:Kk ρ hi E5)(Hk:Kk ρ mx mx')
  {BM:Nat}(hc:cap≤BM)(hlc:len≤cap)(isS:Bool)(w:World) :
  ∃m',(Instr.sliceBounds isS len BM I4 E5 mx').run P w= .ok (l,h,m') w∧l≤h∧h≤m∧m≤m'∧m'≤BM∧(mx=none→m'=BM∧m=cap)∧(mx≠none→m'=m):=by
 unfold H0 at hb
 split at hb
 case h_2=>cases hb
 rename_i m0 HJ
 split at hb
 ·cases hb
 rename_i iz
 split at hb
 case h_2=>cases hb
 rename_i h0 il
 split at hb
 case h_2=>cases hb
 rename_i l0 GJ
 cases hb
 have AGe:∃e:I4=none∨∃v,I4=some v,l≤h∧(∀v,I4=some v→∀(code:BoundsCode) (w:World),(Instr.sliceBound v h code).run P w= .ok l w)∧(I4=none→l=0):=by
  cases lo with
  |none=>cases I4 with
   |some _=>exact HI.elim
   |none=>have:=cy GJ;subst this;exact⟨.inl rfl,Nat.zero_le _,(fun v e=>by cases e),fun _=>rfl⟩
  |some v=>cases I4 with
   |none=>exact HI.elim
   |some v' =>
    obtain⟨k,i,rfl⟩:=n0 GJ
    cases HI
    obtain⟨a,b⟩:=n5 (P:=P) GJ (Nat.le_refl _)
    exact⟨.inr ⟨_,rfl⟩,b,(fun v e=>by cases e;exact a),fun e=>by cases e⟩
 obtain⟨_,l1,l2,l3⟩:=AGe
 have uY:∀m1,m≤m1→h≤m∧(∀v,E5=some v→∀(code:BoundsCode) (w:World),(Instr.sliceBound v m1 code).run P w= .ok h w)∧(E5=none→h=len∧mx'=none):=by
  intro m1 hm1
  cases hi with
  |none=>cases E5 with
   |some _=>exact Ni.elim
   |none =>
    have:=cy il;subst this
    have AGi:mx=none:=by cases mx with|none=>rfl|some v=>exact(iz v rfl rfl).elim
    subst AGi
    have:=cy HJ
    exact⟨by omega,(fun v e=>by cases e),fun _=>⟨rfl,by cases mx' with|none=>rfl|some _=>exact Hk.elim⟩⟩
  |some v=>cases E5 with
   |none=>exact Ni.elim
   |some v' =>
    obtain⟨k,i,rfl⟩:=n0 il
    cases Ni
    obtain⟨a,b⟩:=n5 (P:=P) il hm1
    exact⟨b,(fun v e=>by cases e;exact a),fun e=>by cases e⟩
 cases mx with
 |none=>cases mx' with
  |some _=>exact Hk.elim
  |none =>
   have hm:=cy HJ
   obtain⟨b1,b2,b3⟩:=uY BM (by omega)
   refine⟨BM,?_,l1,b1,by omega,Nat.le_refl _,fun _=>⟨rfl,hm.symm⟩,fun e=>absurd rfl e⟩
   cases E5 with
   |none =>
    obtain⟨rfl,_⟩:=b3 rfl
    cases I4 with
    |none=>have:=l3 rfl;subst this;simp[Instr.sliceBounds]
    |some v=>simp[Instr.sliceBounds,l2 v rfl]
   |some u =>
    cases I4 with
    |none=>have:=l3 rfl;subst this;simp[Instr.sliceBounds,b2 u rfl]
    |some v=>simp[Instr.sliceBounds,b2 u rfl,l2 v rfl]
 |some x=>cases mx' with
  |none=>exact Hk.elim
  |some x' =>
   obtain⟨k,i,rfl⟩:=n0 HJ
   cases Hk
   obtain⟨a,b⟩:=n5 (P:=P) HJ hc
   obtain⟨b1,b2,b3⟩:=uY m (Nat.le_refl _)
   refine⟨m,?_,l1,b1,Nat.le_refl _,by omega,fun e=>(by cases e),fun _=>rfl⟩
   cases E5 with
   |none=>have:=(b3 rfl).2;cases this
   |some u =>
    cases I4 with
    |none=>have:=l3 rfl;subst this;simp[Instr.sliceBounds,a,b2 u rfl]
    |some v=>simp[Instr.sliceBounds,a,b2 u rfl,l2 v rfl]
theorem ANP{ρ:AI}{S:St}{w:World}(hs:AW P w0 ρ S w){t:TypeId}{x x' v:Value}{lo hi mx I4 E5 mx':Option Value}(h:Fq P t x lo hi mx S=some v)(hx:VR ρ x x')
  (HI:Kk ρ lo I4)(Ni:Kk ρ hi E5)(Hk:Kk ρ mx mx'):∃v',(Instr.sliceAt t x' I4 E5 mx').run P w= .ok v' w∧VR ρ v v':=by
 unfold Fq at h
 split at h
 ·rename_i hu
  split at h
  ·rename_i s
   cases hx
   split at h
   ·cases h
   split at h
   ·rename_i l hh m hb
    cases h
    have AGh:mx'=none:=by cases mx' with|none=>rfl|some _=>exact Hk.elim
    subst AGh
    obtain⟨m',a1,a2,a3,a4,_⟩:=WC (P:=P) hb HI Ni (mx':=none) trivial (Nat.le_refl _) (Nat.le_refl _) false w
    refine⟨_,?_,.string _⟩
    have A4:s.size=s.data.toList.length:=(Array.length_toList (xs:=s.data)).symm
    have hex:s.extract l hh=⟨((s.data.toList.drop l).take (hh-l)).toArray⟩:=by
     apply ByteArray.ext
     rw[ByteArray.data_extract]
     apply Array.ext'
     rw[Array.toList_extract]
    rw[←A4]at a1
    simp[Instr.sliceAt,Instr.slice,A3 w hu,a1,hex]
   cases h
  cases h
 ·rename_i elem hu
  split at h
  ·rename_i a len cap
   split at h
   ·rename_i z l hh m hz hb
    cases hx with
    |JA =>
     cases h
     obtain⟨m',a1,a2,a3,a4,a5,a6,a7⟩:=WC (P:=P) hb HI Ni Hk (Nat.le_refl _) (Nat.le_refl _) true w
     obtain rfl:m'=0:=by omega
     obtain rfl:m=0:=by omega
     obtain rfl:hh=0:=by omega
     obtain rfl:l=0:=by omega
     exact⟨_,by simp[Instr.sliceAt,Instr.slice,A3 w hu,FZ w hz,a1],.JA⟩
    |slice Bj hn hc hr ho =>
     rename_i b o o' c' L
     cases hg:I8 P S b z with
     |false=>simp[hg]at h
     |true =>
      simp only[hg,cond_true]at h
      obtain⟨m',a1,a2,a3,a4,a5,a6,a7⟩:=WC (P:=P) hb HI Ni Hk hc hn true w
      cases hex:(mx.isSome&&Nat.beq m l)with
      |true =>
      rw[hex]at h
      simp only[cond_true,Option.some.injEq]at h
      subst h
      rw[Bool.and_eq_true]at hex
      have LB:=Bc hex.2
      have uv:=a7 (fun e=>by rw[e]at hex;cases hex.1)
      refine⟨.slice (some (if m'=l then⟨L.r,o',none⟩else Addr.add ⟨L.r,o',none⟩ (l*z))) (hh-l) (m'-l),by simp[Instr.sliceAt,Instr.slice,A3 w hu,FZ w hz,a1];split<;>rfl,?_⟩
      have e1:hh-l=0:=by omega
      have e2:m'-l=0:=by omega
      rw[e1,e2]
      exact .Lg _ _ _ _
      |false =>
      rw[hex]at h
      simp only[cond_false,Option.some.injEq]at h
      subst h
      refine⟨.slice (some (if m'=l then⟨L.r,o',none⟩else Addr.add ⟨L.r,o',none⟩ (l*z))) (hh-l) (m'-l),by simp[Instr.sliceAt,Instr.slice,A3 w hu,FZ w hz,a1];split<;>rfl,?_⟩
      have RT:L.z≠0→L.z=z:=by
       intro Ac
       unfold I8 at hg
       split at hg
       ·rename_i c e own kin hB
        split at hg
        ·rename_i n W6
         obtain⟨arr,e',fz,h1,h2,h3,h4,h5,h6⟩:=hs.Bn _ _ _ Bj hB
         have:=h5 rfl
         rw[W6]at this
         rw[←Bc hg]
         exact(Option.some.inj this).symm
        cases hg
       ·rename_i c e own kin hB
        obtain⟨arr,e',fz,h1,h2,h3,h4,h5,h6⟩:=hs.Bn _ _ _ Bj hB
        exact absurd ((h6.1 rfl).1) Ac
       cases hg
      by_cases LB:m'=l
      ·rw[if_pos LB]
       have e0:m'-l=0:=by omega
       rw[e0]
       refine VR.slice Bj (by omega) (by omega) (fun Ac=>?_) (.inr rfl)
       have:=hr Ac;simp;exact Nat.le_trans (Nat.le_add_right _ _) this
      rw[if_neg LB,Addr.add_lit]
      refine VR.slice Bj (by omega) (by omega) (fun Ac=>?_) ?_
      ·have h1:=hr Ac
       rw[RT Ac]at h1 ⊢
       have:l*z+(m'-l)*z=m'*z:=by rw[←Nat.add_mul];congr 1;omega
       have:m'*z≤c'*z:=Nat.mul_le_mul_right _ a5
       omega
      rcases ho with ho|ho
      ·left;omega
      omega
    |Lg b o k a =>
     simp only[IN,Bool.and_self,cond_true,Option.some.injEq]at h
     subst h
     obtain⟨m',a1,a2,a3,a4,a5,a6,a7⟩:=WC (P:=P) hb HI Ni Hk (Nat.le_refl _) (Nat.le_refl _) true w
     obtain rfl:m'=0:=by omega
     obtain rfl:m=0:=by omega
     obtain rfl:hh=0:=by omega
     obtain rfl:l=0:=by omega
     exact⟨.slice (some a) 0 0,by simp[Instr.sliceAt,Instr.slice,A3 w hu,FZ w hz,a1],.Lg _ _ _ _⟩
   cases h
  cases h
 ·rename_i n elem hu
  split at h
  ·rename_i b o
   split at h
   ·rename_i z l hh m hz hb
    cases hx with
    |ptr Bj =>
     rename_i L
     cases hg:Ru S b with
     |false=>rw[hg]at h;cases h
     |true =>
      simp only[hg,cond_true,Option.some.injEq]at h
      subst h
      obtain⟨m',a1,a2,a3,a4,a5,a6,a7⟩:=WC (P:=P) hb HI Ni Hk (Nat.le_refl _) (Nat.le_refl _) false w
      have hm:m'=m:=by
       cases mx with
       |none=>have:=a6 rfl;omega
       |some _=>exact a7 (by simp)
      subst hm
      have GL:L.z=0:=by
       unfold Ru at hg
       split at hg
       ·rename_i c e own kin hB
        obtain⟨arr,e',fz,h1,h2,h3,h4,h5,h6⟩:=hs.Bn _ _ _ Bj hB
        exact(h6.1 rfl).1
       cases hg
      refine⟨.slice (some (if m'=l then⟨L.r,o+L.d,none⟩else Addr.add ⟨L.r,o+L.d,none⟩ (l*z))) (hh-l) (m'-l),by simp[Instr.sliceAt,Instr.sureAddr,A3 w hu,FZ w hz,a1],?_⟩
      by_cases LB:m'=l
      ·rw[if_pos LB,show m'-l=0 by omega]
       exact VR.slice Bj (by omega) (by omega) (fun Ac=>absurd GL Ac) (.inr rfl)
      rw[if_neg LB,Addr.add_lit]
      exact VR.slice Bj (by omega) (by omega) (fun Ac=>absurd GL Ac) (.inl (by omega))
   cases h
  cases h
 cases h
theorem AFV{ρ:AI}{s:TypeId}{x x' v:Value}{i:Nat}(h:H4 P s x i=some v)(hx:VR ρ x x')(w:World):∃v',(Instr.fieldAt s x' i).run P w= .ok v' w∧VR ρ v v':=by
 unfold H4 at h
 split at h
 ·rename_i fields b o hu
  split at h
  ·rename_i f hf
   split at h
   ·rename_i n hn
    cases h
    cases hx with
    |ptr hb =>
     rename_i L
     rw[CE]at hf
     have ib:fields[i]?=some f:=by rw[←Array.getElem?_toList];exact hf
     refine⟨.pointer (some ⟨L.r,o+f.offset+L.d,none⟩),?_,.ptr hb⟩
     simp[Instr.fieldAt,A3 w hu,ib,Instr.sureAddr,fieldPlace,FZ w hn,Addr.add_lit]
     omega
   cases h
  cases h
 cases h
theorem AFX{ρ:AI}{s:TypeId}{x x' v:Value}{i:Nat}(h:Zr P s x i=some v)(hx:VR ρ x x')(w:World):∃v',(Instr.field s x' i).run P w= .ok v' w∧VR ρ v v':=by
 unfold Zr at h
 split at h
 ·rename_i fields cs hu
  split at h
  ·rename_i f hf
   obtain⟨ca,rfl,hc⟩:=hx.NG
   rw[CE]at hf
   have ib:fields[i]?=some f:=by rw[←Array.getElem?_toList];exact hf
   obtain⟨v',a,b⟩:=PX h hc w
   exact⟨v',by simp[Instr.field,A3 w hu,ib,asAgg,a],b⟩
  cases h
 cases h
theorem AHb{ρ:AI}{t:TypeId}{x x' ix I2 v:Value}(h:G5 P t x ix=some v)(hx:VR ρ x x')(hi:VR ρ ix I2)(w:World):∃v',(Instr.indexAt t x' I2).run P w= .ok v' w∧VR ρ v v':=by
 unfold G5 at h
 split at h
 ·rename_i k i
  cases hi
  split at h
  ·rename_i len elem b o hu
   split at h
   ·rename_i hb
    split at h
    ·rename_i n hn
     cases h
     cases hx with
     |ptr hp =>
      rename_i L
      refine⟨.pointer (some ⟨L.r,o+i.toNat*n+L.d,none⟩),?_,.ptr hp⟩
      simp[Instr.indexAt,asIntOf,A3 w hu,Instr.sureAddr,hb,FZ w hn,Addr.add_lit]
      omega
    cases h
   cases h
  ·rename_i elem b o len cap hu
   split at h
   ·rename_i hb
    split at h
    ·rename_i n hn
     cases h
     cases hx with
     |slice hp O8 hc hr ho =>
      rename_i o' c' L
      refine⟨.pointer (some ⟨L.r,o+i.toNat*n+L.d,none⟩),?_,.ptr hp⟩
      have IC:o'=o+L.d:=by
       rcases ho with ho|ho
       ·exact ho
       omega
      subst IC
      simp[Instr.indexAt,asIntOf,A3 w hu,hb,FZ w hn,Addr.add_lit]
      omega
    cases h
   cases h
  cases h
 cases h
theorem AHe{ρ:AI}{t:TypeId}{x x' ix I2 v:Value}(h:Nt P t x ix=some v)(hx:VR ρ x x')(hi:VR ρ ix I2)(w:World):∃v',(Instr.index t x' I2).run P w= .ok v' w∧VR ρ v v':=by
 unfold Nt at h
 split at h
 ·rename_i k i
  cases hi
  split at h
  ·rename_i len elem cs hu
   split at h
   ·rename_i hb
    split at h
    ·rename_i n hn
     obtain⟨ca,rfl,hc⟩:=hx.NG
     obtain⟨v',a,b⟩:=PX h hc w
     exact⟨v',by simp[Instr.index,asIntOf,A3 w hu,hb,FZ w hn,a],b⟩
    cases h
   cases h
  ·rename_i s hu
   split at h
   ·rename_i hb
    split at h
    ·rename_i y hy
     cases h
     cases hx
     rw[CE]at hy
     have MK:s[i.toNat]?=some y:=by
      have AN:i.toNat<s.size:=by
       have:=(List.getElem?_eq_some_iff.1 hy).1
       rw[Array.length_toList]at this
       exact this
      rw[getElem?_pos s i.toNat AN]
      congr 1
      have:=(List.getElem?_eq_some_iff.1 hy).2
      rw[←this]
      rfl
     exact⟨_,by simp[Instr.index,asIntOf,A3 w hu,hb,MK],.int _ _⟩
    cases h
   cases h
  cases h
 cases h
theorem ASK{ρ:AI}{x x' v:Value}{xT t:TypeId}{ok:Bool}(h:oY P x t ok=some v)(hx:VR ρ x x')(w:World):∃v',(Instr.typeAssert x' xT t ok).run P w= .ok v' w∧VR ρ v v':=by
 unfold oY at h
 split at h
 ·cases h
 ·rename_i d Nm hu
  cases hx
  split at h
  ·rename_i BI
   subst BI
   split at h
   ·rename_i z hz
    cases h
    obtain⟨_,_,_,hf⟩:=QR hz
    refine⟨_,?_,VR.tuple' (AS.cons (hf.refl ρ) (AS.cons (.bool false) .nil))⟩
    cases d<;>first
     |exact absurd rfl (Nm _)
     |simp[Instr.typeAssert,A3 w hu,Ka w hz]
   cases h
  cases h
 ·rename_i d ty vy Nm hu
  cases hx with
  |iface _ hv =>
   rename_i v'
   split at h
   ·rename_i ht
    subst ht
    cases h
    refine⟨if ok then .tuple #[v',.bool true]else v',?_,?_⟩
    ·cases d<;>first
      |exact absurd rfl (Nm _)
      |simp[Instr.typeAssert,A3 w hu]
    cases ok
    ·exact hv
    exact VR.tuple' (AS.cons hv (AS.cons (.bool true) .nil))
   rename_i ht
   split at h
   ·rename_i BI
    subst BI
    split at h
    ·rename_i z hz
     cases h
     obtain⟨_,_,_,hf⟩:=QR hz
     refine⟨_,?_,VR.tuple' (AS.cons (hf.refl ρ) (AS.cons (.bool false) .nil))⟩
     cases d<;>first
      |exact absurd rfl (Nm _)
      |simp[Instr.typeAssert,A3 w hu,ht,Ka w hz]
    cases h
   cases h
 cases h
end Go.Cm
