/-
  The evaluator of the model, and that it is sound: part 4.
-/
import Derived.Laws.BitsLemmas
import Derived.Laws.Bits64
import Derived.Lib.LaidTab
import Derived.RowKit3
import Derived.Test.YtmfphenhpkgidaaGreatDoorCm3
namespace Go.Cm
structure GW(α:Type)(d:Nat) where
 f:PT α d→Option α
def idG{α:Type}(t:PT α 0):Option α:=t
def getL{α:Type}{d:Nat}(g:PT α d→Option α)(t:PT α (d+1)):Option α:=g t.1
def getR{α:Type}{d:Nat}(g:PT α d→Option α)(t:PT α (d+1)):Option α:=g t.2
def consL{α:Type}{d:Nat}(w:GW α d):GW α (d+1):=match w with
 |⟨g⟩=>⟨getL g⟩
def consR{α:Type}{d:Nat}(w:GW α d):GW α (d+1):=match w with
 |⟨g⟩=>⟨getR g⟩
noncomputable def getW{α:Type}(d:Nat):Nat→GW α d :=
 Nat.rec (motive:=fun d=>Nat→GW α d) (fun _=>⟨idG⟩) (fun _ ih k=>Bool.rec (motive:=fun _=>GW α _) (consR (ih (Nat.div k 2))) (consL (ih (Nat.div k 2))) (Nat.beq (Nat.mod k 2) 0)) d
noncomputable def getK{α:Type}(d k:Nat):GW α d:=Bool.rec (motive:=fun _=>GW α d) ⟨fun _=>none⟩ (getW d k) (Nat.blt k (2 ^ d))
structure SW(α:Type)(d:Nat) where
 f:Option α→PT α d→PT α d
def idS{α:Type}(v:Option α)(_:PT α 0):PT α 0:=v
noncomputable def setL{α:Type}{d:Nat}(g:Option α→PT α d→PT α d)(v:Option α)(t:PT α (d+1)):PT α (d+1):=Prod.rec (motive:=fun _=>PT α d×PT α d) (fun l r=>(g v l,r)) t
noncomputable def setR{α:Type}{d:Nat}(g:Option α→PT α d→PT α d)(v:Option α)(t:PT α (d+1)):PT α (d+1):=Prod.rec (motive:=fun _=>PT α d×PT α d) (fun l r=>(l,g v r)) t
noncomputable def sconsL{α:Type}{d:Nat}(w:SW α d):SW α (d+1):=match w with
 |⟨g⟩=>⟨setL g⟩
noncomputable def sconsR{α:Type}{d:Nat}(w:SW α d):SW α (d+1):=match w with
 |⟨g⟩=>⟨setR g⟩
noncomputable def setW{α:Type}(d:Nat):Nat→SW α d :=
 Nat.rec (motive:=fun d=>Nat→SW α d) (fun _=>⟨idS⟩) (fun _ ih k=>Bool.rec (motive:=fun _=>SW α _) (sconsR (ih (k/2))) (sconsL (ih (k/2))) (Nat.beq (k%2) 0)) d
noncomputable def setK{α:Type}(d k:Nat):SW α d:=Bool.rec (motive:=fun _=>SW α d) ⟨fun _ t=>t⟩ (setW d k) (Nat.blt k (2 ^ d))
abbrev Hp:=Heap
def appS{α:Type}{d:Nat}(w:SW α d)(v:Option α)(t:PT α d):PT α d:=match w with
 |⟨g⟩=>g v t
noncomputable def atG{α:Type}(d:Nat):PT α d→Nat→Option α :=
 Nat.rec (motive:=fun d=>PT α d→Nat→Option α) (fun t _=>t) (fun _ ih t k=>Bool.rec (motive:=fun _=>Option α) (ih t.2 (Nat.div k 2)) (ih t.1 (Nat.div k 2)) (Nat.beq (Nat.mod k 2) 0)) d
noncomputable def updG{α:Type}(v:Option α)(d:Nat):PT α d→Nat→PT α d :=
 Nat.rec (motive:=fun d=>PT α d→Nat→PT α d) (fun _ _=>v)
  (fun d ih t k=>Prod.rec (motive:=fun _=>PT α d×PT α d) (fun l r=>Bool.rec (motive:=fun _=>PT α d×PT α d) (l,ih r (Nat.div k 2)) (ih l (Nat.div k 2),r) (Nat.beq (Nat.mod k 2) 0)) t) d
noncomputable def hgetH(h:Hp)(b:Nat):Option Blk:=Heap.rec (motive:=fun _=>Option Blk) (fun t more=>Bool.rec (motive:=fun _=>Option Blk) (more b) (atG 18 t b) (Nat.blt b 262144)) h
noncomputable def hget(S:St)(b:Nat):Option Blk:=hgetH S.heap b
noncomputable def hset(h:Hp)(b:Nat)(x:Option Blk):Hp:=Heap.rec (motive:=fun _=>Hp) (fun t more=>Bool.rec (motive:=fun _=>Hp) ⟨t,fun j=>bif Nat.beq j b then x else more j⟩ ⟨updG x 18 t b,more⟩ (Nat.blt b 262144)) h
abbrev Res3:=Option (Exit×Ca×St)
abbrev OkK:=Value→St→Res3
abbrev PanK:=List PanicEntry→St→Res3
abbrev OpK:=Fns→Tm→St→OkK→PanK→Res3
def useR(r:Option (OpR×St))(ok:OkK)(pan:PanK):Res3:=match r with
 |some (.val v,S')=>ok v S'
 |some (.pan ch,S')=>pan ch S'
 |none=>none
noncomputable def asBoolF(v:Value):Option Bool:=@Value.rec (fun _=>Option Bool) (fun _=>PUnit) (fun _=>PUnit) some (fun _ _=>none) (fun _ _=>none) (fun _ _ _=>none) (fun _=>none) (fun _=>none) (fun _ _ _=>none) (fun _=>none) (fun _=>none)
 (fun _ _ _ _ _=>none) none (fun _ _ _=>none) none (fun _ _=>none) (fun _ _=>none) (fun _ _=>⟨⟩) ⟨⟩ (fun _ _ _ _=>⟨⟩) v
noncomputable def asIntF(v:Value):Option (IntKind×Int):=@Value.rec (fun _=>Option (IntKind×Int)) (fun _=>PUnit) (fun _=>PUnit) (fun _=>none) (fun k n=>some (k,n)) (fun _ _=>none) (fun _ _ _=>none) (fun _=>none) (fun _=>none) (fun _ _ _=>none) (fun _=>none) (fun _=>none)
 (fun _ _ _ _ _=>none) none (fun _ _ _=>none) none (fun _ _=>none) (fun _ _=>none) (fun _ _=>⟨⟩) ⟨⟩ (fun _ _ _ _=>⟨⟩) v
def addrOf(a:Option Addr):Option (Nat×Nat):=match a with
 |some ⟨b,o,none⟩=>some (b,o)
 |_=>none
noncomputable def asPtrF(v:Value):Option (Nat×Nat):=@Value.rec (fun _=>Option (Nat×Nat)) (fun _=>PUnit) (fun _=>PUnit) (fun _=>none) (fun _ _=>none) (fun _ _=>none) (fun _ _ _=>none) (fun _=>none) addrOf (fun _ _ _=>none) (fun _=>none) (fun _=>none)
 (fun _ _ _ _ _=>none) none (fun _ _ _=>none) none (fun _ _=>none) (fun _ _=>none) (fun _ _=>⟨⟩) ⟨⟩ (fun _ _ _ _=>⟨⟩) v
def sliceOf(a:Option Addr)(len:Nat)(_:Nat):Option (Nat×Nat×Nat):=match a with
 |some ⟨b,o,none⟩=>some (b,o,len)
 |_=>none
noncomputable def asSliceF(v:Value):Option (Nat×Nat×Nat):=@Value.rec (fun _=>Option (Nat×Nat×Nat)) (fun _=>PUnit) (fun _=>PUnit) (fun _=>none) (fun _ _=>none) (fun _ _=>none) (fun _ _ _=>none) (fun _=>none) (fun _=>none) sliceOf (fun _=>none) (fun _=>none)
 (fun _ _ _ _ _=>none) none (fun _ _ _=>none) none (fun _ _=>none) (fun _ _=>none) (fun _ _=>⟨⟩) ⟨⟩ (fun _ _ _ _=>⟨⟩) v
noncomputable def asTupF(v:Value):Option (List Value):=@Value.rec (fun _=>Option (List Value)) (fun _=>PUnit) (fun _=>PUnit) (fun _=>none) (fun _ _=>none) (fun _ _=>none) (fun _ _ _=>none) (fun _=>none) (fun _=>none) (fun _ _ _=>none) (fun _=>none) (fun _=>none)
 (fun _ _ _ _ _=>none) none (fun _ _ _=>none) none (fun _ _=>none) (fun vs _=>some vs.toList) (fun _ _=>⟨⟩) ⟨⟩ (fun _ _ _ _=>⟨⟩) v
noncomputable def cellsF(v:Value):List Value:=@Value.rec (fun _=>List Value) (fun _=>PUnit) (fun _=>PUnit) (fun _=>[v]) (fun _ _=>[v]) (fun _ _=>[v]) (fun _ _ _=>[v]) (fun _=>[v]) (fun _=>[v]) (fun _ _ _=>[v]) (fun _=>[v]) (fun _=>[v])
 (fun _ _ _ _ _=>[v]) [v] (fun _ _ _=>[v]) [v] (fun cs _=>cs.toList) (fun _ _=>[v]) (fun _ _=>⟨⟩) ⟨⟩ (fun _ _ _ _=>⟨⟩) v
noncomputable def withO{α:Type}(o:Option α)(k:α→Res3):Res3:=Option.rec (motive:=fun _=>Res3) none k o
noncomputable def with2{α β:Type}(o:Option (α×β))(k:α→β→Res3):Res3:=Option.rec (motive:=fun _=>Res3) none (fun p=>k p.1 p.2) o
noncomputable def with3{α β γ:Type}(o:Option (α×β×γ))(k:α→β→γ→Res3):Res3:=Option.rec (motive:=fun _=>Res3) none (fun p=>k p.1 p.2.1 p.2.2) o
def cellsOfB(b:Option Blk):Option (List Value):=match b with
 |some (.cells c _ _ _ _)=>some c
 |_=>none
structure EvW where
 get:Tm→Value
noncomputable def unO(o:Option Value):Value:=Option.rec (motive:=fun _=>Value) undef (fun v=>v) o
noncomputable def tmpV(g:Tm→Option Value)(t:Tm):Value:=unO (g t)
def constV(v:Value)(_:Tm):Value:=v
noncomputable def tmpW(w:GW Value 8):EvW:=match w with
 |⟨g⟩=>⟨tmpV g⟩
noncomputable def evW:Operand→EvW
 | .tmp t=>tmpW (getK 8 t)
 | .const v=>⟨constV v⟩
 | .global g=>⟨constV (.pointer (some ⟨g,0,none⟩))⟩
 | .func f=>⟨constV (.func (.func f) #[] #[])⟩
def evT(t:Tm)(x:Operand):Value:=match x with
 | .tmp i=>match t.get i with
  |some v=>v
  |none=>undef
 | .const v=>v
 | .global g=> .pointer (some ⟨g,0,none⟩)
 | .func f=> .func (.func f) #[] #[]
structure OpW where
 run:OpK
noncomputable def moveF(g:Tm→Value)(_:Fns)(t:Tm)(S:St)(ok:OkK)(_:PanK):Res3:=ok (g t) S
noncomputable def movePF(g:Tm→Option Value)(_:Fns)(t:Tm)(S:St)(ok:OkK)(_:PanK):Res3:=Option.rec (motive:=fun _=>Res3) (ok undef S) (fun v=>ok v S) (g t)
noncomputable def movePW(w:GW Value 8):OpW:=match w with
 |⟨g⟩=>⟨movePF g⟩
noncomputable def moveEW(w:EvW):OpW:=match w with
 |⟨g⟩=>⟨moveF g⟩
noncomputable def moveW:Operand→OpW
 | .tmp t=>movePW (getK 8 t)
 |x=>moveEW (evW x)
def noOp(_:Fns)(_:Tm)(_:St)(_:OkK)(_:PanK):Res3:=none
variable(P:Program)
def slowF(op:Op)(ih:Fns)(t:Tm)(S:St)(ok:OkK)(pan:PanK):Res3:=useR (stepOp P ih (evT t) op S) ok pan
noncomputable def loadAggK(n b o:Nat)(S:St)(ok:OkK):Res3:=withO (cellsOfB (hget S b)) fun c=>withO (takeN n (dropN o c)) fun l=>ok (aggL l) S
noncomputable def loadAgg(n:Nat)(g:Tm→Value)(_:Fns)(t:Tm)(S:St)(ok:OkK)(_:PanK):Res3:=with2 (asPtrF (g t)) fun b o=>loadAggK n b o S ok
noncomputable def loadOneK(b o:Nat)(S:St)(ok:OkK):Res3:=withO (cellsOfB (hget S b)) fun c=>withO (nth c o) fun v=>ok v S
noncomputable def loadOne(g:Tm→Value)(_:Fns)(t:Tm)(S:St)(ok:OkK)(_:PanK):Res3:=with2 (asPtrF (g t)) fun b o=>loadOneK b o S ok
noncomputable def loadW1(a:Option Bool)(n:Option Nat)(e:EvW):OpW:=match a,n,e with
 |some true,some n,⟨g⟩=>⟨loadAgg n g⟩
 |some false,_,⟨g⟩=>⟨loadOne g⟩
 |_,_,_=>⟨noOp⟩
noncomputable def loadW(t:TypeId)(x:Operand):OpW:=loadW1 (aggOf P t) (szOf P t) (evW x)
noncomputable def fieldAddrF(off:Nat)(g:Tm→Value)(_:Fns)(t:Tm)(S:St)(ok:OkK)(_:PanK):Res3:=with2 (asPtrF (g t)) fun b o=>ok (ptrTo b (Nat.add o off)) S
noncomputable def fieldAddrW1(off:Nat)(e:EvW):OpW:=match e with
 |⟨g⟩=>⟨fieldAddrF off g⟩
noncomputable def fieldAddrW(s:TypeId)(x:Operand)(i:Nat):OpW:=match P.underlying s with
 |some (.struct fields)=>match nth fields.toList i with
  |some f=>match szOf P f.type with
   |some (_+1)=>fieldAddrW1 f.offset (evW x)
   |_=>⟨noOp⟩
  |none=>⟨noOp⟩
 |_=>⟨noOp⟩
noncomputable def idxK(n:Int)(len:Nat)(k:Nat→Res3):Res3:=Int.rec (motive:=fun _=>Res3) (fun i=>Bool.rec (motive:=fun _=>Res3) none (k i) (Nat.blt i len)) (fun _=>none) n
noncomputable def indexSliceF(n:Nat)(g h:Tm→Value)(_:Fns)(t:Tm)(S:St)(ok:OkK)(_:PanK):Res3 :=
 with2 (asIntF (h t)) fun _ i=>with3 (asSliceF (g t)) fun b o len=>idxK i len fun j=>ok (ptrTo b (Nat.add o (Nat.mul j n))) S
noncomputable def indexArrF(len n:Nat)(g h:Tm→Value)(_:Fns)(t:Tm)(S:St)(ok:OkK)(_:PanK):Res3 :=
 with2 (asIntF (h t)) fun _ i=>with2 (asPtrF (g t)) fun b o=>idxK i len fun j=>ok (ptrTo b (Nat.add o (Nat.mul j n))) S
noncomputable def indexW1(arr:Option Nat)(n:Nat)(e f:EvW):OpW:=match arr,e,f with
 |some len,⟨g⟩,⟨h⟩=>⟨indexArrF len n g h⟩
 |none,⟨g⟩,⟨h⟩=>⟨indexSliceF n g h⟩
noncomputable def indexAddrW(ty:TypeId)(x i:Operand):OpW:=match P.underlying ty with
 |some (.array len elem)=>match szOf P elem with
  |some n=>indexW1 (some len) n (evW x) (evW i)
  |none=>⟨noOp⟩
 |some (.slice elem)=>match szOf P elem with
  |some n=>indexW1 none n (evW x) (evW i)
  |none=>⟨noOp⟩
 |_=>⟨noOp⟩
def wrapF(k:IntKind)(n:Int):Int:=match k,n with
 | .i64,.ofNat m=>bif Nat.blt m 9223372036854775808 then .ofNat m else IntKind.i64.wrap (.ofNat m)
 | .i64,.negSucc m=>bif Nat.blt m 9223372036854775808 then .negSucc m else IntKind.i64.wrap (.negSucc m)
 | .u64,.ofNat m=>bif Nat.blt m 18446744073709551616 then .ofNat m else IntKind.u64.wrap (.ofNat m)
 |k,n=>k.wrap n
def ltI:Int→Int→Bool
 | .ofNat a,.ofNat b=>Nat.blt a b
 | .ofNat _,.negSucc _=>false
 | .negSucc _,.ofNat _=>true
 | .negSucc a,.negSucc b=>Nat.blt b a
def eqI:Int→Int→Bool
 | .ofNat a,.ofNat b=>Nat.beq a b
 | .negSucc a,.negSucc b=>Nat.beq a b
 |_,_=>false
def kindNo:IntKind→Nat
 | .i8=>0
 | .i16=>1
 | .i32=>2
 | .i64=>3
 | .u8=>4
 | .u16=>5
 | .u32=>6
 | .u64=>7
def sameK(j k:IntKind):Bool:=Nat.beq (kindNo j) (kindNo k)
abbrev BinI:=IntKind→Int→Int→Value
noncomputable def binK2(f:BinI)(slow:Res3)(k:IntKind)(a:Int)(S:St)(ok:OkK)(o:Option (IntKind×Int)):Res3 :=
 Option.rec (motive:=fun _=>Res3) slow (fun p=>Bool.rec (motive:=fun _=>Res3) none (ok (f k a p.2) S) (sameK k p.1)) o
noncomputable def binK1(f:BinI)(slow:Res3)(S:St)(ok:OkK)(o o':Option (IntKind×Int)):Res3 :=
 Option.rec (motive:=fun _=>Res3) slow (fun p=>binK2 f slow p.1 p.2 S ok o') o
noncomputable def binF(f:BinI)(sl:OpK)(g h:Tm→Value)(ih:Fns)(t:Tm)(S:St)(ok:OkK)(pan:PanK):Res3 :=
 binK1 f (sl ih t S ok pan) S ok (asIntF (g t)) (asIntF (h t))
def addI(k:IntKind)(a b:Int):Value:= .int k (wrapF k (Int.add a b))
def subI(k:IntKind)(a b:Int):Value:= .int k (wrapF k (Int.sub a b))
def mulI(k:IntKind)(a b:Int):Value:= .int k (wrapF k (Int.mul a b))
def eqlI(_:IntKind)(a b:Int):Value:= .bool (eqI a b)
def neqI(_:IntKind)(a b:Int):Value:= .bool (!eqI a b)
def lssI(_:IntKind)(a b:Int):Value:= .bool (ltI a b)
def leqI(_:IntKind)(a b:Int):Value:= .bool (!ltI b a)
def gtrI(_:IntKind)(a b:Int):Value:= .bool (ltI b a)
def geqI(_:IntKind)(a b:Int):Value:= .bool (!ltI a b)
def binFn(op:BinOp):Option BinI:=match op with
 | .add=>some addI
 | .sub=>some subI
 | .mul=>some mulI
 | .eql=>some eqlI
 | .neq=>some neqI
 | .lss=>some lssI
 | .leq=>some leqI
 | .gtr=>some gtrI
 | .geq=>some geqI
 |_=>none
noncomputable def binW1(f:Option BinI)(sl:OpK)(e e':EvW):OpW:=match f,e,e' with
 |some f,⟨g⟩,⟨h⟩=>⟨binF f sl g h⟩
 |none,_,_=>⟨sl⟩
noncomputable def binW(op:BinOp)(t:TypeId)(x y:Operand)(yt:TypeId):OpW:=binW1 (binFn op) (slowF P (.binOp op t x y yt)) (evW x) (evW y)
noncomputable def extractF(i:Nat)(g:Tm→Value)(_:Fns)(t:Tm)(S:St)(ok:OkK)(_:PanK):Res3:=withO (asTupF (g t)) fun l=>withO (nth l i) fun v=>ok v S
noncomputable def extractW(i:Nat)(e:EvW):OpW:=match e with
 |⟨g⟩=>⟨extractF i g⟩
noncomputable def pickF(c a b:Tm→Value)(_:Fns)(t:Tm)(S:St)(ok:OkK)(_:PanK):Res3:=withO (asBoolF (c t)) fun x=>Bool.rec (motive:=fun _=>Res3) (ok (b t) S) (ok (a t) S) x
noncomputable def pickW(c a b:EvW):OpW:=match c,a,b with
 |⟨f⟩,⟨g⟩,⟨h⟩=>⟨pickF f g h⟩
noncomputable def notF(g:Tm→Value)(_:Fns)(t:Tm)(S:St)(ok:OkK)(_:PanK):Res3:=withO (asBoolF (g t)) fun x=>ok (.bool (not x)) S
noncomputable def notW(e:EvW):OpW:=match e with
 |⟨g⟩=>⟨notF g⟩
noncomputable def newAt(h:Hp)(x:Blk)(ok:OkK)(n:Nat):Res3:=ok (ptrTo n 0) ⟨hset h n (some x),Nat.succ n⟩
noncomputable def newF(x:Blk)(S:St)(ok:OkK):Res3:=Nat.rec (motive:=fun _=>Res3) (newAt S.heap x ok 0) (fun m _=>newAt S.heap x ok (Nat.succ m)) S.size
noncomputable def allocF(x:Blk)(_:Fns)(_:Tm)(S:St)(ok:OkK)(_:PanK):Res3:=newF x S ok
noncomputable def allocW(z:Option (List Value))(e:TypeId):OpW:=match z with
 |some z=>⟨allocF (.cells z e false true [])⟩
 |none=>⟨noOp⟩
noncomputable def boxF(e:TypeId)(g:Tm→Value)(_:Fns)(t:Tm)(S:St)(ok:OkK)(_:PanK):Res3:=newF (.cells (cellsF (g t)) e false true []) S ok
noncomputable def boxW(e:TypeId)(x:EvW):OpW:=match x with
 |⟨g⟩=>⟨boxF e g⟩
noncomputable def writeB(S:St)(b o:Nat)(vs:List Value)(slow:Res3)(ok:OkK)(x:Option Blk):Res3:=match x with
 |some (.cells c e row true [])=>withO (setN o vs c) fun c'=>ok undef ⟨hset S.heap b (some (.cells c' e row true [])),S.size⟩
 |_=>slow
noncomputable def storeK(n:Nat)(S:St)(b o:Nat)(vs:List Value)(slow:Res3)(ok:OkK):Res3 :=
 Bool.rec (motive:=fun _=>Res3) none (writeB S b o vs slow ok (hget S b)) (Nat.beq vs.length n&&vs.all cellV&&Nat.blt 0 vs.length)
noncomputable def storeF(n:Nat)(sl:OpK)(g h:Tm→Value)(ih:Fns)(t:Tm)(S:St)(ok:OkK)(pan:PanK):Res3 :=
 with2 (asPtrF (g t)) fun b o=>storeK n S b o (cellsF (h t)) (sl ih t S ok pan) ok
noncomputable def storeW(n:Option Nat)(sl:OpK)(e e':EvW):OpW:=match n,e,e' with
 |some n,⟨g⟩,⟨h⟩=>⟨storeF n sl g h⟩
 |none,_,_=>⟨noOp⟩
def endR(r:Option (Ending×St))(ok:OkK)(pan:PanK):Res3:=match r with
 |some (.returned v,S')=>ok v S'
 |some (.panicked ch,S')=>pan ch S'
 |_=>none
def argsOf:List (Tm→Value)→Tm→List Value
 | [],_=>[]
 |g::r,t=>g t::argsOf r t
def callFnF(f:FuncId)(gs:List (Tm→Value))(ih:Fns)(t:Tm)(S:St)(ok:OkK)(pan:PanK):Res3:=endR (ih.call (.fn (.func f) #[]) (argsOf gs t) S) ok pan
noncomputable def getsOf:List Operand→List (Tm→Value)
 | []=>[]
 |x::r=>(evW x).get::getsOf r
noncomputable def callW(c:Call)(op:Op):OpW:=match c.callee with
 | .value (.func f)=>⟨callFnF f (getsOf c.args.toList)⟩
 |_=>⟨slowF P op⟩
noncomputable def evF(e:EvW)(t:Tm):Value:=EvW.rec (motive:=fun _=>Value) (fun g=>g t) e
noncomputable def evA(t:Tm)(x:Operand):Value:=evF (evW x) t
noncomputable def pureK(f:(Operand→Value)→Option Value)(_:Fns)(t:Tm)(S:St)(ok:OkK)(_:PanK):Res3:=withO (f (evA t)) fun v=>ok v S
noncomputable def readK(f:(Operand→Value)→St→Option Value)(_:Fns)(t:Tm)(S:St)(ok:OkK)(_:PanK):Res3:=withO (f (evA t) S) fun v=>ok v S
noncomputable def newK(f:(Operand→Value)→St→Option (Value×St))(_:Fns)(t:Tm)(S:St)(ok:OkK)(_:PanK):Res3:=with2 (f (evA t) S) ok
def mapE(ρ:Operand→Value):List (Nat×Operand)→List (Nat×Value)
 | []=>[]
 |x::r=>(x.1,ρ x.2)::mapE ρ r
def buildO(t:TypeId)(l:List (Nat×Operand))(ρ:Operand→Value):Option Value:=buildV P t (mapE ρ l)
def nilO(x:Operand)(ρ:Operand→Value):Option Value:=nilCheckV (ρ x)
def fieldO(t:TypeId)(x:Operand)(i:Nat)(ρ:Operand→Value):Option Value:=fieldV P t (ρ x) i
def indexO(t:TypeId)(x i:Operand)(ρ:Operand→Value):Option Value:=indexV P t (ρ x) (ρ i)
def lenO(t:TypeId)(x:Operand)(ρ:Operand→Value)(S:St):Option Value:=lenV P t (ρ x) S
def sliceO(t:TypeId)(x:Operand)(lo hi mx:Option Operand)(ρ:Operand→Value)(S:St):Option Value:=sliceV P t (ρ x) (lo.map ρ) (hi.map ρ) (mx.map ρ) S
def buildSliceO(t:TypeId)(len:Nat)(parts:Array (Nat×Operand))(ρ:Operand→Value)(S:St):Option (Value×St):=newOp P ρ (.buildSlice t len parts) S
def mapO(ρ:Operand→Value):List Operand→List Value
 | []=>[]
 |x::r=>ρ x::mapO ρ r
def builtinO(b:Builtin)(ts:List TypeId)(args:List Operand)(ρ:Operand→Value)(S:St):Option (Value×St):=builtinV P b ts (mapO ρ args) S
noncomputable def builtinW(b:Builtin)(args:List Operand)(ts:List TypeId)(op:Op):OpW:=match b,args,ts with
 | .len,[x],t::_=>⟨readK (lenO P t x)⟩
 | .len,_,_=>⟨slowF P op⟩
 |b,args,ts=>⟨newK (builtinO P b ts args)⟩
noncomputable def callW2(c:Call)(op:Op):OpW:=match c.callee with
 | .builtin b=>builtinW P b c.args.toList c.argTypes.toList op
 |_=>callW P c op
noncomputable def opW(op:Op):OpW:=match op with
 | .move x=>moveW x
 | .assign x=>moveW x
 | .pick c a b=>pickW (evW c) (evW a) (evW b)
 | .load t x=>loadW P t x
 | .fieldAddr s x i=>fieldAddrW P s x i
 | .indexAddr t x i=>indexAddrW P t x i
 | .binOp o t x y yt=>binW P o t x y yt
 | .unOp .not _ x=>notW (evW x)
 | .extract x i=>extractW i (evW x)
 | .alloc e=>allocW (zeroOf P e) e
 | .box e x=>boxW e (evW x)
 | .store t a x=>storeW (szOf P t) (slowF P (.store t a x)) (evW a) (evW x)
 | .build t parts=>⟨pureK (buildO P t parts.toList)⟩
 | .nilCheck x=>⟨pureK (nilO x)⟩
 | .field t x i=>⟨pureK (fieldO P t x i)⟩
 | .index t x i=>⟨pureK (indexO P t x i)⟩
 | .slice t x lo hi mx=>⟨readK (sliceO P t x lo hi mx)⟩
 | .buildSlice t len parts=>⟨newK (buildSliceO P t len parts)⟩
 | .call c=>callW2 P c (.call c)
 |op=>⟨slowF P op⟩
abbrev StepK:=Fns→Nat→Tm→St→(Tm→St→Res3)→PanK→Res3
structure StepW where
 run:StepK
noncomputable def putK(s:Option Value→Tm→Tm)(d n:Nat)(t:Tm)(k:Tm→St→Res3)(v:Value)(S:St):Res3:=Bool.rec (motive:=fun _=>Res3) none (k (s (some v) t) S) (Nat.blt d n)
noncomputable def stepDr(s:Option Value→Tm→Tm)(d:Nat)(f:OpK)(ih:Fns)(n:Nat)(t:Tm)(S:St)(k:Tm→St→Res3)(pan:PanK):Res3:=f ih t S (putK s d n t k) pan
def dropK(t:Tm)(k:Tm→St→Res3)(_:Value)(S:St):Res3:=k t S
def stepN(f:OpK)(ih:Fns)(_:Nat)(t:Tm)(S:St)(k:Tm→St→Res3)(pan:PanK):Res3:=f ih t S (dropK t k) pan
def isB(v:Option Value)(w:Bool):Bool:=match v with
 |some (.bool b)=>b==w
 |_=>false
noncomputable def stepG(g:Tm→Option Value)(w:Bool)(yes no:StepK)(ih:Fns)(n:Nat)(t:Tm)(S:St)(k:Tm→St→Res3)(pan:PanK):Res3 :=
 Bool.rec (motive:=fun _=>Res3) (no ih n t S k pan) (yes ih n t S k pan) (isB (g t) w)
noncomputable def plainW(dst:Option Tmp)(f:OpK):StepW:=match dst with
 |none=>⟨stepN f⟩
 |some d=>match(setK 8 d:SW Value 8)with
  |⟨s⟩=>⟨stepDr s d f⟩
def undefF(_:Fns)(_:Tm)(S:St)(ok:OkK)(_:PanK):Res3:=ok undef S
noncomputable def guardW(g:GW Value 8)(w:Bool)(y n:StepW):StepW:=match g,y,n with
 |⟨g⟩,⟨y⟩,⟨n⟩=>⟨stepG g w y n⟩
noncomputable def plainOp(dst:Option Tmp)(w:OpW):StepW:=match w with
 |⟨f⟩=>plainW dst f
noncomputable def stepW(full:List Oper)(o:Oper):StepW:=match o.guard with
 |none=>plainOp o.dst (opW P o.op)
 |some (j,w)=>match nth full j with
  |some oj=>match oj.dst with
   |some d=>guardW (getK 8 d) w (plainOp o.dst (opW P o.op)) (plainW o.dst undefF)
   |none=>plainW o.dst undefF
  |none=>plainW o.dst undefF
noncomputable def compL(full:List Oper)(l:List Oper):List StepW:=List.rec (motive:=fun _=>List StepW) [] (fun o _ ih=>stepW P full o::ih) l
noncomputable def stepRun(w:StepW)(ih:Fns)(n:Nat)(t:Tm)(S:St)(k:Tm→St→Res3)(pan:PanK):Res3:=StepW.rec (motive:=fun _=>Res3) (fun f=>f ih n t S k pan) w
def panA(n:Nat)(t:Tm)(df:List Deferred)(ch:List PanicEntry)(S:St):Res3:=some (.panic ch,⟨n,t,df⟩,S)
noncomputable def runC(ih:Fns)(n:Nat)(df:List Deferred)(l:List StepW):Tm→St→Res3 :=
 List.rec (motive:=fun _=>Tm→St→Res3) (fun t S=>some (.normal,⟨n,t,df⟩,S)) (fun c _ rest t S=>stepRun c ih n t S rest (panA n t df)) l
abbrev Ent:=Nat×(St→Res3→Res3)
abbrev PlK:=Fns→Nat→List Deferred→Tm→St→List Ent→(List Ent→Tm→St→Res3)→Res3
structure PlW where
 run:PlK
noncomputable def sameK2(v:Value)(k:Res3)(w:Value)(_:St):Res3:=Bool.rec (motive:=fun _=>Res3) none k (sameV 100000 v w)
def noPan(_:List PanicEntry)(_:St):Res3:=none
noncomputable def lookE(f:OpK)(ih:Fns)(t:Tm)(v:Value)(S:St)(k:Res3):Res3:=f ih t S (sameK2 v k) noPan
noncomputable def freshE(P:Program)(c:Chk)(S:St)(k:Res3):Res3:=Bool.rec (motive:=fun _=>Res3) none k (Chk.ok P S c)
noncomputable def allE(S:St)(k:Res3)(l:List Ent):Res3:=List.rec (motive:=fun _=>Res3) k (fun e _ ih=>e.2 S ih) l
def keepE(bef:Nat):List Ent→List Ent
 | []=>[]
 |e::r=>bif bef.testBit e.1 then keepE bef r else e::keepE bef r
abbrev PutK:=Nat→Tm→Value→(Tm→Res3)→Res3
noncomputable def putD(s:Option Value→Tm→Tm)(d:Nat)(n:Nat)(t:Tm)(v:Value)(k:Tm→Res3):Res3:=Bool.rec (motive:=fun _=>Res3) none (k (s (some v) t)) (Nat.blt d n)
def putN(_:Nat)(t:Tm)(_:Value)(k:Tm→Res3):Res3:=k t
noncomputable def putOf(dst:Option Tmp):PutK:=match dst with
 |none=>putN
 |some d=>match(setK 8 d:SW Value 8)with
  |⟨s⟩=>putD s d
def plPlain(p:PutK)(f:OpK)(ih:Fns)(n:Nat)(_:List Deferred)(t:Tm)(S:St)(l:List Ent)(k:List Ent→Tm→St→Res3):Res3:=f ih t S (fun v S'=>p n t v fun t'=>k l t' S') noPan
noncomputable def plLook(i:Nat)(p:PutK)(f:OpK)(ih:Fns)(n:Nat)(_:List Deferred)(t:Tm)(S:St)(l:List Ent)(k:List Ent→Tm→St→Res3):Res3:=f ih t S (fun v S'=>p n t v fun t'=>k ((i,lookE f ih t v)::l) t' S') noPan
noncomputable def plFresh(i:Nat)(p:PutK)(f:OpK)(ih:Fns)(n:Nat)(_:List Deferred)(t:Tm)(S:St)(l:List Ent)(k:List Ent→Tm→St→Res3):Res3 :=
 f ih t S (fun v S'=>p n t v fun t'=>withO (chkOf S' S.size) fun c=>Option.rec (motive:=fun _=>Res3) (k ((i,freshE P c)::l) t' S') (fun _=>none) (hget S S.size)) noPan
noncomputable def plHeavy(bef:Nat)(p:PutK)(f:OpK)(ih:Fns)(n:Nat)(_:List Deferred)(t:Tm)(S:St)(l:List Ent)(k:List Ent→Tm→St→Res3):Res3 :=
 f ih t S (fun v S'=>p n t v fun t'=>allE S' (k (keepE bef l) t' S') (keepE bef l)) noPan
noncomputable def plGuard(g:Tm→Option Value)(w:Bool)(yes no:PlK)(ih:Fns)(n:Nat)(df:List Deferred)(t:Tm)(S:St)(l:List Ent)(k:List Ent→Tm→St→Res3):Res3 :=
 Bool.rec (motive:=fun _=>Res3) (no ih n df t S l k) (yes ih n df t S l k) (isB (g t) w)
noncomputable def plOp(bef:Nat)(o:Oper)(i:Nat)(f:OpK):PlK:=match kindOf o.op with
 | .read=>bif looks o.op then plLook i (putOf o.dst) f else plPlain (putOf o.dst) f
 | .fresh=>plFresh P i (putOf o.dst) f
 | .heavy=>plHeavy bef (putOf o.dst) f
noncomputable def plGuardW(g:GW Value 8)(w:Bool)(y n:PlK):PlW:=match g with
 |⟨g⟩=>⟨plGuard g w y n⟩
noncomputable def plOpW(full:List Oper)(bef:Nat)(o:Oper)(i:Nat)(w:OpW):PlW:=match w with
 |⟨f⟩=>match o.guard with
  |none=>⟨plOp P bef o i f⟩
  |some (j,w)=>match nth full j with
   |some oj=>match oj.dst with
    |some d=>plGuardW (getK 8 d) w (plOp P bef o i f) (plPlain (putOf o.dst) undefF)
    |none=>⟨plPlain (putOf o.dst) undefF⟩
   |none=>⟨plPlain (putOf o.dst) undefF⟩
noncomputable def compP(full:List Oper)(bef:List Nat)(l:List (Oper×Nat)):List PlW :=
 List.rec (motive:=fun _=>List PlW) [] (fun x _ ih=>plOpW P full ((nth bef x.2).getD 0) x.1 x.2 (opW P x.1.op)::ih) l
noncomputable def plRun(w:PlW):PlK:=PlW.rec (motive:=fun _=>PlK) (fun f=>f) w
noncomputable def runPl(ih:Fns)(n:Nat)(df:List Deferred)(l:List PlW):List Ent→Tm→St→Res3 :=
 List.rec (motive:=fun _=>List Ent→Tm→St→Res3) (fun _ t S=>some (.normal,⟨n,t,df⟩,S)) (fun c _ rest e t S=>plRun c ih n df t S e rest) l
structure CodeW where
 run:Fns→Option Nat→Ca→St→Res3
noncomputable def regionF(l:List StepW)(ih:Fns)(_:Option Nat)(a:Ca)(S:St):Res3:=Ca.rec (motive:=fun _=>Res3) (fun n t df=>runC ih n df l t S) a
noncomputable def drawF(l:List PlW)(ih:Fns)(_:Option Nat)(a:Ca)(S:St):Res3:=Ca.rec (motive:=fun _=>Res3) (fun n t df=>runPl ih n df l [] t S) a
def constF(e:Exit)(_:Fns)(_:Option Nat)(a:Ca)(S:St):Res3:=some (e,a,S)
def seqK(y:Code)(ih:Fns)(ro:Option Nat)(r:Res3):Res3:=match r with
 |some (.normal,a',S')=>ih.exec ro y a' S'
 |r=>r
def seqF(x y:Code)(ih:Fns)(ro:Option Nat)(a:Ca)(S:St):Res3:=seqK y ih ro (ih.exec ro x a S)
noncomputable def condK(x y:Res3)(o:Option Bool):Res3:=withO o fun b=>Bool.rec (motive:=fun _=>Res3) y x b
noncomputable def condF(g:Tm→Value)(x y:Code)(ih:Fns)(ro:Option Nat)(a:Ca)(S:St):Res3:=condK (ih.exec ro x a S) (ih.exec ro y a S) (asBoolF (g a.t))
noncomputable def condW(e:EvW)(x y:Code):CodeW:=match e with
 |⟨g⟩=>⟨condF g x y⟩
def blockK(id:Nat)(r:Res3):Res3:=match r with
 |some (.exit j,a',S')=>bif Nat.beq j id then some (.normal,a',S')else some (.exit j,a',S')
 |r=>r
def blockF(id:Nat)(c:Code)(ih:Fns)(ro:Option Nat)(a:Ca)(S:St):Res3:=blockK id (ih.exec ro c a S)
def loopF(c:Code)(ih:Fns)(ro:Option Nat)(a:Ca)(S:St):Res3:=seqK (.loop c) ih ro (ih.exec ro c a S)
def elseF(code:Code)(ih:Fns)(ro:Option Nat)(a:Ca)(S:St):Res3:=execF P ih ro code a S
def noCode(_:Fns)(_:Option Nat)(_:Ca)(_:St):Res3:=none
noncomputable def drawW(full:List Oper)(o:Option (List Nat×List (Oper×Nat))):CodeW:=match o with
 |some (bef,pl)=>⟨drawF (compP P full bef pl)⟩
 |none=>⟨noCode⟩
noncomputable def regionW(ops:List Oper)(draw:Bool):CodeW:=bif constsOk P ops then(bif draw then drawW P ops (planW ops)else⟨regionF (compL P ops ops)⟩)else⟨noCode⟩
noncomputable def codeW(code:Code):CodeW:=match code with
 | .skip=>⟨constF .normal⟩
 | .label _=>⟨constF .normal⟩
 | .exit id=>⟨constF (.exit id)⟩
 | .ret=>⟨constF .ret⟩
 | .region _ ops draw=>regionW P ops.toList draw
 | .seq x y=>⟨seqF x y⟩
 | .cond c x y=>condW (evW c) x y
 | .block id c=>⟨blockF id c⟩
 | .loop c=>⟨loopF c⟩
 |code=>⟨elseF P code⟩
noncomputable def execW(w:CodeW)(ih:Fns)(ro:Option Nat)(a:Ca)(S:St):Res3:=CodeW.rec (motive:=fun _=>Res3) (fun f=>f ih ro a S) w
noncomputable def execG(ih:Fns)(ro:Option Nat)(code:Code)(a:Ca)(S:St):Res3:=execW (codeW P code) ih ro a S
inductive EntW where
 |bad
 |ext
 |go (n:Nat) (c:Code) (rs:List ResultVar)
def entW(f:FuncId):EntW:=match P.funcs[f]? with
 |some fn=>match fn.body with
  |some c=>bif fn.name== "runtime.NumGoroutine" then .bad else .go fn.ntmps c fn.results.toList
  |none=> .ext
 |none=> .bad
noncomputable def setArgs(i:Nat)(l:List Value):Tm→Tm:=List.rec (motive:=fun _=>Nat→Tm→Tm) (fun _ t=>t) (fun v _ ih i t=>ih (Nat.succ i) (appS (setK 8 i) (some v) t)) l i
noncomputable def resG(t:Tm)(S:St):List ResultVar→Option (List Value)
 | []=>some []
 | .tmp x::r=>match resG t S r with
  |some l=>some (evA t (.tmp x)::l)
  |none=>none
 | .cell x e::r=>match loadV P e (evA t (.tmp x)) S,resG t S r with
  |some v,some l=>some (v::l)
  |_,_=>none
abbrev Res2:=Option (Ending×St)
def retV(S:St)(l:Option (List Value)):Res2:=match l with
 |some [v]=>some (.returned v,S)
 |some vs=>some (.returned (.tuple vs.toArray),S)
 |none=>none
noncomputable def retG(rs:List ResultVar)(t:Tm)(S:Option St):Res2:=Option.rec (motive:=fun _=>Res2) none (fun S=>retV S (resG P t S rs)) S
def panG(ch:List PanicEntry)(S:Option St):Res2:=match S with
 |some S=>some (.panicked ch,S)
 |none=>none
noncomputable def leave1(rs:List ResultVar)(S:St)(e:Exit)(t:Tm)(df:List Deferred):Res2:=match e with
 | .normal=>retG P rs t (takeMarks df S)
 | .ret=>retG P rs t (takeMarks df S)
 | .panic ch=>panG ch (takeMarks df S)
 |_=>none
noncomputable def leaveG(rs:List ResultVar)(r:Res3):Res2:=match r with
 |some (e,⟨_,t,df⟩,S)=>leave1 P rs S e t df
 |none=>none
noncomputable def goG(ih:Fns)(n:Nat)(c:Code)(rs:List ResultVar)(args:List Value)(S:St):Res2 :=
 bif Nat.blt 256 n then none else leaveG P rs (ih.exec none c ⟨n,setArgs 0 args (PT.nil 8),[]⟩ S)
def extG(r:Option (Value×St)):Res2:=match r with
 |some (v,S)=>some (.returned v,S)
 |none=>none
noncomputable def enterG(K:Known)(ih:Fns)(f:FuncId)(args:List Value)(S:St)(w:EntW):Res2:=match w with
 | .bad=>none
 | .ext=>extG (K.ext f args S)
 | .go n c rs=>goG P ih (maxN n args.length) c rs args S
noncomputable def callG(K:Known)(ih:Fns)(target:Target)(args:List Value)(S:St):Res2:=match target with
 | .fn (.func f) ⟨[]⟩=>match K.call f args S with
  |some v=>some (.returned v,S)
  |none=>bif K.defers f then enterD P ih f args S else enterG P K ih f args S (entW P f)
 |t=>callF P K ih t args S
noncomputable def fnsG(K:Known)(n:Nat):Fns :=
 Nat.rec (motive:=fun _=>Fns) ⟨fun _ _ _ _=>none,fun _ _ _=>none⟩ (fun _ ih=>⟨execG P ih,callG P K ih⟩) n
end Go.Cm
namespace Go.Cm
open Go
theorem getW_eq{α:Type}:∀(d k:Nat) (t:PT α d),(getW d k:GW α d).f t=PT.at_ d t k
 |0,_,_=>rfl
 |d+1,k,t=>by
  have e:(getW (d+1) k:GW α (d+1))=Bool.rec (motive:=fun _=>GW α _) (consR (getW d (Nat.div k 2))) (consL (getW d (Nat.div k 2))) (Nat.beq (Nat.mod k 2) 0):=rfl
  rw[e]
  have hL:∀w:GW α d,(consL w).f t=w.f t.1:=fun w=>by cases w;rfl
  have hR:∀w:GW α d,(consR w).f t=w.f t.2:=fun w=>by cases w;rfl
  cases hb:Nat.beq (Nat.mod k 2) 0 with
  |true =>
   rw[PT.at_tt (show Nat.beq (k%2) 0=true from hb)]
   show(consL (getW d (Nat.div k 2))).f t=_
   rw[hL];exact getW_eq d _ _
  |false =>
   rw[PT.at_ff (show Nat.beq (k%2) 0=false from hb)]
   show(consR (getW d (Nat.div k 2))).f t=_
   rw[hR];exact getW_eq d _ _
theorem getK_eq{α:Type}(d k:Nat)(t:PT α d):(getK d k:GW α d).f t=t.get k:=by
 unfold getK PT.get
 cases Nat.blt k (2 ^ d)with
 |true=>exact getW_eq d k t
 |false=>rfl
theorem setW_eq{α:Type}:∀(d k:Nat) (v:Option α) (t:PT α d),(setW d k:SW α d).f v t=PT.upd v d t k
 |0,_,_,_=>rfl
 |d+1,k,v,t=>by
  have e:(setW (d+1) k:SW α (d+1))=Bool.rec (motive:=fun _=>SW α _) (sconsR (setW d (k/2))) (sconsL (setW d (k/2))) (Nat.beq (k%2) 0):=rfl
  rw[e]
  have hL:∀w:SW α d,(sconsL w).f v t=((w.f v t.1,t.2):PT α d×PT α d):=fun w=>by cases w;cases t;rfl
  have hR:∀w:SW α d,(sconsR w).f v t=((t.1,w.f v t.2):PT α d×PT α d):=fun w=>by cases w;cases t;rfl
  cases hb:Nat.beq (k%2) 0 with
  |true =>
   rw[PT.upd_tt hb]
   show(sconsL (setW d (k/2))).f v t=_
   rw[hL,setW_eq d]
  |false =>
   rw[PT.upd_ff hb]
   show(sconsR (setW d (k/2))).f v t=_
   rw[hR,setW_eq d]
theorem setK_eq{α:Type}(d k:Nat)(v:Option α)(t:PT α d):(setK d k:SW α d).f v t=t.set k v:=by
 unfold setK PT.set
 cases Nat.blt k (2 ^ d)with
 |true=>exact setW_eq d k v t
 |false=>rfl
theorem appS_eq{α:Type}{d:Nat}(w:SW α d)(v:Option α)(t:PT α d):appS w v t=w.f v t:=by cases w;rfl
theorem atG_eq{α:Type}:∀(d:Nat) (t:PT α d) (k:Nat),atG d t k=PT.at_ d t k
 |0,_,_=>rfl
 |d+1,t,k=>by
  have e:atG (d+1) t k=Bool.rec (motive:=fun _=>Option α) (atG d t.2 (Nat.div k 2)) (atG d t.1 (Nat.div k 2)) (Nat.beq (Nat.mod k 2) 0):=rfl
  rw[e]
  cases hb:Nat.beq (Nat.mod k 2) 0 with
  |true=>rw[PT.at_tt (show Nat.beq (k%2) 0=true from hb)];exact atG_eq d _ _
  |false=>rw[PT.at_ff (show Nat.beq (k%2) 0=false from hb)];exact atG_eq d _ _
theorem updG_eq{α:Type}(v:Option α):∀(d:Nat) (t:PT α d) (k:Nat),updG v d t k=PT.upd v d t k
 |0,_,_=>rfl
 |d+1,t,k=>by
  obtain⟨l,r⟩:=t
  have e:updG v (d+1) ((l,r):PT α d×PT α d) k=Bool.rec (motive:=fun _=>PT α d×PT α d) (l,updG v d r (Nat.div k 2)) (updG v d l (Nat.div k 2),r) (Nat.beq (Nat.mod k 2) 0):=rfl
  rw[e]
  cases hb:Nat.beq (Nat.mod k 2) 0 with
  |true =>
   refine Eq.trans ?_ (PT.upd_tt (show Nat.beq (k%2) 0=true from hb)).symm
   show(updG v d l (Nat.div k 2),r)=_
   rw[updG_eq v d l];rfl
  |false =>
   refine Eq.trans ?_ (PT.upd_ff (show Nat.beq (k%2) 0=false from hb)).symm
   show(l,updG v d r (Nat.div k 2))=_
   rw[updG_eq v d r];rfl
theorem hget_eq(S:St)(b:Nat):hget S b=S.get b:=by
 obtain⟨⟨t,more⟩,z⟩:=S
 show Bool.rec (motive:=fun _=>Option Blk) (more b) (atG 18 t b) (Nat.blt b 262144)=bif Nat.blt b 262144 then PT.at_ 18 t b else more b
 cases Nat.blt b 262144 with
 |true=>exact atG_eq 18 _ _
 |false=>rfl
theorem hset_eq(h:Hp)(b:Nat)(x:Option Blk):hset h b x=Heap.set h b x:=by
 obtain⟨t,more⟩:=h
 show Bool.rec (motive:=fun _=>Hp) ⟨t,fun j=>bif Nat.beq j b then x else more j⟩ ⟨updG x 18 t b,more⟩ (Nat.blt b 262144)=bif Nat.blt b 262144 then(⟨PT.upd x 18 t b,more⟩:Heap)else⟨t,fun j=>bif Nat.beq j b then x else more j⟩
 cases Nat.blt b 262144 with
 |true=>exact congrArg (fun y=>(⟨y,more⟩:Heap)) (updG_eq x 18 _ _)
 |false=>rfl
theorem withO_eq{α:Type}(o:Option α)(k:α→Res3):withO o k=match o with|some v=>k v|none=>none:=by cases o<;>rfl
theorem with2_eq{α β:Type}(o:Option (α×β))(k:α→β→Res3):with2 o k=match o with|some (a,b)=>k a b|none=>none:=by cases o<;>rfl
theorem with3_eq{α β γ:Type}(o:Option (α×β×γ))(k:α→β→γ→Res3):with3 o k=match o with|some (a,b,c)=>k a b c|none=>none:=by cases o<;>rfl
theorem asBoolF_eq(v:Value):asBoolF v=match v with| .bool b=>some b|_=>none:=by cases v<;>rfl
theorem asIntF_eq(v:Value):asIntF v=match v with| .int k n=>some (k,n)|_=>none:=by cases v<;>rfl
theorem asPtrF_eq(v:Value):asPtrF v=match v with| .pointer a=>addrOf a|_=>none:=by cases v<;>rfl
theorem asSliceF_eq(v:Value):asSliceF v=match v with| .slice a n c=>sliceOf a n c|_=>none:=by cases v<;>rfl
theorem asTupF_eq(v:Value):asTupF v=match v with| .tuple l=>some l.toList|_=>none:=by cases v<;>rfl
theorem cellsF_eq(v:Value):cellsF v=cellsL v:=by cases v<;>rfl
theorem evW_eq(x:Operand)(t:Tm):(evW x).get t=evT t x:=by
 cases x with
 |tmp i =>
  show(tmpW (getK 8 i)).get t=_
  have h:∀w:GW Value 8,(tmpW w).get t=unO (w.f t):=fun w=>by cases w;rfl
  rw[h,getK_eq]
  show unO (t.get i)=match t.get i with|some v=>v|none=>undef
  cases t.get i<;>rfl
 |const v=>rfl
 |global g=>rfl
 |func f=>rfl
theorem evA_eq(t:Tm):evA t=evT t:=by
 funext x
 rw[←evW_eq]
 show evF (evW x) t=_
 cases evW x;rfl
theorem ca_ev(n:Nat)(t:Tm)(df:List Deferred):Ca.ev ⟨n,t,df⟩=evT t:=by
 funext x;cases x<;>rfl
theorem evW_get{x:Operand}{g:Tm→Value}(h:evW x=⟨g⟩)(t:Tm):g t=evT t x:=by
 rw[←evW_eq,h]
theorem kindNo_inj:∀j k:IntKind,kindNo j=kindNo k→j=k:=by intro j k h;cases j<;>cases k<;>first|rfl|(simp[kindNo]at h)
theorem sameK_eq(j k:IntKind):sameK j k=decide (j=k):=by
 unfold sameK
 by_cases h:j=k
 ·subst h;simp
 rw[nbeq_ff (fun e=>h (kindNo_inj _ _ e))];simp[h]
theorem eqI_eq:∀a b:Int,eqI a b=(a==b)
 | .ofNat a,.ofNat b=>by
  show Nat.beq a b=_
  by_cases h:a=b
  ·subst h;simp
  have h2:¬(Int.ofNat a=Int.ofNat b):=fun e=>h (Int.ofNat.inj e)
  rw[nbeq_ff h,beq_eq_false_iff_ne.2 h2]
 | .negSucc a,.negSucc b=>by
  show Nat.beq a b=_
  by_cases h:a=b
  ·subst h;simp
  rw[nbeq_ff h];simp[h]
 | .ofNat a,.negSucc b=>by simp[eqI]
 | .negSucc a,.ofNat b=>by simp[eqI]
theorem ltI_eq:∀a b:Int,ltI a b=decide (a<b)
 | .ofNat a,.ofNat b=>by
  show Nat.blt a b=_
  rw[PT.blt_iff]
  refine decide_eq_decide.2 ?_
  show a<b↔(a:Int)<(b:Int)
  omega
 | .negSucc a,.negSucc b=>by
  show Nat.blt b a=_
  rw[PT.blt_iff]
  refine decide_eq_decide.2 ?_
  omega
 | .ofNat a,.negSucc b=>by
  show false=_
  symm;rw[decide_eq_false_iff_not]
  show ¬((a:Int)<Int.negSucc b)
  omega
 | .negSucc a,.ofNat b=>by
  show true=_
  symm;rw[decide_eq_true_eq]
  show Int.negSucc a<(b:Int)
  omega
theorem bif_eq{α:Type}{c:Bool}{x y:α}(h:c=true→x=y):(bif c then x else y)=y:=by
 cases c with
 |false=>rfl
 |true=>exact h rfl
theorem wrapF_eq(k:IntKind)(n:Int):wrapF k n=k.wrap n:=by
 unfold wrapF
 split
 ·rename_i m
  refine bif_eq fun h=>?_
  have h:=nblt_tt h
  rw[IntKind.wrap_i64]
  show(m:Int)=_
  have e:(Int.ofNat m)=(m:Int):=rfl
  rw[e]
  omega
 ·rename_i m
  refine bif_eq fun h=>?_
  have h:=nblt_tt h
  rw[IntKind.wrap_i64]
  omega
 ·rename_i m
  refine bif_eq fun h=>?_
  have h:=nblt_tt h
  rw[IntKind.wrap_u64]
  have e:(Int.ofNat m)=(m:Int):=rfl
  rw[e]
  omega
 rfl
section
variable{P:Program}{ih:Fns}{t:Tm}{S:St}{ok:OkK}{pan:PanK}
theorem useR_read{f:Operand→Value}{op:Op}(hk:kindOf op= .read):useR (stepOp P ih f op S) ok pan=match readOp P f op S with|some v=>ok v S|none=>none:=by
 unfold stepOp
 rw[hk]
 simp only
 cases readOp P f op S<;>rfl
theorem useR_new{f:Operand→Value}{op:Op}(hk:kindOf op= .fresh):useR (stepOp P ih f op S) ok pan=match newOp P f op S with|some (v,S')=>ok v S'|none=>none:=by
 unfold stepOp
 rw[hk]
 simp only
 cases newOp P f op S<;>rfl
abbrev Eqv(P:Program)(op:Op)(w:OpW):Prop:= ∀(ih:Fns) (t:Tm) (S:St) (ok:OkK) (pan:PanK),w.run ih t S ok pan=useR (stepOp P ih (evT t) op S) ok pan
theorem slow_eq(op:Op):Eqv P op ⟨slowF P op⟩:=fun _ _ _ _ _=>rfl
theorem moveW_eq(x:Operand)(ih:Fns)(t:Tm)(S:St)(ok:OkK)(pan:PanK):(moveW x).run ih t S ok pan=ok (evT t x) S:=by
 have hE:∀w:EvW,(moveEW w).run ih t S ok pan=ok (w.get t) S:=fun w=>by cases w;rfl
 cases x with
 |tmp i =>
  show(movePW (getK 8 i)).run ih t S ok pan=_
  have hP:∀w:GW Value 8,(movePW w).run ih t S ok pan=Option.rec (motive:=fun _=>Res3) (ok undef S) (fun v=>ok v S) (w.f t):=fun w=>by cases w;rfl
  rw[hP,getK_eq]
  show _=ok (match t.get i with|some v=>v|none=>undef) S
  cases t.get i<;>rfl
 |const v=>exact hE (evW (.const v))
 |global g=>exact hE (evW (.global g))
 |func f=>exact hE (evW (.func f))
theorem pickW_eq(c a b:Operand):Eqv P (.pick c a b) (pickW (evW c) (evW a) (evW b)):=by
 intro ih t S ok pan
 rw[useR_read rfl]
 cases hc:evW c with|mk f =>
 cases ha:evW a with|mk g =>
 cases hb:evW b with|mk h =>
 show pickF f g h ih t S ok pan=_
 unfold pickF
 rw[withO_eq,asBoolF_eq,evW_get hc,evW_get ha,evW_get hb]
 simp only[readOp,pureOp]
 cases evT t c<;>first
  |rfl
  |(rename_i x;cases x<;>rfl)
theorem loadW_eq(ty:TypeId)(x:Operand):Eqv P (.load ty x) (loadW P ty x):=by
 intro ih t S ok pan
 rw[useR_read rfl]
 unfold loadW
 cases hx:evW x with|mk g =>
 have hg:=evW_get hx t
 simp only[readOp,loadV]
 cases ha:aggOf P ty with
 |none =>
  have e:loadW1 (none:Option Bool) (szOf P ty) ⟨g⟩=⟨noOp⟩:=rfl
  rw[e]
  show none=_
  split
  ·rename_i v hv
   split at hv
   ·split at hv
    ·simp[partL,ha]at hv
    cases hv
   cases hv
  rfl
 |some y =>
  cases y with
  |true =>
   cases hn:szOf P ty with
   |none =>
    have e:loadW1 (some true) none ⟨g⟩=⟨noOp⟩:=rfl
    rw[e]
    show none=_
    split
    ·rename_i v hv
     split at hv
     ·split at hv
      ·simp[partL,ha,hn]at hv
      cases hv
     cases hv
    rfl
   |some n =>
    show loadAgg n g ih t S ok pan=_
    unfold loadAgg
    rw[with2_eq,asPtrF_eq,hg]
    cases evT t x<;>try rfl
    rename_i a
    cases a with
    |none=>rfl
    |some a =>
     obtain⟨b,o,p⟩:=a
     cases p with
     |some p=>rfl
     |none =>
      simp only[addrOf]
      unfold loadAggK
      rw[withO_eq,hget_eq]
      cases hb:S.get b with
      |none=>rfl
      |some B =>
       cases B<;>try rfl
       simp only[cellsOfB,withO_eq,partL,ha,hn]
       cases takeN n (dropN o _)<;>rfl
  |false =>
   have e:loadW1 (some false) (szOf P ty) ⟨g⟩=⟨loadOne g⟩:=by cases szOf P ty<;>rfl
   rw[e]
   show loadOne g ih t S ok pan=_
   unfold loadOne
   rw[with2_eq,asPtrF_eq,hg]
   cases evT t x<;>try rfl
   rename_i a
   cases a with
   |none=>rfl
   |some a =>
    obtain⟨b,o,p⟩:=a
    cases p with
    |some p=>rfl
    |none =>
     simp only[addrOf]
     unfold loadOneK
     rw[withO_eq,hget_eq]
     cases hb:S.get b with
     |none=>rfl
     |some B =>
      cases B<;>try rfl
      simp only[cellsOfB,withO_eq,partL,ha]
      cases nth _ o<;>rfl
theorem ptr_none{x:Value}{k:Nat→Nat→Res3}(h:∀b o,x≠ .pointer (some ⟨b,o,none⟩)):with2 (asPtrF x) k=none:=by
 rw[with2_eq,asPtrF_eq]
 cases x<;>try rfl
 rename_i a
 cases a with
 |none=>rfl
 |some a =>
  obtain⟨b,o,p⟩:=a
  cases p with
  |some p=>rfl
  |none=>exact absurd rfl (h b o)
theorem ptr_some(b o:Nat)(k:Nat→Nat→Res3):with2 (asPtrF (.pointer (some ⟨b,o,none⟩))) k=k b o:=rfl
theorem fieldAddrW_eq(s:TypeId)(x:Operand)(i:Nat):Eqv P (.fieldAddr s x i) (fieldAddrW P s x i):=by
 intro ih t S ok pan
 rw[useR_read rfl]
 have hno:∀(h:fieldAddrV P s (evT t x) i=none),(noOp ih t S ok pan)=match readOp P (evT t) (.fieldAddr s x i) S with|some v=>ok v S|none=>none:=by
  intro h;simp only[readOp,pureOp,h];rfl
 unfold fieldAddrW
 split
 ·rename_i fields hu
  split
  ·rename_i f hf
   split
   ·rename_i m hsz
    cases hx:evW x with|mk g =>
    have hg:=evW_get hx t
    show fieldAddrF f.offset g ih t S ok pan=_
    unfold fieldAddrF
    rw[hg]
    simp only[readOp,pureOp,fieldAddrV,hu]
    cases hv:evT t x
    case pointer a =>
     cases a with
     |none=>rfl
     |some a =>
      obtain⟨b,o,p⟩:=a
      cases p with
      |some p=>rfl
      |none=>simp only[hf,hsz];rfl
    all_goals rfl
   rename_i hne
   refine hno ?_
   simp only[fieldAddrV,hu]
   split
   ·rename_i h1 h2;cases h1
    simp only[hf]
    first
     |done
     |(cases hm:szOf P f.type with
      |none=>rfl
      |some m =>
       cases m with
       |zero=>rfl
       |succ m=>exact absurd hm (hne m))
   rfl
  rename_i hf
  refine hno ?_
  simp only[fieldAddrV,hu]
  split
  ·rename_i h1 h2;cases h1;simp[hf]
  rfl
 rename_i hne
 refine hno ?_
 unfold fieldAddrV
 split
 ·rename_i h1 _;exact absurd h1 (hne _)
 rfl
end
section
variable{P:Program}
theorem idxK_eq(n:Int)(len:Nat)(k:Nat→Res3):idxK n len k=if 0≤n∧n<len then k n.toNat else none:=by
 cases n with
 |ofNat i =>
  show Bool.rec (motive:=fun _=>Res3) none (k i) (Nat.blt i len)=_
  rw[PT.blt_iff]
  by_cases h:i<len
  ·rw[decide_eq_true h,if_pos ⟨by show(0:Int)≤(i:Int);omega,by show(i:Int)<_;omega⟩];rfl
  rw[decide_eq_false h,if_neg (fun e=>h (by have:(i:Int)<_:=e.2;omega))]
 |negSucc i =>
  show none=_
  rw[if_neg (fun e=>by have:=e.1;omega)]
theorem indexAddrW_eq(ty:TypeId)(x i:Operand):Eqv P (.indexAddr ty x i) (indexAddrW P ty x i):=by
 intro ih t S ok pan
 rw[useR_read rfl]
 have hno:∀(h:indexAddrV P ty (evT t x) (evT t i)=none),(noOp ih t S ok pan)=match readOp P (evT t) (.indexAddr ty x i) S with|some v=>ok v S|none=>none:=by
  intro h;simp only[readOp,pureOp,h];rfl
 unfold indexAddrW
 split
 ·rename_i len elem hu
  split
  ·rename_i n hn
   cases hx:evW x with|mk g =>
   cases hi:evW i with|mk h =>
   show indexArrF len n g h ih t S ok pan=_
   unfold indexArrF
   rw[evW_get hx,evW_get hi,with2_eq,asIntF_eq]
   simp only[readOp,pureOp,indexAddrV,hu]
   cases evT t i<;>try rfl
   rename_i k m
   simp only
   cases hv:evT t x
   case pointer a =>
    cases a with
    |none=>rfl
    |some a =>
     obtain⟨b,o,p⟩:=a
     cases p with
     |some p=>rfl
     |none =>
      rw[ptr_some,idxK_eq]
      simp only[hn]
      by_cases hc:0≤m∧m<len
      ·rw[if_pos hc,if_pos hc];rfl
      rw[if_neg hc,if_neg hc]
   all_goals rfl
  rename_i hn
  refine hno ?_
  simp only[indexAddrV,hu]
  split
  ·split
   ·rename_i h1 _;cases h1;simp[hn]
   ·rename_i h1 _;cases h1
   rfl
  rfl
 ·rename_i elem hu
  split
  ·rename_i n hn
   cases hx:evW x with|mk g =>
   cases hi:evW i with|mk h =>
   show indexSliceF n g h ih t S ok pan=_
   unfold indexSliceF
   rw[evW_get hx,evW_get hi,with2_eq,asIntF_eq]
   simp only[readOp,pureOp,indexAddrV,hu]
   cases evT t i<;>try rfl
   rename_i k m
   simp only[with3_eq,asSliceF_eq]
   cases hv:evT t x
   case slice a len cap =>
    cases a with
    |none=>rfl
    |some a =>
     obtain⟨b,o,p⟩:=a
     cases p with
     |some p=>rfl
     |none =>
      simp only[sliceOf,idxK_eq,hn]
      by_cases hc:0≤m∧m<len
      ·rw[if_pos hc,if_pos hc];rfl
      rw[if_neg hc,if_neg hc]
   all_goals rfl
  rename_i hn
  refine hno ?_
  simp only[indexAddrV,hu]
  split
  ·split
   ·rename_i h1 _;cases h1
   ·rename_i h1 _;cases h1;simp[hn]
   rfl
  rfl
 rename_i h1 h2
 refine hno ?_
 unfold indexAddrV
 split
 ·split
  ·rename_i h3 _;exact absurd h3 (h1 _ _)
  ·rename_i h3 _;exact absurd h3 (h2 _)
  rfl
 rfl
theorem notW_eq(ty:TypeId)(x:Operand):Eqv P (.unOp .not ty x) (notW (evW x)):=by
 intro ih t S ok pan
 rw[useR_read rfl]
 cases hx:evW x with|mk g =>
 show notF g ih t S ok pan=_
 unfold notF
 rw[withO_eq,asBoolF_eq,evW_get hx]
 simp only[readOp,pureOp]
 cases evT t x<;>rfl
theorem extractW_eq(x:Operand)(i:Nat):Eqv P (.extract x i) (extractW i (evW x)):=by
 intro ih t S ok pan
 rw[useR_read rfl]
 cases hx:evW x with|mk g =>
 show extractF i g ih t S ok pan=_
 unfold extractF
 rw[withO_eq,asTupF_eq,evW_get hx]
 simp only[readOp,pureOp]
 cases evT t x<;>try rfl
 simp only[withO_eq]
 cases nth _ i<;>rfl
theorem newF_eq(x:Blk)(S:St)(ok:OkK):newF x S ok=ok (ptrTo S.size 0) ⟨S.heap.set S.size (some x),S.size+1⟩:=by
 unfold newF
 have h:∀n,newAt S.heap x ok n=ok (ptrTo n 0) ⟨S.heap.set n (some x),n+1⟩:=fun n=>by
  unfold newAt;rw[hset_eq]
 cases hs:S.size with
 |zero=>exact h 0
 |succ m=>exact h (m+1)
theorem allocW_eq(e:TypeId):Eqv P (.alloc e) (allocW (zeroOf P e) e):=by
 intro ih t S ok pan
 rw[useR_new rfl]
 simp only[newOp]
 cases zeroOf P e with
 |none=>rfl
 |some z =>
  show newF _ S ok=_
  rw[newF_eq];rfl
theorem boxW_eq(e:TypeId)(x:Operand):Eqv P (.box e x) (boxW e (evW x)):=by
 intro ih t S ok pan
 rw[useR_new rfl]
 cases hx:evW x with|mk g =>
 show boxF e g ih t S ok pan=_
 unfold boxF
 rw[newF_eq,cellsF_eq,evW_get hx]
 rfl
theorem withOmap{f:Option Value}{S:St}{ok:OkK}:(withO f fun v=>ok v S)=match f with|some v=>ok v S|none=>none:=by cases f<;>rfl
theorem mapE_eq(ρ:Operand→Value)(l:List (Nat×Operand)):mapE ρ l=partsV ρ l:=by
 induction l with
 |nil=>rfl
 |cons x r ih=>simp only[mapE,partsV,List.map_cons]at *;rw[ih]
theorem mapO_eq(ρ:Operand→Value)(l:List Operand):mapO ρ l=l.map ρ:=by
 induction l with
 |nil=>rfl
 |cons x r ih=>simp only[mapO,List.map_cons,ih]
theorem pureK_eq{op:Op}{f:(Operand→Value)→Option Value}(hk:kindOf op= .read)(h:∀ρ S,readOp P ρ op S=f ρ):Eqv P op ⟨pureK f⟩:=by
 intro ih t S ok pan
 rw[useR_read hk,h]
 show(withO (f (evA t)) fun v=>ok v S)=_
 rw[evA_eq]
 first|(rw[withOmap];done)|(rw[withOmap];cases f (evT t)<;>rfl)
theorem readK_eq{op:Op}{f:(Operand→Value)→St→Option Value}(hk:kindOf op= .read)(h:∀ρ S,readOp P ρ op S=f ρ S):Eqv P op ⟨readK f⟩:=by
 intro ih t S ok pan
 rw[useR_read hk,h]
 show(withO (f (evA t) S) fun v=>ok v S)=_
 rw[evA_eq]
 first|(rw[withOmap];done)|(rw[withOmap];cases f (evT t) S<;>rfl)
theorem newK_eq{op:Op}{f:(Operand→Value)→St→Option (Value×St)}(h:∀ih ρ S,stepOp P ih ρ op S=match f ρ S with|some (v,S')=>some (.val v,S')|none=>none):Eqv P op ⟨newK f⟩:=by
 intro ih t S ok pan
 rw[h]
 show with2 (f (evA t) S) ok=_
 rw[evA_eq,with2_eq]
 cases f (evT t) S<;>rfl
theorem binW_eq(op:BinOp)(ty:TypeId)(x y:Operand)(yt:TypeId):Eqv P (.binOp op ty x y yt) (binW P op ty x y yt):=by
 intro ih t S ok pan
 unfold binW
 cases hx:evW x with|mk g =>
 cases hy:evW y with|mk h =>
 have hg:=evW_get hx t
 have hh:=evW_get hy t
 cases hf:binFn op with
 |none=>rfl
 |some f =>
  show binK1 f (slowF P (.binOp op ty x y yt) ih t S ok pan) S ok (asIntF (g t)) (asIntF (h t))=_
  rw[hg,hh,asIntF_eq,asIntF_eq]
  have hslow:slowF P (.binOp op ty x y yt) ih t S ok pan=useR (stepOp P ih (evT t) (.binOp op ty x y yt) S) ok pan:=rfl
  rw[←hslow]
  cases hvx:evT t x<;>try rfl
  rename_i k a
  cases hvy:evT t y<;>try rfl
  rename_i k' b
  show Bool.rec (motive:=fun _=>Res3) none (ok (f k a b) S) (sameK k k')=_
  rw[hslow,useR_read rfl,sameK_eq]
  simp only[readOp,pureOp,hvx,hvy]
  by_cases hk:k=k'
  ·subst hk
   rw[decide_eq_true rfl]
   show ok (f k a b) S=_
   cases op<;>simp only[binFn,reduceCtorEq,Option.some.injEq]at hf<;>subst hf <;>
    simp only[binV,if_true,intBin,addI,subI,mulI,eqlI,neqI,lssI,leqI,gtrI,geqI,wrapF_eq,eqI_eq,ltI_eq]<;>first
     |rfl
     |(congr 2;simp only[bne];done)
     |(congr 2;rw[←decide_not];exact decide_eq_decide.2 (by omega))
  rw[decide_eq_false hk]
  show none=_
  cases op<;>simp only[binFn,reduceCtorEq]at hf<;>simp only[binV,if_neg hk]
theorem storeW_eq(ty:TypeId)(a x:Operand):Eqv P (.store ty a x) (storeW (szOf P ty) (slowF P (.store ty a x)) (evW a) (evW x)):=by
 intro ih t S ok pan
 have hst:∀ρ,stepOp P ih ρ (.store ty a x) S=match storeV P ty (ρ a) (ρ x) S with|some S'=>some (.val undef,S')|none=>none:=by
  intro ρ
  simp only[stepOp,kindOf,heavyOp]
  cases storeV P ty (ρ a) (ρ x) S<;>rfl
 cases hn:szOf P ty with
 |none =>
  rw[hst]
  have:storeV P ty (evT t a) (evT t x) S=none:=by
   unfold storeV
   split
   ·simp[hn]
   rfl
  rw[this]
  rfl
 |some n =>
  cases ha:evW a with|mk g =>
  cases hx:evW x with|mk h =>
  show(with2 (asPtrF (g t)) fun b o=>storeK n S b o (cellsF (h t)) (slowF P (.store ty a x) ih t S ok pan) ok)=_
  rw[evW_get ha,evW_get hx,cellsF_eq]
  by_cases hp:∃b o,evT t a= .pointer (some ⟨b,o,none⟩)
  ·obtain⟨b,o,hp⟩:=hp
   rw[hp,ptr_some]
   unfold storeK
   have hslow:slowF P (.store ty a x) ih t S ok pan=useR (stepOp P ih (evT t) (.store ty a x) S) ok pan:=rfl
   cases hc:(Nat.beq (cellsL (evT t x)).length n&&(cellsL (evT t x)).all cellV&&Nat.blt 0 (cellsL (evT t x)).length)with
   |false =>
    show none=_
    rw[hst,hp]
    simp only[storeV,hn]
    cases hb:Nat.beq (cellsL (evT t x)).length n with
    |false=>rfl
    |true =>
     rw[hb,Bool.true_and]at hc
     simp only[cond_true,writeCells]
     split
     ·rename_i hx;split at hx
      ·simp only[hc,cond_false]at hx;cases hx
      cases hx
     rfl
   |true =>
    show writeB S b o _ _ ok (hget S b)=_
    rw[hget_eq]
    simp only[Bool.and_eq_true]at hc
    have hc2:((cellsL (evT t x)).all cellV&&Nat.blt 0 (cellsL (evT t x)).length)=true:=by rw[hc.1.2,hc.2];rfl
    unfold writeB
    split
    ·rename_i c e row hb
     rw[hst,hp]
     simp only[storeV,hn,hc.1.1,cond_true,writeCells,hb,hc2,withO_eq]
     cases setN o (cellsL (evT t x)) c with
     |none=>rfl
     |some c' =>
      simp only[hset_eq]
      rfl
    exact hslow
  have hne:∀b o,evT t a≠ .pointer (some ⟨b,o,none⟩):=fun b o e=>hp ⟨b,o,e⟩
  rw[ptr_none hne,hst]
  have:storeV P ty (evT t a) (evT t x) S=none:=by
   unfold storeV
   split
   ·rename_i b o he;exact absurd he (hne b o)
   rfl
  rw[this];rfl
theorem argsOf_eq(l:List Operand)(t:Tm):argsOf (getsOf l) t=l.map (evT t):=by
 induction l with
 |nil=>rfl
 |cons x r ih=>simp only[getsOf,argsOf,List.map_cons,ih,evW_eq]
theorem endR_eq{r:Option (Ending×St)}{ok:OkK}{pan:PanK}:endR r ok pan=useR (match r with
  |some (.returned v,S')=>some (OpR.val v,S')
  |some (.panicked ch,S')=>some (.pan ch,S')
  |_=>none) ok pan:=by
 cases r with
 |none=>rfl
 |some x=>obtain⟨e,S⟩:=x;cases e<;>rfl
theorem callW_eq(c:Call)(hb:∀b,c.callee≠ .builtin b):Eqv P (.call c) (callW P c (.call c)):=by
 intro ih t S ok pan
 unfold callW
 split
 ·rename_i f hc
  show endR (ih.call (.fn (.func f) #[]) (argsOf (getsOf c.args.toList) t) S) ok pan=_
  rw[endR_eq,argsOf_eq]
  obtain⟨callee,args,ts⟩:=c
  simp only at hc
  subst hc
  rfl
 rfl
theorem callW2_eq(c:Call):Eqv P (.call c) (callW2 P c (.call c)):=by
 obtain⟨callee,args,ts⟩:=c
 cases callee with
 |invoke r name=>exact callW_eq _ (fun b=>by simp)
 |value f=>exact callW_eq _ (fun b=>by simp)
 |builtin b =>
  show Eqv P _ (builtinW P b args.toList ts.toList (.call ⟨.builtin b,args,ts⟩))
  have hnew:kindOf (.call ⟨.builtin b,args,ts⟩)= .heavy→Eqv P (.call ⟨.builtin b,args,ts⟩) ⟨newK (builtinO P b ts.toList args.toList)⟩:=by
   intro hk
   refine newK_eq fun ih ρ S=>?_
   unfold stepOp
   rw[hk]
   simp only[builtinO,mapO_eq]
   cases builtinV P b ts.toList (List.map ρ args.toList) S<;>rfl
  cases b
  case len =>
   unfold builtinW
   split
   ·rename_i x t rest _ ha ht
    refine readK_eq rfl fun ρ S=>?_
    simp only[readOp,ha,ht]
    rfl
   ·exact slow_eq _
   rename_i h1 h2;exact absurd rfl h1
  all_goals exact hnew rfl
theorem opW_eq(op:Op):Eqv P op (opW P op):=by
 cases op
 case move x=>intro ih t S ok pan;rw[useR_read rfl];exact moveW_eq x ih t S ok pan
 case assign x=>intro ih t S ok pan;rw[useR_read rfl];exact moveW_eq x ih t S ok pan
 case pick c a b=>exact pickW_eq c a b
 case load t x=>exact loadW_eq t x
 case fieldAddr s x i=>exact fieldAddrW_eq s x i
 case indexAddr t x i=>exact indexAddrW_eq t x i
 case binOp o t x y yt=>exact binW_eq o t x y yt
 case unOp o t x=>cases o<;>first|exact notW_eq t x|exact slow_eq _
 case extract x i=>exact extractW_eq x i
 case alloc e=>exact allocW_eq e
 case box e x=>exact boxW_eq e x
 case store t a x=>exact storeW_eq t a x
 case build t parts=>exact pureK_eq rfl (fun ρ S=>by simp only[readOp,pureOp,buildO,mapE_eq])
 case nilCheck x=>exact pureK_eq rfl (fun ρ S=>rfl)
 case field t x i=>exact pureK_eq rfl (fun ρ S=>rfl)
 case index t x i=>exact pureK_eq rfl (fun ρ S=>rfl)
 case slice t x lo hi mx=>exact readK_eq rfl (fun ρ S=>rfl)
 case buildSlice t len parts=>exact newK_eq (fun ih ρ S=>rfl)
 case call c=>exact callW2_eq c
 all_goals exact slow_eq _
end
section
variable{P:Program}
def putS(n:Nat)(t:Tm)(dst:Option Tmp)(v:Value)(k:Tm→Res3):Res3:=match Ca.put ⟨n,t,[]⟩ dst v with
 |some a'=>k a'.t
 |none=>none
theorem putS_eq(n:Nat)(t:Tm)(df:List Deferred)(dst:Option Tmp)(v:Value)(k:Ca→Res3):(match Ca.put ⟨n,t,df⟩ dst v with
 |some a'=>k a'
 |none=>none)=putS n t dst v fun t'=>k ⟨n,t',df⟩:=by
 unfold putS Ca.put
 cases dst with
 |none=>rfl
 |some d =>
  simp only
  cases Nat.blt d n<;>rfl
theorem plainW_eq(dst:Option Tmp)(f:OpK)(ih:Fns)(n:Nat)(t:Tm)(S:St)(k:Tm→St→Res3)(pan:PanK) :
  (plainW dst f).run ih n t S k pan=f ih t S (fun v S'=>putS n t dst v fun t'=>k t' S') pan:=by
 cases dst with
 |none=>rfl
 |some d =>
  unfold plainW
  simp only
  cases hs:(setK 8 d:SW Value 8)with|mk s =>
  show f ih t S (putK s d n t k) pan=_
  congr 1
  funext v S'
  have h:=setK_eq 8 d (some v) t
  rw[hs]at h
  simp only at h
  unfold putK putS Ca.put
  rw[h]
  simp only
  cases Nat.blt d n<;>rfl
theorem plainOp_eq(dst:Option Tmp)(w:OpW):plainOp dst w=plainW dst w.run:=by cases w;rfl
theorem guardW_eq(g:GW Value 8)(w:Bool)(y z:StepW)(ih:Fns)(n:Nat)(t:Tm)(S:St)(k:Tm→St→Res3)(pan:PanK) :
  (guardW g w y z).run ih n t S k pan=bif isB (g.f t) w then y.run ih n t S k pan else z.run ih n t S k pan:=by
 cases g;cases y;cases z
 rename_i g y z
 show Bool.rec (motive:=fun _=>Res3) (z ih n t S k pan) (y ih n t S k pan) (isB (g t) w)=_
 cases isB (g t) w<;>rfl
theorem stepW_eq(full:List Oper)(o:Oper)(ih:Fns)(n:Nat)(t:Tm)(df:List Deferred)(S:St)(k:Tm→St→Res3)(pan:PanK) :
  (stepW P full o).run ih n t S k pan=bif wantedC full ⟨n,t,df⟩ o then useR (stepOp P ih (evT t) o.op S) (fun v S'=>putS n t o.dst v fun t'=>k t' S') pan else putS n t o.dst undef fun t'=>k t' S:=by
 have hpl:(plainOp o.dst (opW P o.op)).run ih n t S k pan=useR (stepOp P ih (evT t) o.op S) (fun v S'=>putS n t o.dst v fun t'=>k t' S') pan:=by
  rw[plainOp_eq,plainW_eq,opW_eq]
 have hun:(plainW o.dst undefF).run ih n t S k pan=putS n t o.dst undef fun t'=>k t' S:=by
  rw[plainW_eq];rfl
 unfold stepW wantedC
 cases hg:o.guard with
 |none=>exact hpl
 |some q =>
  obtain⟨j,w⟩:=q
  simp only
  cases hj:nth full j with
  |none=>exact hun
  |some oj =>
   simp only
   cases hd:oj.dst with
   |none=>exact hun
   |some d =>
    simp only
    rw[guardW_eq,getK_eq,hpl,hun]
    rfl
theorem runC_eq(full:List Oper)(ih:Fns)(n:Nat)(df:List Deferred):∀(l:List Oper) (t:Tm) (S:St),runC ih n df (compL P full l) t S=runOps P ih full l ⟨n,t,df⟩ S
 | [],t,S=>rfl
 |o::l,t,S=>by
  have e1:compL P full (o::l)=stepW P full o::compL P full l:=rfl
  have e2:∀(w:StepW) (r:List StepW),runC ih n df (w::r) t S=w.run ih n t S (runC ih n df r) (panA n t df):=fun w r=>by cases w;rfl
  rw[e1,e2,stepW_eq (df:=df)]
  unfold runOps
  have hk:runC ih n df (compL P full l)=fun t S=>runOps P ih full l ⟨n,t,df⟩ S:=by funext t S;exact runC_eq full ih n df l t S
  rw[hk,ca_ev]
  cases wantedC full ⟨n,t,df⟩ o with
  |false =>
   simp only[cond_false]
   exact(putS_eq n t df o.dst undef (fun a=>runOps P ih full l a S)).symm
  |true =>
   simp only[cond_true]
   cases stepOp P ih (evT t) o.op S with
   |none=>rfl
   |some x =>
    obtain⟨r,S'⟩:=x
    cases r with
    |val v =>
     simp only[useR]
     exact(putS_eq n t df o.dst v (fun a=>runOps P ih full l a S')).symm
    |pan ch=>rfl
def entOf(P:Program)(c:Chk)(S:St)(k:Res3):Res3:=bif c.ok P S then k else none
def entsOf(P:Program)(chk:List (Nat×Chk)):List Ent:=chk.map fun x=>(x.1,entOf P x.2)
theorem lookE_eq(op:Op)(hk:kindOf op= .read)(ih:Fns)(n:Nat)(t:Tm)(df:List Deferred)(v:Value):lookE (opW P op).run ih t v=entOf P (.read ⟨n,t,df⟩ op v):=by
 funext S k
 unfold lookE entOf
 rw[opW_eq,useR_read hk]
 simp only[Chk.ok,ca_ev]
 cases readOp P (evT t) op S with
 |none=>rfl
 |some w =>
  simp only
  show Bool.rec (motive:=fun _=>Res3) none k (sameV 100000 v w)=_
  cases sameV 100000 v w<;>rfl
theorem freshE_eq(c:Chk):freshE P c=entOf P c:=by
 funext S k
 unfold freshE entOf
 cases Chk.ok P S c<;>rfl
theorem keepE_eq(b:Nat)(chk:List (Nat×Chk)):keepE b (entsOf P chk)=entsOf P (chk.filter fun x=>!b.testBit x.1):=by
 induction chk with
 |nil=>rfl
 |cons x r ih =>
  have e:entsOf P (x::r)=(x.1,entOf P x.2)::entsOf P r:=rfl
  rw[e]
  unfold keepE
  simp only[List.filter_cons]
  cases hb:b.testBit x.1 with
  |true=>simpa using ih
  |false=>simp only[cond_false,Bool.not_false,if_true];rw[ih];rfl
theorem allE_eq(S:St)(k:Res3)(chk:List (Nat×Chk)):allE S k (entsOf P chk)=bif chk.all (fun x=>x.2.ok P S)then k else none:=by
 induction chk with
 |nil=>rfl
 |cons x r ih =>
  have e:allE S k (entsOf P (x::r))=entOf P x.2 S (allE S k (entsOf P r)):=rfl
  rw[e,ih]
  unfold entOf
  simp only[List.all_cons]
  cases x.2.ok P S<;>simp
theorem putOf_eq(dst:Option Tmp)(n:Nat)(t:Tm)(v:Value)(k:Tm→Res3):putOf dst n t v k=putS n t dst v k:=by
 cases dst with
 |none=>rfl
 |some d =>
  unfold putOf
  simp only
  cases hs:(setK 8 d:SW Value 8)with|mk s =>
  have h:=setK_eq 8 d (some v) t
  rw[hs]at h
  simp only at h
  show putD s d n t v k=_
  unfold putD putS Ca.put
  rw[h]
  simp only
  cases Nat.blt d n<;>rfl
theorem runPl_cons(w:PlW)(r:List PlW)(ih:Fns)(n:Nat)(df:List Deferred)(e:List Ent)(t:Tm)(S:St):runPl ih n df (w::r) e t S=w.run ih n df t S e (runPl ih n df r):=by cases w;rfl
theorem runPl_eq(full:List Oper)(bef:List Nat)(ih:Fns)(n:Nat)(df:List Deferred):∀(l:List (Oper×Nat)) (chk:List (Nat×Chk)) (t:Tm) (S:St),
  runPl ih n df (compP P full bef l) (entsOf P chk) t S=runPlan P ih full bef l chk ⟨n,t,df⟩ S
 | [],chk,t,S=>rfl
 |(o,i)::l,chk,t,S=>by
  have e1:compP P full bef ((o,i)::l)=plOpW P full ((nth bef i).getD 0) o i (opW P o.op)::compP P full bef l:=rfl
  rw[e1,runPl_cons]
  generalize hr:runPl ih n df (compP P full bef l)=rest
  have hrest:∀chk t S,rest (entsOf P chk) t S=runPlan P ih full bef l chk ⟨n,t,df⟩ S:=fun chk t S=>by rw[←hr];exact runPl_eq full bef ih n df l chk t S
  have hun:plPlain (putOf o.dst) undefF ih n df t S (entsOf P chk) rest=putS n t o.dst undef fun t'=>runPlan P ih full bef l chk ⟨n,t',df⟩ S:=by
   show putOf o.dst n t undef (fun t'=>rest (entsOf P chk) t' S)=_
   rw[putOf_eq]
   simp only[hrest]
  have hop:plOp P ((nth bef i).getD 0) o i (opW P o.op).run ih n df t S (entsOf P chk) rest=(match kindOf o.op with
   | .read=>match readOp P (evT t) o.op S with
    |some v=>match Ca.put ⟨n,t,df⟩ o.dst v with
     |some a'=>runPlan P ih full bef l (bif looks o.op then(i,.read ⟨n,t,df⟩ o.op v)::chk else chk) a' S
     |none=>none
    |none=>none
   | .fresh=>match newOp P (evT t) o.op S with
    |some (v,S')=>match Ca.put ⟨n,t,df⟩ o.dst v,chkOf S' S.size,S.get S.size with
     |some a',some c,none=>runPlan P ih full bef l ((i,c)::chk) a' S'
     |_,_,_=>none
    |none=>none
   | .heavy=>match stepOp P ih (evT t) o.op S with
    |some (.val v,S')=>match Ca.put ⟨n,t,df⟩ o.dst v with
     |some a' =>
      let rest:=chk.filter fun x=>!((nth bef i).getD 0).testBit x.1
      bif rest.all fun x=>x.2.ok P S' then runPlan P ih full bef l rest a' S' else none
     |none=>none
    |_=>none):=by
   unfold plOp
   cases hk:kindOf o.op with
   |read =>
    simp only
    cases hl:looks o.op with
    |false =>
     show(opW P o.op).run ih t S (fun v S'=>putOf o.dst n t v fun t'=>rest (entsOf P chk) t' S') noPan=_
     rw[opW_eq,useR_read hk]
     cases readOp P (evT t) o.op S with
     |none=>rfl
     |some v =>
      simp only[putOf_eq,hrest,cond_false]
      exact(putS_eq n t df o.dst v (fun a=>runPlan P ih full bef l chk a S)).symm
    |true =>
     show(opW P o.op).run ih t S (fun v S'=>putOf o.dst n t v fun t'=>rest ((i,lookE (opW P o.op).run ih t v)::entsOf P chk) t' S') noPan=_
     rw[opW_eq,useR_read hk]
     cases readOp P (evT t) o.op S with
     |none=>rfl
     |some v =>
      simp only[putOf_eq,lookE_eq o.op hk ih n t df v,cond_true]
      have e2:(i,entOf P (.read ⟨n,t,df⟩ o.op v))::entsOf P chk=entsOf P ((i,.read ⟨n,t,df⟩ o.op v)::chk):=rfl
      simp only[e2,hrest]
      exact(putS_eq n t df o.dst v (fun a=>runPlan P ih full bef l ((i,.read ⟨n,t,df⟩ o.op v)::chk) a S)).symm
   |fresh =>
    simp only
    show(opW P o.op).run ih t S (fun v S'=>putOf o.dst n t v fun t'=>withO (chkOf S' S.size) fun c=>Option.rec (motive:=fun _=>Res3) (rest ((i,freshE P c)::entsOf P chk) t' S') (fun _=>none) (hget S S.size)) noPan=_
    rw[opW_eq,useR_new hk]
    cases newOp P (evT t) o.op S with
    |none=>rfl
    |some x =>
     obtain⟨v,S'⟩:=x
     simp only[putOf_eq,freshE_eq,hget_eq]
     have e2:∀c,(i,entOf P c)::entsOf P chk=entsOf P ((i,c)::chk):=fun _=>rfl
     simp only[e2,hrest]
     cases hck:chkOf S' S.size with
     |none =>
      refine(putS_eq n t df o.dst v (fun a=>none)).symm.trans ?_
      cases Ca.put ⟨n,t,df⟩ o.dst v<;>rfl
     |some c =>
      cases hg:S.get S.size with
      |none =>
       refine(putS_eq n t df o.dst v (fun a=>runPlan P ih full bef l ((i,c)::chk) a S')).symm.trans ?_
       cases Ca.put ⟨n,t,df⟩ o.dst v<;>rfl
      |some B =>
       refine(putS_eq n t df o.dst v (fun a=>none)).symm.trans ?_
       cases Ca.put ⟨n,t,df⟩ o.dst v<;>rfl
   |heavy =>
    simp only
    show(opW P o.op).run ih t S (fun v S'=>putOf o.dst n t v fun t'=>allE S' (rest (keepE ((nth bef i).getD 0) (entsOf P chk)) t' S') (keepE ((nth bef i).getD 0) (entsOf P chk))) noPan=_
    rw[opW_eq]
    cases stepOp P ih (evT t) o.op S with
    |none=>rfl
    |some x =>
     obtain⟨r,S'⟩:=x
     cases r with
     |pan ch=>rfl
     |val v =>
      simp only[useR,putOf_eq,keepE_eq,allE_eq,hrest]
      exact(putS_eq n t df o.dst v (fun a=>bif (chk.filter fun x=>!((nth bef i).getD 0).testBit x.1).all (fun x=>x.2.ok P S')then runPlan P ih full bef l (chk.filter fun x=>!((nth bef i).getD 0).testBit x.1) a S' else none)).symm
  have hrun:∀w:OpW,(plOpW P full ((nth bef i).getD 0) o i w).run ih n df t S (entsOf P chk) rest =
    bif wantedC full ⟨n,t,df⟩ o then plOp P ((nth bef i).getD 0) o i w.run ih n df t S (entsOf P chk) rest else plPlain (putOf o.dst) undefF ih n df t S (entsOf P chk) rest:=by
   intro w
   cases w with|mk f =>
   unfold plOpW wantedC
   simp only
   cases hg:o.guard with
   |none=>rfl
   |some q =>
    obtain⟨j,w⟩:=q
    simp only
    cases hj:nth full j with
    |none=>rfl
    |some oj =>
     simp only
     cases hd:oj.dst with
     |none=>rfl
     |some d =>
      simp only
      have hG:∀g:GW Value 8,(plGuardW g w (plOp P ((nth bef i).getD 0) o i f) (plPlain (putOf o.dst) undefF)).run ih n df t S (entsOf P chk) rest =
        bif isB (g.f t) w then plOp P ((nth bef i).getD 0) o i f ih n df t S (entsOf P chk) rest else plPlain (putOf o.dst) undefF ih n df t S (entsOf P chk) rest:=by
       intro g
       cases g with|mk g =>
       show Bool.rec (motive:=fun _=>Res3) _ _ (isB (g t) w)=_
       cases hb:isB (g t) w<;>rfl
      rw[hG,getK_eq]
      rfl
  rw[hrun,hop,hun]
  conv=>rhs;unfold runPlan
  simp only[ca_ev]
  cases wantedC full ⟨n,t,df⟩ o with
  |false =>
   simp only[cond_false]
   exact(putS_eq n t df o.dst undef (fun a=>runPlan P ih full bef l chk a S)).symm
  |true=>rfl
theorem codeW_eq(ih:Fns)(ro:Option Nat)(code:Code)(a:Ca)(S:St):(codeW P code).run ih ro a S=execF P ih ro code a S:=by
 cases code with
 |skip=>rfl
 |label l=>rfl
 |exit id=>rfl
 |ret=>rfl
 |seq x y=>rfl
 |loop c=>rfl
 |block id c=>rfl
 |scope c=>rfl
 |rangeFunc f ps x y=>rfl
 |goto l=>rfl
 |refuse r=>rfl
 |cond c x y =>
  show(condW (evW c) x y).run ih ro a S=_
  cases hc:evW c with|mk g =>
  show condK (ih.exec ro x a S) (ih.exec ro y a S) (asBoolF (g a.t))=_
  unfold condK
  obtain⟨n,t,df⟩:=a
  rw[withO_eq,asBoolF_eq,evW_get hc]
  simp only[execF,ca_ev]
  cases evT t c<;>try rfl
  rename_i b
  cases b<;>rfl
 |region id ops draw =>
  show(regionW P ops.toList draw).run ih ro a S=_
  unfold regionW
  simp only[execF]
  cases constsOk P ops.toList with
  |false=>rfl
  |true =>
   simp only[cond_true]
   obtain⟨n,t,df⟩:=a
   cases draw with
   |false=>exact runC_eq _ _ _ _ _ _ _
   |true =>
    show(drawW P ops.toList (planW ops.toList)).run ih ro ⟨n,t,df⟩ S=runDraw P ih ops.toList ⟨n,t,df⟩ S
    unfold runDraw
    cases planW ops.toList with
    |none=>rfl
    |some x =>
     obtain⟨bf,pl⟩:=x
     exact runPl_eq ops.toList bf ih n df pl [] t S
theorem execG_eq(ih:Fns):execG P ih=execF P ih:=by
 funext ro code a S
 rw[←codeW_eq]
 show execW (codeW P code) ih ro a S=_
 cases codeW P code;rfl
theorem setArgs_eq:∀(l:List Value) (i:Nat) (t:Tm),setArgs i l t=PT.ofList i t l
 | [],i,t=>rfl
 |v::l,i,t=>by
  have e:setArgs i (v::l) t=setArgs (i+1) l (appS (setK 8 i) (some v) t):=rfl
  rw[e,appS_eq,setK_eq,setArgs_eq l]
  rfl
theorem resG_eq(n:Nat)(t:Tm)(df:List Deferred)(S:St):∀l,resG P t S l=resultsL P ⟨n,t,df⟩ S l
 | []=>rfl
 | .tmp x::l=>by
  unfold resG resultsL
  rw[resG_eq n t df S l,evA_eq]
  rfl
 | .cell x e::l=>by
  unfold resG resultsL
  rw[resG_eq n t df S l,evA_eq]
  rfl
theorem leaveG_eq(rs:List ResultVar)(r:Res3):leaveG P rs r=(match r with
   |some (e,a',S')=>match e with
    | .normal| .ret=>match takeMarks a'.defers S' with
     |some S''=>match resultsL P a' S'' rs with
      |some [v]=>some (.returned v,S'')
      |some vs=>some (.returned (.tuple vs.toArray),S'')
      |none=>none
     |none=>none
    | .panic ch=>match takeMarks a'.defers S' with
     |some S''=>some (.panicked ch,S'')
     |none=>none
    |_=>none
   |none=>none):=by
 cases r with
 |none=>rfl
 |some x =>
  obtain⟨e,⟨n,t,df⟩,S⟩:=x
  have hret:retG P rs t (takeMarks df S)=(match takeMarks df S with
     |some S''=>match resultsL P ⟨n,t,df⟩ S'' rs with
      |some [v]=>some (Ending.returned v,S'')
      |some vs=>some (.returned (.tuple vs.toArray),S'')
      |none=>none
     |none=>none):=by
   cases takeMarks df S with
   |none=>rfl
   |some S2 =>
    show retV S2 (resG P t S2 rs)=_
    rw[resG_eq n t df]
    simp only
    cases resultsL P ⟨n,t,df⟩ S2 rs with
    |none=>rfl
    |some l=>match l with
     | []=>rfl
     | [v]=>rfl
     |_::_::_=>rfl
  cases e with
  |normal=>exact hret
  |ret=>exact hret
  |panic ch =>
   show panG ch (takeMarks df S)=_
   simp only
   cases takeMarks df S<;>rfl
  |exit id=>rfl
  |goto l=>rfl
  |outgrown=>rfl
theorem enterG_eq(K:Known)(ih:Fns)(f:FuncId)(args:List Value)(S:St):enterG P K ih f args S (entW P f)=enterB P K ih f args S:=by
 unfold entW enterB
 cases hf:P.funcs[f]? with
 |none=>rfl
 |some fn =>
  simp only
  cases hb:fn.body with
  |none=>show extG (K.ext f args S)=_;cases K.ext f args S<;>rfl
  |some c =>
   simp only
   cases hn:(fn.name== "runtime.NumGoroutine")with
   |true=>rfl
   |false =>
    simp only[cond_false,Bool.false_or]
    show goG P ih (maxN fn.ntmps args.length) c fn.results.toList args S=_
    unfold goG
    cases Nat.blt 256 (maxN fn.ntmps args.length)with
    |true=>rfl
    |false =>
     simp only[cond_false]
     rw[leaveG_eq,setArgs_eq]
     first
      |rfl
      |(split<;>rfl)
theorem callG_eq(K:Known)(ih:Fns):callG P K ih=callF P K ih:=by
 funext target args S
 unfold callG
 split
 ·rename_i f
  simp only[callF,List.append_nil,enterF,enterG_eq]
  cases K.call f args S<;>rfl
 rfl
theorem fnsG_eq(K:Known):∀n,fnsG P K n=fns P K n
 |0=>rfl
 |n+1=>by
  have e:fnsG P K (n+1)=⟨execG P (fnsG P K n),callG P K (fnsG P K n)⟩:=rfl
  rw[e,execG_eq,callG_eq,fnsG_eq K n]
  rfl
end
end Go.Cm
namespace Go.Cm
open Go
variable{P:Program}{w0:Base}{K:Known}
def dcL(f:DataW Unit→Option (List Value)):List (DataW Unit)→Option (List Value)
 | []=>some []
 |d::r=>match f d,dcL f r with
  |some a,some b=>some (a++b)
  |_,_=>none
def dcS(f:TypeId→DataW Unit→Option (List Value)):List Field→List (DataW Unit)→Option (List Value)
 | [],[]=>some []
 |x::fs,d::r=>match f x.type d,dcS f fs r with
  |some a,some b=>some (a++b)
  |_,_=>none
 |_,_=>none
def contigF(P:Program)(n:Nat):List Field→Nat→Bool
 | [],o=>Nat.beq o n
 |f::r,o=>Nat.beq f.offset o&&contigF P n r (o+P.cellsOf f.type)
def dc(P:Program):Nat→TypeId→DataW Unit→Option (List Value)
 |0,_,_=>none
 |n+1,t,d=>match P.underlying t,d with
  |some .bool,.lit (.bool b)=>some [.bool b]
  |some (.int _),.lit (.int k m)=>some [.int k m]
  |some .string,.lit (.string s)=>some [.string ⟨s.toArray⟩]
  |some (.array m e),.agg l=>bif Nat.beq (P.cellsOf t) (m*P.cellsOf e)then dcL (dc P n e) l else none
  |some (.struct fs),.agg l=>bif contigF P (P.cellsOf t) fs.toList 0 then dcS (dc P n) fs.toList l else none
  |_,_=>none
theorem chunks(z:Nat)(cs:List Value):∀(j k:Nat),cs.length=(k+j)*z→cs.drop (k*z)=(List.range' k j).flatMap fun i=>(cs.drop (i*z)).take z
 |0,k,h=>by
  rw[List.drop_eq_nil_of_le (by rw[h];exact Nat.le_refl _)];rfl
 |j+1,k,h=>by
  rw[List.range'_succ,List.flatMap_cons,←chunks z cs j (k+1) (by rw[h];congr 1;omega)]
  rw[show(k+1)*z=k*z+z from Nat.succ_mul k z,←List.drop_drop,List.take_append_drop]
theorem dcL_sound{f:DataW Unit→Option (List Value)}{g:Nat→Option (DataW Unit×List MemPlace)}{c:Nat→List Value}(hf:∀i d p l,g i=some (d,p)→f d=some l→c i=l) :
  ∀(is:List Nat) (xs:List (DataW Unit×List MemPlace)) (l:List Value),is.mapM g=some xs→dcL f (xs.map (·.1))=some l→is.flatMap c=l
 | [],xs,l,hm,hl=>by
  simp only[List.mapM_nil,Option.pure_def,Option.some.injEq]at hm
  subst hm
  simp only[List.map_nil,dcL,Option.some.injEq]at hl
  subst hl
  rfl
 |i::is,xs,l,hm,hl=>by
  rw[List.mapM_cons]at hm
  obtain⟨y,hy,hm⟩:=Option.mem_bind_iff.1 hm
  obtain⟨ys,hys,hm⟩:=Option.mem_bind_iff.1 hm
  cases hm
  simp only[List.map_cons,dcL]at hl
  split at hl
  ·rename_i a b ha hb
   cases hl
   rw[List.flatMap_cons,dcL_sound hf is ys b hys hb,hf i y.1 y.2 a hy ha]
  cases hl
theorem dcS_sound{f:TypeId→DataW Unit→Option (List Value)}{g:Field→Option (DataW Unit×List MemPlace)}{cs:List Value}(hf:∀x d p l,g x=some (d,p)→f x.type d=some l→(cs.drop x.offset).take (P.cellsOf x.type)=l) :
  ∀(fs:List Field) (o:Nat) (xs:List (DataW Unit×List MemPlace)) (l:List Value),contigF P cs.length fs o=true→fs.mapM g=some xs→dcS f fs (xs.map (·.1))=some l→cs.drop o=l
 | [],o,xs,l,hc,hm,hl=>by
  simp only[List.mapM_nil,Option.pure_def,Option.some.injEq]at hm
  subst hm
  simp only[List.map_nil,dcS,Option.some.injEq]at hl
  subst hl
  rw[of_nbeq hc,List.drop_length]
 |x::fs,o,xs,l,hc,hm,hl=>by
  rw[List.mapM_cons]at hm
  obtain⟨y,hy,hm⟩:=Option.mem_bind_iff.1 hm
  obtain⟨ys,hys,hm⟩:=Option.mem_bind_iff.1 hm
  cases hm
  simp only[contigF,Bool.and_eq_true]at hc
  simp only[List.map_cons,dcS]at hl
  split at hl
  ·rename_i a b ha hb
   cases hl
   rw[←dcS_sound hf fs _ ys b hc.2 hys hb,←hf x y.1 y.2 a hy ha,of_nbeq hc.1,←List.drop_drop,List.take_append_drop]
  cases hl
theorem dc_sound{w:World}{base:Nat}{sp:Nat→Bool}{held:Bool}:∀(n:Nat) (t:TypeId) (d:DataW Unit) (l cs:List Value) (fuel:Nat) (p:List MemPlace),
  DataW.trod (fun _=>()) P w base sp held fuel t cs=some (d,p)→dc P n t d=some l→cs=l
 |0,t,d,l,cs,fuel,p,h,hl=>by cases hl
 |n+1,t,d,l,cs,0,p,h,hl=>by simp[DataW.trod]at h
 |n+1,t,d,l,cs,fuel+1,p,h,hl=>by
  unfold dc at hl
  split at hl
  ·rename_i b hu
   cases hl
   simp only[DataW.trod,hu]at h
   split at h<;>simp_all
  ·rename_i k m hu
   cases hl
   simp only[DataW.trod,hu]at h
   split at h<;>simp_all
  ·rename_i s hu
   cases hl
   simp only[DataW.trod,hu]at h
   split at h<;>simp_all
   obtain⟨_,rfl,_⟩:=h
   rfl
  ·rename_i m e ds hu
   cases hb:Nat.beq (P.cellsOf t) (m*P.cellsOf e)with
   |false=>rw[hb]at hl;cases hl
   |true =>
    rw[hb]at hl
    simp only[cond_true]at hl
    have hsz:=of_nbeq hb
    simp only[DataW.trod,hu]at h
    split at h
    ·rename_i hlen
     obtain⟨xs,hm,hx⟩:=Option.map_eq_some_iff.1 h
     have hds:xs.map (·.1)=ds:=by
      have:=congrArg Prod.fst hx
      simpa using this
     rw[←hds]at hl
     have:=dcL_sound (c:=fun i=>(cs.drop (i*P.cellsOf e)).take (P.cellsOf e)) (fun i d p l h1 h2=>dc_sound n e d l _ fuel p h1 h2) _ _ _ hm hl
     rw[←this,List.range_eq_range']
     have h2:=chunks (P.cellsOf e) cs m 0 (by rw[hlen,hsz,Nat.zero_add])
     rw[Nat.zero_mul,List.drop_zero]at h2
     exact h2
    cases h
  ·rename_i fs ds hu
   cases hb:contigF P (P.cellsOf t) fs.toList 0 with
   |false=>rw[hb]at hl;cases hl
   |true =>
    rw[hb]at hl
    simp only[cond_true]at hl
    simp only[DataW.trod,hu]at h
    split at h
    ·rename_i hlen
     obtain⟨xs,hm,hx⟩:=Option.map_eq_some_iff.1 h
     have hds:xs.map (·.1)=ds:=by
      have:=congrArg Prod.fst hx
      simpa using this
     rw[←hds]at hl
     have:=dcS_sound (cs:=cs) (fun x d p l h1 h2=>dc_sound n x.type d l _ fuel p h1 h2) _ 0 xs l (by rw[hlen];exact hb) hm hl
     rw[List.drop_zero]at this
     exact this
    cases h
  cases hl
theorem laid_cells{W:World}:∀(laid:List (String×DataW Unit)) (ps:List MemPlace),DataW.LaidVars P W laid ps→∀n d,(n,d)∈laid→∀g t k l,P.globalNamed n=some g→(P.globals[g]?).map (·.type)=some t→dc P k t d=some l →
  ∃(arr:Array Value) (e:TypeId) (fz:Nat×Nat),W.heap[g]?=some (.cells arr e fz)∧arr.toList=l
 | [],ps,h,n,d,hm,g,t,k,l,hg,ht,hl=>by cases hm
 |(m,d')::laid,ps,h,n,d,hm,g,t,k,l,hg,ht,hl=>by
  obtain⟨g',t',cs,fuel,p,q,h1,h2,h3,h4,h5,_⟩:=h
  rcases List.mem_cons.1 hm with he|he
  ·obtain⟨rfl,rfl⟩:=Prod.mk.inj he
   obtain rfl:=Option.some.inj (hg.symm.trans h1)
   obtain rfl:=Option.some.inj (ht.symm.trans h2)
   have:=dc_sound k t _ l cs.toList fuel p h4 hl
   unfold World.var? at h3
   rw[hg]at h3
   simp only[Option.bind_some]at h3
   split at h3
   ·rename_i arr e fz hh
    cases h3
    exact⟨_,_,_,hh,this⟩
   cases h3
  exact laid_cells laid q h5 n d he g t k l hg ht hl
def startH:List (Nat×List Value)→Heap
 | []=>Heap.nil
 |(g,l)::r=>(startH r).set g (some (.cells l 0 false false []))
def startS(G:List (Nat×List Value))(n:Nat):St:=⟨startH G,n⟩
theorem start_get(n:Nat):∀(G:List (Nat×List Value)) (b:Nat) (B:Blk),(startS G n).get b=some B→∃l,(b,l)∈G∧B= .cells l 0 false false []
 | [],b,B,h=>by
  simp only[startS,startH,St.get,Heap.get_nil]at h
  cases h
 |(g,l)::G,b,B,h=>by
  simp only[startS,startH,St.get,Heap.get_set_any]at h
  split at h
  ·rename_i he
   cases h
   exact⟨l,by rw[he];simp,rfl⟩
  obtain⟨l',h1,h2⟩:=start_get n G b B h
  exact⟨l',by simp[h1],h2⟩
def startR(n:Nat)(W:World):Rmap:=fun g=>if g<n then some ⟨g,0,match W.heap[g]? with|some (.cells arr _ _)=>arr.size|_=>0,0⟩else none
theorem start_sim{W:World}{G:List (Nat×List Value)}(hn:P.globals.size≤W.heap.size)(hG:∀g l,(g,l)∈G→∃(arr:Array Value) (e:TypeId) (fz:Nat×Nat),W.heap[g]?=some (.cells arr e fz)∧arr.toList=l)
  (hf:∀g l,(g,l)∈G→∀v∈l,flatV flatN v=true):Sim P ⟨W,fun _=>false⟩ (startR P.globals.size W) (startS G P.globals.size) W:=by
 refine⟨Nat.le_refl _,fun _ _=>rfl,rfl,rfl,fun b L hb=>?_,fun b L B hb hB=>?_,fun b L B hb hB hm=>?_,fun g hg=>?_,fun b hb=>by cases hb⟩
 ·unfold startR at hb
  split at hb
  ·rename_i hlt
   cases hb
   exact⟨hlt,Nat.lt_of_lt_of_le hlt hn⟩
  cases hb
 ·obtain⟨l,hl,rfl⟩:=start_get _ G b B hB
  obtain⟨arr,e,fz,h1,h2⟩:=hG b l hl
  unfold startR at hb
  split at hb
  ·cases hb
   simp only[h1]
   refine⟨arr,e,fz,rfl,rfl,fun i v hv=>⟨v,?_,(flatV_spec _ _ (hf b l hl v (List.mem_of_getElem? hv))).refl _⟩,(fun h=>nomatch h),(fun h=>nomatch h),fun _=>⟨rfl,rfl,by rw[←h2];simp⟩,fun _ h=>absurd rfl h⟩
   rw[Nat.zero_add,←Array.getElem?_toList,h2]
   exact hv
  cases hb
 ·obtain⟨l,hl,rfl⟩:=start_get _ G b B hB
  cases hm
 unfold startR
 rw[if_pos hg]
 exact⟨_,rfl,rfl,rfl⟩
end Go.Cm
namespace Go.Cm
open Go
variable{P:Program}{w0:Base}{K:Known}
structure Stg where
 n:Nat
 vals:List Value
 blks:List (Nat×Blk)
 size:Nat
def Stg.act(L:Stg):Ca:=⟨L.n,PT.ofList 0 (PT.nil 8) L.vals,[]⟩
def litH:List (Nat×Blk)→Heap
 | []=>Heap.nil
 |(b,B)::r=>(litH r).set b (some B)
def Stg.st(L:Stg):St:=⟨litH L.blks,L.size⟩
def sameNats:List Nat→List Nat→Bool
 | [],[]=>true
 |a::l,b::r=>Nat.beq a b&&sameNats l r
 |_,_=>false
theorem sameNats_eq:∀a b:List Nat,sameNats a b=true→a=b
 | [],[],_=>rfl
 | [],_::_,h=>by cases h
 |_::_,[],h=>by cases h
 |a::l,b::r,h=>by
  simp only[sameNats,Bool.and_eq_true]at h
  rw[of_nbeq h.1,sameNats_eq l r h.2]
def sameBlk:Blk→Blk→Bool
 | .cells c e r o k,.cells c' e' r' o' k'=>sameL 100000 c c'&&(Nat.beq e e'&&((r==r')&&((o==o')&&sameNats k k')))
 | .map [] c,.map [] c'=>Nat.beq c c'
 |_,_=>false
theorem sameBlk_eq(a b:Blk)(h:sameBlk a b=true):a=b:=by
 unfold sameBlk at h
 split at h
 ·simp only[Bool.and_eq_true]at h
  rw[sameL_eq _ _ _ h.1,of_nbeq h.2.1,eq_of_beq h.2.2.1,eq_of_beq h.2.2.2.1,sameNats_eq _ _ h.2.2.2.2]
 ·rw[of_nbeq h]
 cases h
def litOk(L:Stg)(r:Res3):Bool:=match r with
 |some (.normal,⟨n,t,[]⟩,S)=>Nat.beq n L.n&&((List.range 256).all (fun i=>sameV 100000 (Ca.get ⟨n,t,[]⟩ i) (L.act.get i))&&(L.blks.all (fun x=>match S.get x.1 with
  |some B=>sameBlk x.2 B
  |none=>false)&&Nat.beq S.size L.size))
 |_=>false
theorem Sim.sub{ρ:Rmap}{S T:St}{w:World}(h:Sim P w0 ρ S w)(hs:∀b B,T.get b=some B→S.get b=some B)(hz:T.size=S.size):Sim P w0 ρ T w :=
 ⟨h.size,h.old,h.os,h.out,fun b L hb=>by rw[hz];exact h.dom b L hb,fun b L B hb hB=>h.blk b L B hb (hs b B hB),
  fun b L B hb hB hm=>⟨(h.own b L B hb (hs b B hB) hm).1,fun b' L' B' hb' hr hB' hne=>(h.own b L B hb (hs b B hB) hm).2 b' L' B' hb' hr (hs b' B' hB') hne⟩,h.glob,fun b hb=>by rw[hz];exact h.no b hb⟩
theorem litH_get:∀(l:List (Nat×Blk)) (b:Nat) (B:Blk),(litH l).get b=some B→(b,B)∈l
 | [],b,B,h=>by simp only[litH,Heap.get_nil]at h;cases h
 |(c,C)::l,b,B,h=>by
  simp only[litH,Heap.get_set_any]at h
  split at h
  ·rename_i he
   cases h
   rw[he];simp
  exact List.mem_cons_of_mem _ (litH_get l b B h)
theorem lit_sound{L:Stg}{r:Res3}(h:litOk L r=true):∃a S,r=some (.normal,a,S)∧(∀ρ ar,ActR ρ a ar→ActR ρ L.act ar)∧(∀(w0:Base) (ρ:Rmap) (w:World),Sim P w0 ρ S w→Sim P w0 ρ L.st w):=by
 unfold litOk at h
 split at h
 ·rename_i n t S
  simp only[Bool.and_eq_true,List.all_eq_true]at h
  obtain⟨h1,h2,h3,h4⟩:=h
  have h1:=of_nbeq h1
  have h4:=of_nbeq h4
  refine⟨_,_,rfl,fun ρ ar ha=>?_,fun w0 ρ w hs=>?_⟩
  ·have hget:∀i,Ca.get ⟨n,t,[]⟩ i=L.act.get i:=by
    intro i
    rcases Nat.lt_or_ge i 256 with hi|hi
    ·exact sameV_eq _ _ _ (h2 i (List.mem_range.2 hi))
    have hb:¬i<2 ^ 8:=Nat.not_lt.2 hi
    unfold Ca.get
    rw[PT.get_big _ hb,PT.get_big _ hb]
   refine⟨by have:=ha.le;simp only at this;rw[h1]at this;exact this,⟨by have:=ha.tm.1;rw[h1]at this;exact this,fun i=>?_⟩,ha.df⟩
   have:=ha.tm.2 i
   rw[←get_eq ⟨n,t,[]⟩,hget,get_eq]at this
   exact this
  refine hs.sub (fun b B hB=>?_) h4.symm
  have hm:=litH_get _ _ _ hB
  have:=h3 (b,B) hm
  simp only at this
  split at this
  ·rename_i C hC
   rw[sameBlk_eq _ _ this];exact hC
  cases this
 cases h
def runSeq(ex:Option Nat→Code→Ca→St→Res3):List Code→Ca→St→Res3
 | [],a,S=>some (.normal,a,S)
 |c::r,a,S=>match ex none c a S with
  |some (.normal,a',S')=>runSeq ex r a' S'
  |r=>r
end Go.Cm
namespace Go.Cm
open Go
variable{P:Program}{w0:Base}{K:Known}
def TriOps(P:Program)(w0:Base)(ops:Array Oper)(l:List Oper)(a:Ca)(S:St)(L:Stg):Prop :=
 ∀(ρ:Rmap) (w:World) (ar:Act),Sim P w0 ρ S w→ActR ρ a ar→∀(Q:Exit→Act→World→Prop),(∀ρ1 ar1 w1,Ext ρ ρ1→ActR ρ1 L.act ar1→Sim P w0 ρ1 L.st w1→Q .normal ar1 w1)→wpListIn (FW none) 0 P ops Q l ar w
theorem runOps_more{ih:Fns}(hih:FnsSound P w0 ih){ops:Array Oper}{ro:Option Nat}{a1:Ca}{S1:St}{Q:Exit→Act→World→Prop}{more:List Oper} :
  ∀(l:List Oper) (a:Ca) (S:St),runOps P ih ops.toList l a S=some (.normal,a1,S1)→(∀o,o∈l→OpC P o)→∀(ρ:Rmap) (w:World) (ar:Act),Sim P w0 ρ S w→ActR ρ a ar →
   (∀ρ1 ar1 w1,Ext ρ ρ1→ActR ρ1 a1 ar1→Sim P w0 ρ1 S1 w1→wpListIn (FW ro) 0 P ops Q more ar1 w1)→wpListIn (FW ro) 0 P ops Q (l++more) ar w
 | [],a,S,h,_,ρ,w,ar,hs,ha,hQ=>by
  simp only[runOps,Option.some.injEq,Prod.mk.injEq,true_and]at h
  obtain⟨rfl,rfl⟩:=h
  exact hQ ρ ar w (Ext.refl _) ha hs
 |o::rest,a,S,h,hc,ρ,w,ar,hs,ha,hQ=>by
  unfold runOps at h
  have hwant:=wanted_sound ha (ops:=ops) (o:=o)
  rw[List.cons_append]
  unfold wpListIn
  rw[←hwant]
  cases hw:wantedC ops.toList a o with
  |false =>
   rw[hw]at h
   simp only[cond_false]at h
   split at h
   ·rename_i a2 hp
    simp only[Bool.false_eq_true,if_false]
    exact⟨about_wide,runOps_more hih rest a2 S h (fun o ho=>hc o (by simp[ho])) ρ w _ hs (ha.put hp (VR.undef _)) hQ⟩
   cases h
  |true =>
   rw[hw]at h
   simp only[cond_true]at h
   simp only[if_true]
   refine⟨about_wide,?_⟩
   split at h
   ·rename_i v S2 hst
    split at h
    ·rename_i a2 hp
     refine step_sound hih hs (ha.evs hs (hc o (by simp))) hst ⟨?_,?_⟩
     ·intro v2 e2 ρ' v' w' h1 h2 h3
      cases e2
      exact runOps_more hih rest a2 S2 h (fun o ho=>hc o (by simp[ho])) ρ' w' _ h3 ((ha.mono h1).put hp h2) (fun ρ1 ar1 w1 x y z=>hQ ρ1 ar1 w1 (h1.trans x) y z)
     intro c e2;cases e2
    cases h
   ·cases h
   cases h
theorem triOps_nil{ops:Array Oper}{L:Stg}:TriOps P w0 ops [] L.act L.st L:=fun ρ w ar hs ha _ hQ=>hQ ρ ar w (Ext.refl _) ha hs
theorem triOps_app{ih:Fns}(hih:FnsSound P w0 ih){ops:Array Oper}{l m:List Oper}{a:Ca}{S:St}{L1 L2:Stg}(h:litOk L1 (runOps P ih ops.toList l a S)=true)(hc:constsOk P l=true)
  (k:TriOps P w0 ops m L1.act L1.st L2):TriOps P w0 ops (l++m) a S L2:=by
 obtain⟨a1,S1,e,A,B⟩:=lit_sound (P:=P) h
 intro ρ w ar hs ha Q hQ
 refine runOps_more hih l a S e (constsOk_spec hc) ρ w ar hs ha fun ρ1 ar1 w1 x y z=>?_
 exact k ρ1 w1 ar1 (B _ _ _ z) (A _ _ y) Q fun ρ2 ar2 w2 p q r=>hQ ρ2 ar2 w2 (x.trans p) q r
theorem fnsG_sound{W:World}(hm:P.follows .mixedOrders=true)(hK:KnownSound P K W)(n:Nat):FnsSound P ⟨W,fun _=>false⟩ (fnsG P K n):=by
 rw[fnsG_eq]
 exact fns_sound hm hK n n (Nat.le_refl _) (fun _=>false)
def hd:Code→Code
 | .seq a _=>a
 |c=>c
def tl:Code→Code
 | .seq _ b=>b
 |c=>c
def rops:Code→Array Oper
 | .region _ ops _=>ops
 |_=> #[]
def isSeq:Code→Bool
 | .seq _ _=>true
 |_=>false
def tlN:Nat→Code→Code
 |0,c=>c
 |n+1,c=>tlN n (tl c)
def hds:Nat→Code→List Code
 |0,_=>[]
 |n+1,c=>hd c::hds n (tl c)
def isSeqN:Nat→Code→Bool
 |0,_=>true
 |n+1,c=>isSeq c&&isSeqN n (tl c)
theorem tri_run{ih:Fns}(hih:FnsSound P w0 ih){a1:Ca}{S1:St}{Q:Exit→Act→World→Prop}:∀(k:Nat) (c:Code),isSeqN k c=true→∀(a:Ca) (S:St),runSeq ih.exec (hds k c) a S=some (.normal,a1,S1)→∀(ρ:Rmap) (w:World) (ar:Act),
  Sim P w0 ρ S w→ActR ρ a ar→(∀ρ1 ar1 w1,Ext ρ ρ1→ActR ρ1 a1 ar1→Sim P w0 ρ1 S1 w1→(tlN k c).wpIn (FW none) 0 P Q ar1 w1)→c.wpIn (FW none) 0 P Q ar w
 |0,c,_,a,S,h,ρ,w,ar,hs,ha,hk=>by
  simp only[hds,runSeq,Option.some.injEq,Prod.mk.injEq,true_and]at h
  obtain⟨rfl,rfl⟩:=h
  exact hk ρ ar w (Ext.refl _) ha hs
 |k+1,c,hc,a,S,h,ρ,w,ar,hs,ha,hk=>by
  simp only[isSeqN,Bool.and_eq_true]at hc
  cases c with
  |seq x y =>
   simp only[hds,hd,tl]at h
   unfold runSeq at h
   split at h
   ·rename_i a2 S2 hx
    refine wpIn_seq (wpIn_mono (hih.exec none x _ _ _ _ _ hx ρ w ar none hs ha (.inl ⟨rfl,rfl⟩)) ?_)
    rintro e2 ar2 w2 ⟨ρ2,h1,h2,h3,h4⟩
    cases h2
    exact tri_run hih k y hc.2 a2 S2 h ρ2 w2 ar2 h4 h3 fun ρ1 ar1 w1 p q r=>hk ρ1 ar1 w1 (h1.trans p) q r
   rename_i hne
   exact absurd h (hne a1 S1)
  |_=>cases hc.1
def cutOps(c:Code)(i j:Nat):List Oper:=((rops c).toList.drop i).take (j-i)
theorem triOps_cut{ih:Fns}(hih:FnsSound P w0 ih){c:Code}{i j:Nat}(hij:Nat.ble i j=true){a:Ca}{S:St}{L1 L2:Stg}(h:litOk L1 (runOps P ih (rops c).toList (cutOps c i j) a S)=true)(hc:constsOk P (cutOps c i j)=true)
  (k:TriOps P w0 (rops c) ((rops c).toList.drop j) L1.act L1.st L2):TriOps P w0 (rops c) ((rops c).toList.drop i) a S L2:=by
 have e:(rops c).toList.drop i=cutOps c i j++(rops c).toList.drop j:=by
  have hij:=Nat.le_of_ble_eq_true hij
  unfold cutOps
  conv=>lhs;rw[←List.take_append_drop (j-i) ((rops c).toList.drop i)]
  rw[List.drop_drop]
  congr 2
  omega
 rw[e]
 exact triOps_app hih h hc k
theorem triOps_end{ih:Fns}(hih:FnsSound P w0 ih){c:Code}{i:Nat}{a:Ca}{S:St}{L1:Stg}(h:litOk L1 (runOps P ih (rops c).toList ((rops c).toList.drop i) a S)=true)(hc:constsOk P ((rops c).toList.drop i)=true) :
  TriOps P w0 (rops c) ((rops c).toList.drop i) a S L1:=by
 have:=triOps_app hih h hc triOps_nil
 rw[List.append_nil]at this
 exact this
end Go.Cm
namespace Go.Cm
open Go
variable{P:Program}{w0:Base}{K:Known}
def TriX(P:Program)(w0:Base)(c:Code)(a:Ca)(S:St)(e:Exit)(L:Stg):Prop :=
 ∀(ρ:Rmap) (w:World) (ar:Act),Sim P w0 ρ S w→ActR ρ a ar→c.wpIn (FW none) 0 P (fun e1 ar1 w1=>e1=e∧∃ρ1,Ext ρ ρ1∧ActR ρ1 L.act ar1∧Sim P w0 ρ1 L.st w1) ar w
def litX(e:Exit)(L:Stg)(r:Res3):Bool:=match e,r with
 | .normal,some (.normal,a,S)=>litOk L (some (.normal,a,S))
 | .ret,some (.ret,a,S)=>litOk L (some (.normal,a,S))
 | .exit i,some (.exit j,a,S)=>Nat.beq i j&&litOk L (some (.normal,a,S))
 |_,_=>false
theorem litX_sound{e:Exit}{L:Stg}{r:Res3}(h:litX e L r=true):∃a S,r=some (e,a,S)∧(∀ρ ar,ActR ρ a ar→ActR ρ L.act ar)∧(∀(w0:Base) (ρ:Rmap) (w:World),Sim P w0 ρ S w→Sim P w0 ρ L.st w):=by
 unfold litX at h
 split at h
 ·obtain⟨a1,S1,e1,A,B⟩:=lit_sound (P:=P) h
  cases e1
  exact⟨_,_,rfl,A,B⟩
 ·obtain⟨a1,S1,e1,A,B⟩:=lit_sound (P:=P) h
  cases e1
  exact⟨_,_,rfl,A,B⟩
 ·rw[Bool.and_eq_true]at h
  obtain⟨a1,S1,e1,A,B⟩:=lit_sound (P:=P) h.2
  cases e1
  rw[of_nbeq h.1]
  exact⟨_,_,rfl,A,B⟩
 cases h
theorem triX_code{ih:Fns}(hih:FnsSound P w0 ih){c:Code}{a:Ca}{S:St}{e:Exit}{L:Stg}(h:litX e L (ih.exec none c a S)=true):TriX P w0 c a S e L:=by
 obtain⟨a1,S1,e1,A,B⟩:=litX_sound (P:=P) h
 intro ρ w ar hs ha
 refine wpIn_mono (hih.exec none c _ _ _ _ _ e1 ρ w ar none hs ha (.inl ⟨rfl,rfl⟩)) ?_
 rintro e2 ar2 w2 ⟨ρ2,h1,h2,h3,h4⟩
 cases h2 with
 |normal=>exact⟨rfl,ρ2,h1,A _ _ h3,B _ _ _ h4⟩
 |exit id=>exact⟨rfl,ρ2,h1,A _ _ h3,B _ _ _ h4⟩
 |ret=>exact⟨rfl,ρ2,h1,A _ _ h3,B _ _ _ h4⟩
 |pan hp =>
  exfalso
  unfold litX at h
  rw[e1]at h
  cases h
theorem triX_seq{x y:Code}{a:Ca}{S:St}{e:Exit}{L1 L2:Stg}(h:TriX P w0 x a S .normal L1)(k:TriX P w0 y L1.act L1.st e L2):TriX P w0 (.seq x y) a S e L2:=by
 intro ρ w ar hs ha
 refine wpIn_seq (wpIn_mono (h ρ w ar hs ha) ?_)
 rintro e1 ar1 w1 ⟨rfl,ρ1,h1,h2,h3⟩
 refine wpIn_mono (k ρ1 w1 ar1 h3 h2) ?_
 rintro e2 ar2 w2 ⟨rfl,ρ2,k1,k2,k3⟩
 exact⟨rfl,ρ2,h1.trans k1,k2,k3⟩
def leaves:Exit→Bool
 | .ret=>true
 | .exit _=>true
 |_=>false
theorem triX_block{i:Nat}{c:Code}{a:Ca}{S:St}{L:Stg}(h:TriX P w0 c a S (.exit i) L):TriX P w0 (.block i c) a S .normal L:=by
 intro ρ w ar hs ha
 refine wpIn_block (wpIn_mono (h ρ w ar hs ha) ?_)
 rintro e1 ar1 w1 ⟨rfl,hx⟩
 simp only[Exit.inBlock,if_true]
 exact⟨trivial,hx⟩
theorem triX_through{i:Nat}{c:Code}{a:Ca}{S:St}{e:Exit}{L:Stg}(he:(match e with| .exit j=>!(Nat.beq j i)| .normal=>true| .ret=>true|_=>false)=true)(h:TriX P w0 c a S e L):TriX P w0 (.block i c) a S e L:=by
 intro ρ w ar hs ha
 refine wpIn_block (wpIn_mono (h ρ w ar hs ha) ?_)
 rintro e1 ar1 w1 ⟨rfl,hx⟩
 cases e1 with
 |normal=>exact⟨rfl,hx⟩
 |ret=>exact⟨rfl,hx⟩
 |exit j =>
  have hj:j≠i:=fun e=>by subst e;simp at he
  simp only[Exit.inBlock,hj,if_false]
  exact⟨trivial,hx⟩
 |_=>cases he
def TriS(P:Program)(w0:Base)(c:Code)(a:Ca)(S:St)(a1:Ca)(S1:St):Prop :=
 ∀(ρ:Rmap) (w:World) (ar:Act),Sim P w0 ρ S w→ActR ρ a ar→c.wpIn (FW none) 0 P (fun e1 ar1 w1=>e1= .normal∧∃ρ1,Ext ρ ρ1∧ActR ρ1 a1 ar1∧Sim P w0 ρ1 S1 w1) ar w
inductive Rounds(P:Program)(w0:Base)(c:Code)(e:Exit)(L:Stg):Nat→Ca→St→Prop
 |last {a:Ca} {S:St} (h:TriX P w0 c a S e L):Rounds P w0 c e L 0 a S
 |next {m:Nat} {a:Ca} {S:St} {L1:Stg} (h:TriX P w0 c a S .normal L1) (k:Rounds P w0 c e L m L1.act L1.st):Rounds P w0 c e L (m+1) a S
 |step {m:Nat} {a:Ca} {S:St} {a1:Ca} {S1:St} (h:TriS P w0 c a S a1 S1) (k:Rounds P w0 c e L m a1 S1):Rounds P w0 c e L (m+1) a S
 |cut {m:Nat} {a:Ca} {S:St} {L1:Stg} (ha:∀ρ ar,ActR ρ a ar→ActR ρ L1.act ar) (hs:∀(ρ:Rmap) (w:World),Sim P w0 ρ S w→Sim P w0 ρ L1.st w) (k:Rounds P w0 c e L m L1.act L1.st):Rounds P w0 c e L m a S
theorem rounds_go{c:Code}{e:Exit}{L:Stg}{m:Nat}{a:Ca}{S:St}(hr:Rounds P w0 c e L m a S):∀(ρ:Rmap) (w:World) (ar:Act),Sim P w0 ρ S w→ActR ρ a ar →
  c.wpIn (FW none) 0 P (fun e1 ar1 w1=>(e1=e∧∃ρ1,Ext ρ ρ1∧ActR ρ1 L.act ar1∧Sim P w0 ρ1 L.st w1)∨(e1= .normal∧∃k,k<m∧∃a1 S1 ρ1,Ext ρ ρ1∧Rounds P w0 c e L k a1 S1∧Sim P w0 ρ1 S1 w1∧ActR ρ1 a1 ar1)) ar w:=by
 induction hr with
 |last h =>
  intro ρ w ar hs ha
  exact wpIn_mono (h ρ w ar hs ha) fun _ _ _ hq=> .inl hq
 |next h k _ =>
  intro ρ w ar hs ha
  refine wpIn_mono (h ρ w ar hs ha) ?_
  rintro e1 ar1 w1 ⟨rfl,ρ2,h1,h2,h3⟩
  exact .inr ⟨rfl,_,Nat.lt_succ_self _,_,_,ρ2,h1,k,h3,h2⟩
 |step h k _ =>
  intro ρ w ar hs ha
  refine wpIn_mono (h ρ w ar hs ha) ?_
  rintro e1 ar1 w1 ⟨rfl,ρ2,h1,h2,h3⟩
  exact .inr ⟨rfl,_,Nat.lt_succ_self _,_,_,ρ2,h1,k,h3,h2⟩
 |cut ha' hs' _ ih =>
  intro ρ w ar hs ha
  exact ih ρ w ar (hs' _ _ hs) (ha' _ _ ha)
theorem triX_loop{c:Code}{a:Ca}{S:St}{e:Exit}{L:Stg}{m:Nat}(he:leaves e=true)(h:Rounds P w0 c e L m a S):TriX P w0 (.loop c) a S e L:=by
 intro ρ w ar hs ha
 refine wpIn_loop_ghost (fun m ar w=>∃a S ρ1,Ext ρ ρ1∧Rounds P w0 c e L m a S∧Sim P w0 ρ1 S w∧ActR ρ1 a ar) m ⟨a,S,ρ,Ext.refl _,h,hs,ha⟩ ?_
 rintro m ar w ⟨a,S,ρ1,hx,hr,hs,ha⟩
 refine wpIn_mono (rounds_go hr ρ1 w ar hs ha) ?_
 rintro e1 ar1 w1 (⟨rfl,ρ2,h1,h2,h3⟩|⟨rfl,k,hk,a1,S1,ρ2,h1,h2,h3,h4⟩)
 ·cases e1 with
  |ret=>exact⟨rfl,ρ2,hx.trans h1,h2,h3⟩
  |exit i=>exact⟨rfl,ρ2,hx.trans h1,h2,h3⟩
  |_=>cases he
 exact⟨k,hk,a1,S1,ρ2,hx.trans h1,h2,h3,h4⟩
theorem triX_region{id:Nat}{ops:Array Oper}{a:Ca}{S:St}{L:Stg}(h:TriOps P w0 ops ops.toList a S L):TriX P w0 (.region id ops false) a S .normal L:=by
 intro ρ w ar hs ha
 exact wpIn_region_list (h ρ w ar hs ha _ fun ρ1 ar1 w1 x y z=>⟨rfl,ρ1,x,y,z⟩)
theorem triX_hds{ih:Fns}(hih:FnsSound P w0 ih){k:Nat}{c:Code}(hs:isSeqN k c=true){a:Ca}{S:St}{e:Exit}{L1 L2:Stg}(h:litOk L1 (runSeq ih.exec (hds k c) a S)=true)(kk:TriX P w0 (tlN k c) L1.act L1.st e L2):TriX P w0 c a S e L2:=by
 obtain⟨a1,S1,e1,A,B⟩:=lit_sound (P:=P) h
 intro ρ w ar hsim ha
 refine tri_run hih k c hs a S e1 ρ w ar hsim ha fun ρ1 ar1 w1 x y z=>wpIn_mono (kk ρ1 w1 ar1 (B _ _ _ z) (A _ _ y)) ?_
 rintro e2 ar2 w2 ⟨rfl,ρ2,k1,k2,k3⟩
 exact⟨rfl,ρ2,x.trans k1,k2,k3⟩
def CallT(P:Program)(w0:Base)(f:FuncId)(vs:List Value)(S:St)(v:Value)(T:St):Prop :=
 ∀(ρ:Rmap) (w:World) (args':Array Value),Sim P w0 ρ S w→VRs ρ vs args'.toList→NextUp P (EndGood P w0 ρ (.returned v) T) ((callFunc f args').run P w)
def TriFin(P:Program)(w0:Base)(fn:Func)(c:Code)(a:Ca)(S:St)(v:Value)(T:St):Prop :=
 ∀(ρ:Rmap) (w:World) (ar:Act),Sim P w0 ρ S w→ActR ρ a ar→∀(R:Ending→World→Prop),(∀e w,EndGood P w0 ρ (.returned v) T e w→R e w)→c.wpIn (FW none) 0 P (bodyPostM Fence.wide 0 P fn R) ar w
theorem endGood_mono{ρ ρ1:Rmap}(hx:Ext ρ ρ1){e:Ending}{T:St}{e':Ending}{w:World}(h:EndGood P w0 ρ1 e T e' w):EndGood P w0 ρ e T e' w:=by
 obtain⟨ρ2,a,b,c⟩:=h
 exact⟨ρ2,hx.trans a,b,c⟩
theorem triFin_seq{fn:Func}{x y:Code}{a:Ca}{S:St}{L1:Stg}{v:Value}{T:St}(h:TriX P w0 x a S .normal L1)(k:TriFin P w0 fn y L1.act L1.st v T):TriFin P w0 fn (.seq x y) a S v T:=by
 intro ρ w ar hs ha R hR
 refine wpIn_seq (wpIn_mono (h ρ w ar hs ha) ?_)
 rintro e1 ar1 w1 ⟨rfl,ρ1,h1,h2,h3⟩
 exact k ρ1 w1 ar1 h3 h2 R fun e w h=>hR e w (endGood_mono h1 h)
theorem triFin_hds{ih:Fns}(hih:FnsSound P w0 ih){fn:Func}{k:Nat}{c:Code}(hs:isSeqN k c=true){a:Ca}{S:St}{L1:Stg}{v:Value}{T:St}(h:litOk L1 (runSeq ih.exec (hds k c) a S)=true)(kk:TriFin P w0 fn (tlN k c) L1.act L1.st v T):TriFin P w0 fn c a S v T:=by
 obtain⟨a1,S1,e1,A,B⟩:=lit_sound (P:=P) h
 intro ρ w ar hsim ha R hR
 exact tri_run hih k c hs a S e1 ρ w ar hsim ha fun ρ1 ar1 w1 x y z=>kk ρ1 w1 ar1 (B _ _ _ z) (A _ _ y) R fun e w h=>hR e w (endGood_mono x h)
def tupF:List Value→Value
 | [v]=>v
 |vs=> .tuple vs.toArray
def finOk(P:Program)(rs:List ResultVar)(v:Value)(L:Stg)(r:Res3):Bool:=match r with
 |some (e,a,S)=>(match e with| .normal=>true| .ret=>true|_=>false)&&(match takeMarks a.defers S with
  |some T=>match resultsL P a T rs with
   |some vs=>sameV 100000 (tupF vs) v&&(L.blks.all (fun x=>match T.get x.1 with
    |some B=>sameBlk x.2 B
    |none=>false)&&Nat.beq T.size L.size)
   |none=>false
  |none=>false)
 |none=>false
theorem blks_sub{L:Stg}{T:St}(h1:(L.blks.all (fun x=>match T.get x.1 with
    |some B=>sameBlk x.2 B
    |none=>false))=true)(h2:Nat.beq T.size L.size=true){ρ:Rmap}{w:World}(hs:Sim P w0 ρ T w):Sim P w0 ρ L.st w:=by
 refine hs.sub (fun b B hB=>?_) (of_nbeq h2).symm
 have hm:=litH_get _ _ _ hB
 have:=List.all_eq_true.1 h1 (b,B) hm
 simp only at this
 split at this
 ·rename_i C hC
  rw[sameBlk_eq _ _ this];exact hC
 cases this
theorem triFin_code{ih:Fns}(hih:FnsSound P w0 ih){fn:Func}{c:Code}{a:Ca}{S:St}{v:Value}{L:Stg}(h:finOk P fn.results.toList v L (ih.exec none c a S)=true):TriFin P w0 fn c a S v L.st:=by
 intro ρ w ar hs ha R hR
 unfold finOk at h
 split at h
 ·rename_i e a3 S3 hx
  rw[Bool.and_eq_true]at h
  obtain⟨he,h⟩:=h
  split at h
  ·rename_i T htm
   split at h
   ·rename_i vs hres
    simp only[Bool.and_eq_true]at h
    obtain⟨hv,hb,hz⟩:=h
    refine wpIn_mono (hih.exec none c _ _ _ _ _ hx ρ w ar none hs ha (.inl ⟨rfl,rfl⟩)) ?_
    rintro e3 ar3 w3 ⟨ρ3,p1,p2,p3,p4⟩
    have key:LeavesInM Fence.wide 0 P fn ar3.tmps R ar3.defers .returning w3:=by
     refine takeMarks_sound (ρ:=ρ3) (S2:=T) (by simp) (fun w4 hw4=>?_) a3.defers S3 ar3.defers w3 htm p3.df p4
     obtain⟨vs',hvs,hr⟩:=results_sound hw4 p3 hres
     refine⟨_,hr,hR _ _ ⟨ρ3,p1,.ret ?_,blks_sub hb hz hw4⟩⟩
     rw[←sameV_eq _ _ _ hv]
     have hl:=hvs.1
     cases vs with
     |nil =>
      cases vs' with
      |nil=>exact VR.tuple' VRs.nil
      |cons y r=>simp at hl
     |cons x r =>
      cases vs' with
      |nil=>simp at hl
      |cons y r' =>
       cases r with
       |nil =>
        cases r' with
        |nil=>exact hvs.head
        |cons _ _=>simp at hl
       |cons x2 r2 =>
        cases r' with
        |nil=>simp at hl
        |cons y2 r2'=>exact VR.tuple' hvs
    cases p2 with
    |normal=>exact key
    |ret=>exact key
    |exit id=>cases he
    |pan hp=>cases he
   cases h
  cases h
 cases h
theorem callT_fin{f:FuncId}{fn:Func}{c:Code}(hf:P.funcs[f]?=some fn)(hb:fn.body=some c)(hnm:(fn.name== "runtime.NumGoroutine")=false){vs:List Value}{n:Nat}(hn:maxN fn.ntmps vs.length=n)(hle:Nat.ble n 256=true)
  {S:St}{v:Value}{T:St}(h:TriFin P w0 fn c {n:=n,t:=PT.ofList 0 (PT.nil 8) vs,defers:=[]} S v T):CallT P w0 f vs S v T:=by
 intro ρ w args' hs hv
 rw[run_callFunc hf hb hnm]
 subst hn
 exact callsIn_of_wp_marks (n:=0) hf hb trivial (h ρ w _ hs (enter_act hv (Nat.le_of_ble_eq_true hle)) _ fun _ _ h=>h)
theorem triOps_call{c:Code}{i:Nat}{o:Oper}{x:Operand}{as:Array Operand}{ts:Array TypeId}{f:FuncId}{fi ca:Array Value}{vs:List Value}{v:Value}{L0 Lc L1 L2:Stg}
  (ho:nth (rops c).toList i=some o)(hop:o.op= .call ⟨.value x,as,ts⟩)(hw:wantedC (rops c).toList L0.act o=true)(hx:L0.act.ev x= .func (.func f) fi ca)(hv:(fi.toList++as.toList.map L0.act.ev)++ca.toList=vs)(hc:constsOk P [o]=true)
  (hcall:CallT P w0 f vs L0.st v Lc.st)(hput:litOk L1 (match L0.act.put o.dst v with|some a=>some (.normal,a,Lc.st)|none=>none)=true)
  (k:TriOps P w0 (rops c) ((rops c).toList.drop (i+1)) L1.act L1.st L2):TriOps P w0 (rops c) ((rops c).toList.drop i) L0.act L0.st L2:=by
 intro ρ w ar hs ha Q hQ
 have hdrop:(rops c).toList.drop i=o::(rops c).toList.drop (i+1):=by
  rw[nth_eq]at ho
  obtain⟨hi,he⟩:=List.getElem?_eq_some_iff.1 ho
  rw[List.drop_eq_getElem_cons hi,he]
 rw[hdrop]
 unfold wpListIn
 have hwant:=wanted_sound ha (ops:=rops c) (o:=o)
 rw[←hwant,hw]
 simp only[if_true]
 refine⟨about_wide,?_⟩
 have hOpC:=constsOk_spec hc o (by simp)
 have hev:=ha.evs hs hOpC
 have hd:∀c,o.op≠ .defer c:=by
  intro c hc
  rw[hop]at hc
  cases hc
 rw[Oper.semAt_eq _ _ _ hd]
 have hfv:=hev x (by rw[hop];simp[Op.operands,Call.operands])
 rw[hx]at hfv
 obtain⟨fn',first',cap',hg,h1,h2⟩:=hfv.func_inv
 obtain⟨a1,S1,e1,A,B⟩:=lit_sound (P:=P) hput
 split at e1
 ·rename_i a' hp
  cases e1
  have hfn:∃ca',fn'= .func f∧ca'=cap'∧VRs ρ ca.toList ca'.toList:=by
   cases h1 with
   |func f ha i1 hc i2=>exact⟨_,rfl,rfl,hc,i2⟩
  obtain⟨ca',rfl,rfl,hcap⟩:=hfn
  have hrun:(execOp ar.eval o).run P w=(callFunc f ((first'++as.map ar.eval)++ca')).run P w:=by
   rw[run_call (P:=P) ar.eval hop w (d:={target:= .fn (.func f) ca',args:=first'++as.map ar.eval}) (by simp[resolve,hg,Deferred.ofValue])]
   rfl
  rw[hrun]
  have hargs:VRs ρ vs ((first'++as.map ar.eval)++ca').toList:=by
   rw[←hv,Array.toList_append,Array.toList_append]
   exact(h2.append (args_vr fun y hy=>hev y (by rw[hop];simp[Op.operands,Call.operands,hy]))).append hcap
  refine upon_of_up (hcall ρ w _ hs hargs) (.inl ⟨v,rfl,rfl⟩) ⟨?_,?_⟩
  ·intro v2 e2 ρ' v' w' q1 q2 q3
   cases e2
   exact k ρ' w' _ (B _ _ _ q3) (A _ _ ((ha.mono q1).put hp q2)) Q fun ρ2 ar2 w2 p q r=>hQ ρ2 ar2 w2 (q1.trans p) q r
  intro c2 e2;cases e2
 cases e1
theorem call_true{W:World}{f:FuncId}{fn:Func}{c:Code}(hf:P.funcs[f]?=some fn)(hb:fn.body=some c)(hnm:(fn.name== "runtime.NumGoroutine")=false){G:List (Nat×List Value)}{T:St}
  (h:CallT P ⟨W,fun _=>false⟩ f [] (startS G P.globals.size) (.bool true) T)(hn:P.globals.size≤W.heap.size)
  (hG:∀g l,(g,l)∈G→∃(arr:Array Value) (e:TypeId) (fz:Nat×Nat),W.heap[g]?=some (.cells arr e fz)∧arr.toList=l)(hfl:∀g l,(g,l)∈G→∀v∈l,flatV flatN v=true) :
  Calls P f #[] W fun e w=>e= .returned (.bool true)∧Kept W w:=by
 have hsim:=start_sim (P:=P) hn hG hfl
 have:=h _ W #[] hsim VRs.nil
 rw[run_callFunc hf hb hnm]at this
 refine(callsIn_wide.1 this).mono ?_
 rintro e w ⟨ρ',_,h2,h3⟩
 cases h2 with
 |ret hv=>cases hv;exact⟨rfl,h3.kept⟩
def tA:Code→Code
 | .seq a _=>a
 | .cond _ a _=>a
 | .block _ c=>c
 | .loop c=>c
 | .scope c=>c
 |c=>c
def tB:Code→Code
 | .seq _ b=>b
 | .cond _ _ b=>b
 |c=>c
def tI:Code→Nat
 | .block i _=>i
 |_=>0
def tK:Code→Nat
 | .region _ _ false=>1
 | .seq _ _=>3
 | .cond _ _ _=>4
 | .block _ _=>5
 | .loop _=>6
 |_=>10
section
variable{c:Code}{a:Ca}{S:St}{e:Exit}{L L1:Stg}
theorem tx_seq(hk:tK c=3)(h:TriX P w0 (tA c) a S .normal L1)(k:TriX P w0 (tB c) L1.act L1.st e L):TriX P w0 c a S e L:=by
 cases c<;>first|exact triX_seq h k|(rename_i d;cases d<;>cases hk)|cases hk
theorem tx_block(hk:tK c=5)(h:TriX P w0 (tA c) a S (.exit (tI c)) L):TriX P w0 c a S .normal L:=by
 cases c<;>first|exact triX_block h|(rename_i d;cases d<;>cases hk)|cases hk
theorem tx_through(hk:tK c=5)(he:(match e with| .exit j=>!(Nat.beq j (tI c))| .normal=>true| .ret=>true|_=>false)=true)(h:TriX P w0 (tA c) a S e L):TriX P w0 c a S e L:=by
 cases c<;>first|exact triX_through he h|(rename_i d;cases d<;>cases hk)|cases hk
theorem tx_loop{m:Nat}(hk:tK c=6)(he:leaves e=true)(h:Rounds P w0 (tA c) e L m a S):TriX P w0 c a S e L:=by
 cases c<;>first|exact triX_loop he h|(rename_i d;cases d<;>cases hk)|cases hk
theorem tx_region(hk:tK c=1)(h:TriOps P w0 (rops c) (rops c).toList a S L):TriX P w0 c a S .normal L:=by
 cases c<;>first|(rename_i d;cases d<;>first|exact triX_region h|cases hk)|cases hk
theorem tf_seq{fn:Func}{v:Value}{T:St}(hk:tK c=3)(h:TriX P w0 (tA c) a S .normal L1)(k:TriFin P w0 fn (tB c) L1.act L1.st v T):TriFin P w0 fn c a S v T:=by
 cases c<;>first|exact triFin_seq h k|(rename_i d;cases d<;>cases hk)|cases hk
end
end Go.Cm
namespace Go.Cm
open Go
variable{P:Program}{w0:Base}
theorem Sim.view{ρ:Rmap}{S:St}{w:World}(h:Sim P w0 ρ S w){c:List Value}{e:TypeId}{L:Loc}(hr:L.r<w0.heap.size)(hB:BlkOk P (upd ρ S.size L) (.cells c e true false []) w.heap[L.r]? L) :
  Ext ρ (upd ρ S.size L)∧Sim P w0 (upd ρ S.size L) (S.new (.cells c e true false [])).2 w:=by
 have hnone:ρ S.size=none:=by
  cases hx:ρ S.size with
  |none=>rfl
  |some M=>exact absurd (h.dom _ _ hx).1 (Nat.lt_irrefl _)
 have hext:=ext_upd L hnone
 have hget:∀b,(S.new (.cells c e true false [])).2.get b=if b=S.size then some (.cells c e true false [])else S.get b:=by
  intro b
  show(⟨S.heap.set S.size _,S.size+1⟩:St).get b=_
  simp only[St.get,Heap.get_set_any]
 refine⟨hext,⟨h.size,h.old,h.os,h.out,fun b M hb=>?_,fun b M C hb hC=>?_,fun b M C hb hC hm=>?_,fun g hg=>let⟨M,a,b⟩:=h.glob g hg;⟨M,hext _ _ a,b⟩,fun b hb=>?_⟩⟩
 ·show b<S.size+1∧_
  unfold upd at hb
  split at hb
  ·cases hb
   have:=h.size
   exact⟨by omega,by omega⟩
  have:=h.dom b M hb
  exact⟨by omega,this.2⟩
 ·rw[hget]at hC
  unfold upd at hb
  by_cases e':b=S.size
  ·rw[if_pos e']at hb hC
   cases hb;cases hC
   exact hB
  rw[if_neg e']at hb hC
  exact(h.blk b M C hb hC).mono hext
 ·rw[hget]at hC
  unfold upd at hb
  by_cases e':b=S.size
  ·rw[if_pos e']at hb hC
   cases hC
   cases hm
  rw[if_neg e']at hb hC
  refine⟨(h.own b M C hb hC hm).1,fun b' L' B' hb' hr' hB' hne=>?_⟩
  rw[hget]at hB'
  unfold upd at hb'
  by_cases e2:b'=S.size
  ·rw[if_pos e2]at hb'
   cases hb'
   have:=(h.own b M C hb hC hm).1
   omega
  rw[if_neg e2]at hb' hB'
  exact(h.own b M C hb hC hm).2 b' L' B' hb' hr' hB' hne
 have:=h.no b hb
 refine⟨?_,by show b<S.size+1;omega⟩
 unfold upd
 rw[if_neg (by omega)]
 exact this.1
end Go.Cm
namespace Go.Cm
open Go
def scalarV:Value→Bool
 | .bool _=>true
 | .int _ _=>true
 | .string _=>true
 |_=>false
mutual
def renP:Nat→Value→Value→Option (List (Nat×Nat))
 |0,_,_=>none
 |_+1,.slice (some ⟨b1,o1,none⟩) n1 c1,.slice (some ⟨b,o,none⟩) n2 c2=>bif Nat.beq o1 o&&(Nat.beq n1 n2&&Nat.beq c1 c2)then some [(b1,b)]else none
 |_+1,.slice none 0 0,.slice none 0 0=>some []
 |n+1,.agg a,.agg b=>renL n a.toList b.toList
 |_+1,x,y=>bif scalarV x&&sameV 1000 x y then some []else none
def renL:Nat→List Value→List Value→Option (List (Nat×Nat))
 |0,_,_=>none
 |_+1,[],[]=>some []
 |n+1,x::l,y::r=>match renP n x y,renL n l r with
  |some p,some q=>some (p++q)
  |_,_=>none
 |_+1,_,_=>none
end
end Go.Cm
namespace Go.Cm
open Go
variable{P:Program}{w0:Base}{K:Known}
theorem zeroKnown{W:World}{f:FuncId}{v:Value}{S:St}(h:∀w,Kept W w→Calls P f #[] w fun e w'=>e= .returned v∧Kept w w') :
  ∀(w0:Base) (ρ:Rmap) (w:World) (args':Array Value),w0.toWorld=W→Sim P w0 ρ S w→VRs ρ [] args'.toList→Calls P f args' w fun e w'=>e= .returned v∧Kept w w':=by
 intro w0 ρ w args' e hs hv
 subst e
 have:args'= #[]:=by
  apply Array.ext'
  simpa using hv.nil_inv
 subst this
 exact h w hs.kept
end Go.Cm
