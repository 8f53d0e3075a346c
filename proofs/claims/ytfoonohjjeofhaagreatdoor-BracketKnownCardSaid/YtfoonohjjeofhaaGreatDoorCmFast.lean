/-
  CM, fast: the evaluator in a form that the kernel runs well: operations compiled once, small bodies.
-/
import Derived.Test.YtfoonohjjeofhaaGreatDoorCmEval
namespace Go.Cm

/-! ### Places of tables, compiled -/
structure GW (α : Type) (d : Nat) where
  f : PT α d → Option α
def idG {α : Type} (t : PT α 0) : Option α := t
def getL {α : Type} {d : Nat} (g : PT α d → Option α) (t : PT α (d + 1)) : Option α := g t.1
def getR {α : Type} {d : Nat} (g : PT α d → Option α) (t : PT α (d + 1)) : Option α := g t.2
def consL {α : Type} {d : Nat} (w : GW α d) : GW α (d + 1) := match w with
  | ⟨g⟩ => ⟨getL g⟩
def consR {α : Type} {d : Nat} (w : GW α d) : GW α (d + 1) := match w with
  | ⟨g⟩ => ⟨getR g⟩
noncomputable def getW {α : Type} (d : Nat) : Nat → GW α d :=
  Nat.rec (motive := fun d => Nat → GW α d) (fun _ => ⟨idG⟩) (fun _ ih k => Bool.rec (motive := fun _ => GW α _) (consR (ih (Nat.div k 2))) (consL (ih (Nat.div k 2))) (Nat.beq (Nat.mod k 2) 0)) d
noncomputable def getK {α : Type} (d k : Nat) : GW α d := Bool.rec (motive := fun _ => GW α d) ⟨fun _ => none⟩ (getW d k) (Nat.blt k (2 ^ d))

structure SW (α : Type) (d : Nat) where
  f : Option α → PT α d → PT α d
def idS {α : Type} (v : Option α) (_ : PT α 0) : PT α 0 := v
noncomputable def setL {α : Type} {d : Nat} (g : Option α → PT α d → PT α d) (v : Option α) (t : PT α (d + 1)) : PT α (d + 1) := Prod.rec (motive := fun _ => PT α d × PT α d) (fun l r => (g v l, r)) t
noncomputable def setR {α : Type} {d : Nat} (g : Option α → PT α d → PT α d) (v : Option α) (t : PT α (d + 1)) : PT α (d + 1) := Prod.rec (motive := fun _ => PT α d × PT α d) (fun l r => (l, g v r)) t
noncomputable def sconsL {α : Type} {d : Nat} (w : SW α d) : SW α (d + 1) := match w with
  | ⟨g⟩ => ⟨setL g⟩
noncomputable def sconsR {α : Type} {d : Nat} (w : SW α d) : SW α (d + 1) := match w with
  | ⟨g⟩ => ⟨setR g⟩
noncomputable def setW {α : Type} (d : Nat) : Nat → SW α d :=
  Nat.rec (motive := fun d => Nat → SW α d) (fun _ => ⟨idS⟩) (fun _ ih k => Bool.rec (motive := fun _ => SW α _) (sconsR (ih (k / 2))) (sconsL (ih (k / 2))) (Nat.beq (k % 2) 0)) d
noncomputable def setK {α : Type} (d k : Nat) : SW α d := Bool.rec (motive := fun _ => SW α d) ⟨fun _ t => t⟩ (setW d k) (Nat.blt k (2 ^ d))

abbrev Hp := PT Blk 16
def appG {α : Type} {d : Nat} (w : GW α d) (t : PT α d) : Option α := match w with
  | ⟨g⟩ => g t
def appS {α : Type} {d : Nat} (w : SW α d) (v : Option α) (t : PT α d) : PT α d := match w with
  | ⟨g⟩ => g v t
noncomputable def atG {α : Type} (d : Nat) : PT α d → Nat → Option α :=
  Nat.rec (motive := fun d => PT α d → Nat → Option α) (fun t _ => t) (fun _ ih t k => Bool.rec (motive := fun _ => Option α) (ih t.2 (Nat.div k 2)) (ih t.1 (Nat.div k 2)) (Nat.beq (Nat.mod k 2) 0)) d
noncomputable def updG {α : Type} (v : Option α) (d : Nat) : PT α d → Nat → PT α d :=
  Nat.rec (motive := fun d => PT α d → Nat → PT α d) (fun _ _ => v)
    (fun d ih t k => Prod.rec (motive := fun _ => PT α d × PT α d) (fun l r => Bool.rec (motive := fun _ => PT α d × PT α d) (l, ih r (Nat.div k 2)) (ih l (Nat.div k 2), r) (Nat.beq (Nat.mod k 2) 0)) t) d
noncomputable def hget (S : St) (b : Nat) : Option Blk := Bool.rec (motive := fun _ => Option Blk) none (atG 16 S.heap b) (Nat.blt b 65536)
noncomputable def hset (h : Hp) (b : Nat) (x : Option Blk) : Hp := Bool.rec (motive := fun _ => Hp) h (updG x 16 h b) (Nat.blt b 65536)

abbrev Res3 := Option (Exit × Ca × St)
abbrev OkK := Value → St → Res3
abbrev PanK := List PanicEntry → St → Res3
abbrev OpK := Fns → Tm → St → OkK → PanK → Res3
def useR (r : Option (OpR × St)) (ok : OkK) (pan : PanK) : Res3 := match r with
  | some (.val v, S') => ok v S'
  | some (.pan ch, S') => pan ch S'
  | none => none

/-! ### Looking into a value -/
noncomputable def asBoolF (v : Value) : Option Bool := @Value.rec (fun _ => Option Bool) (fun _ => PUnit) (fun _ => PUnit) some (fun _ _ => none) (fun _ _ => none) (fun _ _ _ => none) (fun _ => none) (fun _ => none) (fun _ _ _ => none) (fun _ => none) (fun _ => none)
  (fun _ _ _ _ _ => none) none (fun _ _ _ => none) none (fun _ _ => none) (fun _ _ => none) (fun _ _ => ⟨⟩) ⟨⟩ (fun _ _ _ _ => ⟨⟩) v
noncomputable def asIntF (v : Value) : Option (IntKind × Int) := @Value.rec (fun _ => Option (IntKind × Int)) (fun _ => PUnit) (fun _ => PUnit) (fun _ => none) (fun k n => some (k, n)) (fun _ _ => none) (fun _ _ _ => none) (fun _ => none) (fun _ => none) (fun _ _ _ => none) (fun _ => none) (fun _ => none)
  (fun _ _ _ _ _ => none) none (fun _ _ _ => none) none (fun _ _ => none) (fun _ _ => none) (fun _ _ => ⟨⟩) ⟨⟩ (fun _ _ _ _ => ⟨⟩) v
def addrOf (a : Option Addr) : Option (Nat × Nat) := match a with
  | some ⟨b, o, none⟩ => some (b, o)
  | _ => none
noncomputable def asPtrF (v : Value) : Option (Nat × Nat) := @Value.rec (fun _ => Option (Nat × Nat)) (fun _ => PUnit) (fun _ => PUnit) (fun _ => none) (fun _ _ => none) (fun _ _ => none) (fun _ _ _ => none) (fun _ => none) addrOf (fun _ _ _ => none) (fun _ => none) (fun _ => none)
  (fun _ _ _ _ _ => none) none (fun _ _ _ => none) none (fun _ _ => none) (fun _ _ => none) (fun _ _ => ⟨⟩) ⟨⟩ (fun _ _ _ _ => ⟨⟩) v
def sliceOf (a : Option Addr) (len : Nat) (_ : Nat) : Option (Nat × Nat × Nat) := match a with
  | some ⟨b, o, none⟩ => some (b, o, len)
  | _ => none
noncomputable def asSliceF (v : Value) : Option (Nat × Nat × Nat) := @Value.rec (fun _ => Option (Nat × Nat × Nat)) (fun _ => PUnit) (fun _ => PUnit) (fun _ => none) (fun _ _ => none) (fun _ _ => none) (fun _ _ _ => none) (fun _ => none) (fun _ => none) sliceOf (fun _ => none) (fun _ => none)
  (fun _ _ _ _ _ => none) none (fun _ _ _ => none) none (fun _ _ => none) (fun _ _ => none) (fun _ _ => ⟨⟩) ⟨⟩ (fun _ _ _ _ => ⟨⟩) v
noncomputable def asTupF (v : Value) : Option (List Value) := @Value.rec (fun _ => Option (List Value)) (fun _ => PUnit) (fun _ => PUnit) (fun _ => none) (fun _ _ => none) (fun _ _ => none) (fun _ _ _ => none) (fun _ => none) (fun _ => none) (fun _ _ _ => none) (fun _ => none) (fun _ => none)
  (fun _ _ _ _ _ => none) none (fun _ _ _ => none) none (fun _ _ => none) (fun vs _ => some vs.toList) (fun _ _ => ⟨⟩) ⟨⟩ (fun _ _ _ _ => ⟨⟩) v
noncomputable def cellsF (v : Value) : List Value := @Value.rec (fun _ => List Value) (fun _ => PUnit) (fun _ => PUnit) (fun _ => [v]) (fun _ _ => [v]) (fun _ _ => [v]) (fun _ _ _ => [v]) (fun _ => [v]) (fun _ => [v]) (fun _ _ _ => [v]) (fun _ => [v]) (fun _ => [v])
  (fun _ _ _ _ _ => [v]) [v] (fun _ _ _ => [v]) [v] (fun cs _ => cs.toList) (fun _ _ => [v]) (fun _ _ => ⟨⟩) ⟨⟩ (fun _ _ _ _ => ⟨⟩) v

noncomputable def withO {α : Type} (o : Option α) (k : α → Res3) : Res3 := Option.rec (motive := fun _ => Res3) none k o
noncomputable def with2 {α β : Type} (o : Option (α × β)) (k : α → β → Res3) : Res3 := Option.rec (motive := fun _ => Res3) none (fun p => k p.1 p.2) o
noncomputable def with3 {α β γ : Type} (o : Option (α × β × γ)) (k : α → β → γ → Res3) : Res3 := Option.rec (motive := fun _ => Res3) none (fun p => k p.1 p.2.1 p.2.2) o
def cellsOfB (b : Option Blk) : Option (List Value) := match b with
  | some (.cells c _ _ _ _) => some c
  | _ => none

/-! ### Operands -/
structure EvW where
  get : Tm → Value
noncomputable def unO (o : Option Value) : Value := Option.rec (motive := fun _ => Value) undef (fun v => v) o
noncomputable def tmpV (g : Tm → Option Value) (t : Tm) : Value := unO (g t)
def constV (v : Value) (_ : Tm) : Value := v
noncomputable def tmpW (w : GW Value 8) : EvW := match w with
  | ⟨g⟩ => ⟨tmpV g⟩
noncomputable def evW : Operand → EvW
  | .tmp t => tmpW (getK 8 t)
  | .const v => ⟨constV v⟩
  | .global g => ⟨constV (.pointer (some ⟨g, 0, none⟩))⟩
  | .func f => ⟨constV (.func (.func f) #[] #[])⟩
def evT (t : Tm) (x : Operand) : Value := match x with
  | .tmp i => match t.get i with
    | some v => v
    | none => undef
  | .const v => v
  | .global g => .pointer (some ⟨g, 0, none⟩)
  | .func f => .func (.func f) #[] #[]

/-! ### Operations, compiled -/
structure OpW where
  run : OpK
noncomputable def moveF (g : Tm → Value) (_ : Fns) (t : Tm) (S : St) (ok : OkK) (_ : PanK) : Res3 := ok (g t) S
noncomputable def movePF (g : Tm → Option Value) (_ : Fns) (t : Tm) (S : St) (ok : OkK) (_ : PanK) : Res3 := Option.rec (motive := fun _ => Res3) (ok undef S) (fun v => ok v S) (g t)
noncomputable def movePW (w : GW Value 8) : OpW := match w with
  | ⟨g⟩ => ⟨movePF g⟩
noncomputable def moveEW (w : EvW) : OpW := match w with
  | ⟨g⟩ => ⟨moveF g⟩
noncomputable def moveW : Operand → OpW
  | .tmp t => movePW (getK 8 t)
  | x => moveEW (evW x)
def noOp (_ : Fns) (_ : Tm) (_ : St) (_ : OkK) (_ : PanK) : Res3 := none

variable (P : Program)
def slowF (op : Op) (ih : Fns) (t : Tm) (S : St) (ok : OkK) (pan : PanK) : Res3 := useR (stepOp P ih (evT t) op S) ok pan

noncomputable def loadAggK (n b o : Nat) (S : St) (ok : OkK) : Res3 := withO (cellsOfB (hget S b)) fun c => withO (takeN n (dropN o c)) fun l => ok (aggL l) S
noncomputable def loadAgg (n : Nat) (g : Tm → Value) (_ : Fns) (t : Tm) (S : St) (ok : OkK) (_ : PanK) : Res3 := with2 (asPtrF (g t)) fun b o => loadAggK n b o S ok
noncomputable def loadOneK (b o : Nat) (S : St) (ok : OkK) : Res3 := withO (cellsOfB (hget S b)) fun c => withO (nth c o) fun v => ok v S
noncomputable def loadOne (g : Tm → Value) (_ : Fns) (t : Tm) (S : St) (ok : OkK) (_ : PanK) : Res3 := with2 (asPtrF (g t)) fun b o => loadOneK b o S ok
noncomputable def loadW1 (a : Option Bool) (n : Option Nat) (e : EvW) : OpW := match a, n, e with
  | some true, some n, ⟨g⟩ => ⟨loadAgg n g⟩
  | some false, _, ⟨g⟩ => ⟨loadOne g⟩
  | _, _, _ => ⟨noOp⟩
noncomputable def loadW (t : TypeId) (x : Operand) : OpW := loadW1 (aggOf P t) (szOf P t) (evW x)

noncomputable def fieldAddrF (off : Nat) (g : Tm → Value) (_ : Fns) (t : Tm) (S : St) (ok : OkK) (_ : PanK) : Res3 := with2 (asPtrF (g t)) fun b o => ok (ptrTo b (Nat.add o off)) S
noncomputable def fieldAddrW1 (off : Nat) (e : EvW) : OpW := match e with
  | ⟨g⟩ => ⟨fieldAddrF off g⟩
noncomputable def fieldAddrW (s : TypeId) (x : Operand) (i : Nat) : OpW := match P.underlying s with
  | some (.struct fields) => match nth fields.toList i with
    | some f => match szOf P f.type with
      | some (_ + 1) => fieldAddrW1 f.offset (evW x)
      | _ => ⟨noOp⟩
    | none => ⟨noOp⟩
  | _ => ⟨noOp⟩

noncomputable def idxK (n : Int) (len : Nat) (k : Nat → Res3) : Res3 := Int.rec (motive := fun _ => Res3) (fun i => Bool.rec (motive := fun _ => Res3) none (k i) (Nat.blt i len)) (fun _ => none) n
noncomputable def indexSliceF (n : Nat) (g h : Tm → Value) (_ : Fns) (t : Tm) (S : St) (ok : OkK) (_ : PanK) : Res3 :=
  with2 (asIntF (h t)) fun _ i => with3 (asSliceF (g t)) fun b o len => idxK i len fun j => ok (ptrTo b (Nat.add o (Nat.mul j n))) S
noncomputable def indexArrF (len n : Nat) (g h : Tm → Value) (_ : Fns) (t : Tm) (S : St) (ok : OkK) (_ : PanK) : Res3 :=
  with2 (asIntF (h t)) fun _ i => with2 (asPtrF (g t)) fun b o => idxK i len fun j => ok (ptrTo b (Nat.add o (Nat.mul j n))) S
noncomputable def indexW1 (arr : Option Nat) (n : Nat) (e f : EvW) : OpW := match arr, e, f with
  | some len, ⟨g⟩, ⟨h⟩ => ⟨indexArrF len n g h⟩
  | none, ⟨g⟩, ⟨h⟩ => ⟨indexSliceF n g h⟩
noncomputable def indexAddrW (ty : TypeId) (x i : Operand) : OpW := match P.underlying ty with
  | some (.array len elem) => match szOf P elem with
    | some n => indexW1 (some len) n (evW x) (evW i)
    | none => ⟨noOp⟩
  | some (.slice elem) => match szOf P elem with
    | some n => indexW1 none n (evW x) (evW i)
    | none => ⟨noOp⟩
  | _ => ⟨noOp⟩

/-! integers -/
def two63 : Nat := 9223372036854775808
def two64 : Nat := 18446744073709551616
def wrapF (k : IntKind) (n : Int) : Int := match k, n with
  | .i64, .ofNat m => bif Nat.blt m 9223372036854775808 then .ofNat m else IntKind.i64.wrap (.ofNat m)
  | .i64, .negSucc m => bif Nat.blt m 9223372036854775808 then .negSucc m else IntKind.i64.wrap (.negSucc m)
  | .u64, .ofNat m => bif Nat.blt m 18446744073709551616 then .ofNat m else IntKind.u64.wrap (.ofNat m)
  | k, n => k.wrap n
def ltI : Int → Int → Bool
  | .ofNat a, .ofNat b => Nat.blt a b
  | .ofNat _, .negSucc _ => false
  | .negSucc _, .ofNat _ => true
  | .negSucc a, .negSucc b => Nat.blt b a
def eqI : Int → Int → Bool
  | .ofNat a, .ofNat b => Nat.beq a b
  | .negSucc a, .negSucc b => Nat.beq a b
  | _, _ => false
def kindNo : IntKind → Nat
  | .i8 => 0
  | .i16 => 1
  | .i32 => 2
  | .i64 => 3
  | .u8 => 4
  | .u16 => 5
  | .u32 => 6
  | .u64 => 7
def sameK (j k : IntKind) : Bool := Nat.beq (kindNo j) (kindNo k)

abbrev BinI := IntKind → Int → Int → Value
noncomputable def binK2 (f : BinI) (slow : Res3) (k : IntKind) (a : Int) (S : St) (ok : OkK) (o : Option (IntKind × Int)) : Res3 :=
  Option.rec (motive := fun _ => Res3) slow (fun p => Bool.rec (motive := fun _ => Res3) none (ok (f k a p.2) S) (sameK k p.1)) o
noncomputable def binK1 (f : BinI) (slow : Res3) (S : St) (ok : OkK) (o o' : Option (IntKind × Int)) : Res3 :=
  Option.rec (motive := fun _ => Res3) slow (fun p => binK2 f slow p.1 p.2 S ok o') o
noncomputable def binF (f : BinI) (sl : OpK) (g h : Tm → Value) (ih : Fns) (t : Tm) (S : St) (ok : OkK) (pan : PanK) : Res3 :=
  binK1 f (sl ih t S ok pan) S ok (asIntF (g t)) (asIntF (h t))
def addI (k : IntKind) (a b : Int) : Value := .int k (wrapF k (Int.add a b))
def subI (k : IntKind) (a b : Int) : Value := .int k (wrapF k (Int.sub a b))
def mulI (k : IntKind) (a b : Int) : Value := .int k (wrapF k (Int.mul a b))
def eqlI (_ : IntKind) (a b : Int) : Value := .bool (eqI a b)
def neqI (_ : IntKind) (a b : Int) : Value := .bool (!eqI a b)
def lssI (_ : IntKind) (a b : Int) : Value := .bool (ltI a b)
def leqI (_ : IntKind) (a b : Int) : Value := .bool (!ltI b a)
def gtrI (_ : IntKind) (a b : Int) : Value := .bool (ltI b a)
def geqI (_ : IntKind) (a b : Int) : Value := .bool (!ltI a b)
def binFn (op : BinOp) : Option BinI := match op with
  | .add => some addI
  | .sub => some subI
  | .mul => some mulI
  | .eql => some eqlI
  | .neq => some neqI
  | .lss => some lssI
  | .leq => some leqI
  | .gtr => some gtrI
  | .geq => some geqI
  | _ => none
noncomputable def binW1 (f : Option BinI) (sl : OpK) (e e' : EvW) : OpW := match f, e, e' with
  | some f, ⟨g⟩, ⟨h⟩ => ⟨binF f sl g h⟩
  | none, _, _ => ⟨sl⟩
noncomputable def binW (op : BinOp) (t : TypeId) (x y : Operand) (yt : TypeId) : OpW := binW1 (binFn op) (slowF P (.binOp op t x y yt)) (evW x) (evW y)

noncomputable def extractF (i : Nat) (g : Tm → Value) (_ : Fns) (t : Tm) (S : St) (ok : OkK) (_ : PanK) : Res3 := withO (asTupF (g t)) fun l => withO (nth l i) fun v => ok v S
noncomputable def extractW (i : Nat) (e : EvW) : OpW := match e with
  | ⟨g⟩ => ⟨extractF i g⟩
noncomputable def pickF (c a b : Tm → Value) (_ : Fns) (t : Tm) (S : St) (ok : OkK) (_ : PanK) : Res3 := withO (asBoolF (c t)) fun x => Bool.rec (motive := fun _ => Res3) (ok (b t) S) (ok (a t) S) x
noncomputable def pickW (c a b : EvW) : OpW := match c, a, b with
  | ⟨f⟩, ⟨g⟩, ⟨h⟩ => ⟨pickF f g h⟩
noncomputable def notF (g : Tm → Value) (_ : Fns) (t : Tm) (S : St) (ok : OkK) (_ : PanK) : Res3 := withO (asBoolF (g t)) fun x => ok (.bool (not x)) S
noncomputable def notW (e : EvW) : OpW := match e with
  | ⟨g⟩ => ⟨notF g⟩

/-! memory -/
noncomputable def newAt (h : Hp) (x : Blk) (ok : OkK) (n : Nat) : Res3 := ok (ptrTo n 0) ⟨hset h n (some x), Nat.succ n⟩
noncomputable def newF (x : Blk) (S : St) (ok : OkK) : Res3 := Nat.rec (motive := fun _ => Res3) (newAt S.heap x ok 0) (fun m _ => newAt S.heap x ok (Nat.succ m)) S.size
noncomputable def allocF (x : Blk) (_ : Fns) (_ : Tm) (S : St) (ok : OkK) (_ : PanK) : Res3 := newF x S ok
noncomputable def allocW (z : Option (List Value)) (e : TypeId) : OpW := match z with
  | some z => ⟨allocF (.cells z e false true [])⟩
  | none => ⟨noOp⟩
noncomputable def boxF (e : TypeId) (g : Tm → Value) (_ : Fns) (t : Tm) (S : St) (ok : OkK) (_ : PanK) : Res3 := newF (.cells (cellsF (g t)) e false true []) S ok
noncomputable def boxW (e : TypeId) (x : EvW) : OpW := match x with
  | ⟨g⟩ => ⟨boxF e g⟩

/-- the block's own cells turned: only a block that shares memory with no other is written here -/
noncomputable def writeB (S : St) (b o : Nat) (vs : List Value) (slow : Res3) (ok : OkK) (x : Option Blk) : Res3 := match x with
  | some (.cells c e row true []) => withO (setN o vs c) fun c' => ok undef ⟨hset S.heap b (some (.cells c' e row true [])), S.size⟩
  | _ => slow
noncomputable def storeK (n : Nat) (S : St) (b o : Nat) (vs : List Value) (slow : Res3) (ok : OkK) : Res3 :=
  Bool.rec (motive := fun _ => Res3) none (writeB S b o vs slow ok (hget S b)) (Nat.beq vs.length n && vs.all cellV && Nat.blt 0 vs.length)
noncomputable def storeF (n : Nat) (sl : OpK) (g h : Tm → Value) (ih : Fns) (t : Tm) (S : St) (ok : OkK) (pan : PanK) : Res3 :=
  with2 (asPtrF (g t)) fun b o => storeK n S b o (cellsF (h t)) (sl ih t S ok pan) ok
noncomputable def storeW (n : Option Nat) (sl : OpK) (e e' : EvW) : OpW := match n, e, e' with
  | some n, ⟨g⟩, ⟨h⟩ => ⟨storeF n sl g h⟩
  | none, _, _ => ⟨noOp⟩

/-- calls of a function of the program by its number -/
def endR (r : Option (Ending × St)) (ok : OkK) (pan : PanK) : Res3 := match r with
  | some (.returned v, S') => ok v S'
  | some (.panicked ch, S') => pan ch S'
  | _ => none
def argsOf : List (Tm → Value) → Tm → List Value
  | [], _ => []
  | g :: r, t => g t :: argsOf r t
def callFnF (f : FuncId) (gs : List (Tm → Value)) (ih : Fns) (t : Tm) (S : St) (ok : OkK) (pan : PanK) : Res3 := endR (ih.call (.fn (.func f) #[]) (argsOf gs t) S) ok pan
noncomputable def getsOf : List Operand → List (Tm → Value)
  | [] => []
  | x :: r => (evW x).get :: getsOf r
noncomputable def callW (c : Call) (op : Op) : OpW := match c.callee with
  | .value (.func f) => ⟨callFnF f (getsOf c.args.toList)⟩
  | _ => ⟨slowF P op⟩

/-! the others, each by its own function -/
noncomputable def evF (e : EvW) (t : Tm) : Value := EvW.rec (motive := fun _ => Value) (fun g => g t) e
noncomputable def evA (t : Tm) (x : Operand) : Value := evF (evW x) t
noncomputable def pureK (f : (Operand → Value) → Option Value) (_ : Fns) (t : Tm) (S : St) (ok : OkK) (_ : PanK) : Res3 := withO (f (evA t)) fun v => ok v S
noncomputable def readK (f : (Operand → Value) → St → Option Value) (_ : Fns) (t : Tm) (S : St) (ok : OkK) (_ : PanK) : Res3 := withO (f (evA t) S) fun v => ok v S
noncomputable def newK (f : (Operand → Value) → St → Option (Value × St)) (_ : Fns) (t : Tm) (S : St) (ok : OkK) (_ : PanK) : Res3 := with2 (f (evA t) S) ok
def mapE (ρ : Operand → Value) : List (Nat × Operand) → List (Nat × Value)
  | [] => []
  | x :: r => (x.1, ρ x.2) :: mapE ρ r
def buildO (t : TypeId) (l : List (Nat × Operand)) (ρ : Operand → Value) : Option Value := buildV P t (mapE ρ l)
def nilO (x : Operand) (ρ : Operand → Value) : Option Value := nilCheckV (ρ x)
def fieldO (t : TypeId) (x : Operand) (i : Nat) (ρ : Operand → Value) : Option Value := fieldV P t (ρ x) i
def indexO (t : TypeId) (x i : Operand) (ρ : Operand → Value) : Option Value := indexV P t (ρ x) (ρ i)
def lenO (t : TypeId) (x : Operand) (ρ : Operand → Value) (S : St) : Option Value := lenV P t (ρ x) S
def sliceO (t : TypeId) (x : Operand) (lo hi mx : Option Operand) (ρ : Operand → Value) (S : St) : Option Value := sliceV P t (ρ x) (lo.map ρ) (hi.map ρ) (mx.map ρ) S
def buildSliceO (t : TypeId) (len : Nat) (parts : Array (Nat × Operand)) (ρ : Operand → Value) (S : St) : Option (Value × St) := newOp P ρ (.buildSlice t len parts) S
def mapO (ρ : Operand → Value) : List Operand → List Value
  | [] => []
  | x :: r => ρ x :: mapO ρ r
def builtinO (b : Builtin) (ts : List TypeId) (args : List Operand) (ρ : Operand → Value) (S : St) : Option (Value × St) := builtinV P b ts (mapO ρ args) S
noncomputable def builtinW (b : Builtin) (args : List Operand) (ts : List TypeId) (op : Op) : OpW := match b, args, ts with
  | .len, [x], t :: _ => ⟨readK (lenO P t x)⟩
  | .len, _, _ => ⟨slowF P op⟩
  | b, args, ts => ⟨newK (builtinO P b ts args)⟩
noncomputable def callW2 (c : Call) (op : Op) : OpW := match c.callee with
  | .builtin b => builtinW P b c.args.toList c.argTypes.toList op
  | _ => callW P c op

noncomputable def opW (op : Op) : OpW := match op with
  | .move x => moveW x
  | .assign x => moveW x
  | .pick c a b => pickW (evW c) (evW a) (evW b)
  | .load t x => loadW P t x
  | .fieldAddr s x i => fieldAddrW P s x i
  | .indexAddr t x i => indexAddrW P t x i
  | .binOp o t x y yt => binW P o t x y yt
  | .unOp .not _ x => notW (evW x)
  | .extract x i => extractW i (evW x)
  | .alloc e => allocW (zeroOf P e) e
  | .box e x => boxW e (evW x)
  | .store t a x => storeW (szOf P t) (slowF P (.store t a x)) (evW a) (evW x)
  | .build t parts => ⟨pureK (buildO P t parts.toList)⟩
  | .nilCheck x => ⟨pureK (nilO x)⟩
  | .field t x i => ⟨pureK (fieldO P t x i)⟩
  | .index t x i => ⟨pureK (indexO P t x i)⟩
  | .slice t x lo hi mx => ⟨readK (sliceO P t x lo hi mx)⟩
  | .buildSlice t len parts => ⟨newK (buildSliceO P t len parts)⟩
  | .call c => callW2 P c (.call c)
  | op => ⟨slowF P op⟩

/-! ### Regions in the order of the text -/
abbrev StepK := Fns → Nat → Tm → St → (Tm → St → Res3) → PanK → Res3
structure StepW where
  run : StepK
noncomputable def putK (s : Option Value → Tm → Tm) (d n : Nat) (t : Tm) (k : Tm → St → Res3) (v : Value) (S : St) : Res3 := Bool.rec (motive := fun _ => Res3) none (k (s (some v) t) S) (Nat.blt d n)
noncomputable def stepDr (s : Option Value → Tm → Tm) (d : Nat) (f : OpK) (ih : Fns) (n : Nat) (t : Tm) (S : St) (k : Tm → St → Res3) (pan : PanK) : Res3 := f ih t S (putK s d n t k) pan
def dropK (t : Tm) (k : Tm → St → Res3) (_ : Value) (S : St) : Res3 := k t S
def stepN (f : OpK) (ih : Fns) (_ : Nat) (t : Tm) (S : St) (k : Tm → St → Res3) (pan : PanK) : Res3 := f ih t S (dropK t k) pan
def isB (v : Option Value) (w : Bool) : Bool := match v with
  | some (.bool b) => b == w
  | _ => false
noncomputable def stepG (g : Tm → Option Value) (w : Bool) (yes no : StepK) (ih : Fns) (n : Nat) (t : Tm) (S : St) (k : Tm → St → Res3) (pan : PanK) : Res3 :=
  Bool.rec (motive := fun _ => Res3) (no ih n t S k pan) (yes ih n t S k pan) (isB (g t) w)
noncomputable def plainW (dst : Option Tmp) (f : OpK) : StepW := match dst with
  | none => ⟨stepN f⟩
  | some d => match (setK 8 d : SW Value 8) with
    | ⟨s⟩ => ⟨stepDr s d f⟩
def undefF (_ : Fns) (_ : Tm) (S : St) (ok : OkK) (_ : PanK) : Res3 := ok undef S
noncomputable def guardW (g : GW Value 8) (w : Bool) (y n : StepW) : StepW := match g, y, n with
  | ⟨g⟩, ⟨y⟩, ⟨n⟩ => ⟨stepG g w y n⟩
noncomputable def opOf (w : OpW) : OpK := match w with
  | ⟨f⟩ => f
noncomputable def plainOp (dst : Option Tmp) (w : OpW) : StepW := match w with
  | ⟨f⟩ => plainW dst f
noncomputable def stepW (full : List Oper) (o : Oper) : StepW := match o.guard with
  | none => plainOp o.dst (opW P o.op)
  | some (j, w) => match nth full j with
    | some oj => match oj.dst with
      | some d => guardW (getK 8 d) w (plainOp o.dst (opW P o.op)) (plainW o.dst undefF)
      | none => plainW o.dst undefF
    | none => plainW o.dst undefF
noncomputable def compL (full : List Oper) (l : List Oper) : List StepW := List.rec (motive := fun _ => List StepW) [] (fun o _ ih => stepW P full o :: ih) l
noncomputable def stepRun (w : StepW) (ih : Fns) (n : Nat) (t : Tm) (S : St) (k : Tm → St → Res3) (pan : PanK) : Res3 := StepW.rec (motive := fun _ => Res3) (fun f => f ih n t S k pan) w
def panA (n : Nat) (t : Tm) (df : List Deferred) (ch : List PanicEntry) (S : St) : Res3 := some (.panic ch, ⟨n, t, df⟩, S)
noncomputable def runC (ih : Fns) (n : Nat) (df : List Deferred) (l : List StepW) : Tm → St → Res3 :=
  List.rec (motive := fun _ => Tm → St → Res3) (fun t S => some (.normal, ⟨n, t, df⟩, S)) (fun c _ rest t S => stepRun c ih n t S rest (panA n t df)) l

/-! ### Regions that draw their order -/
abbrev Ent := Nat × (St → Res3 → Res3)
abbrev PlK := Fns → Nat → List Deferred → Tm → St → List Ent → (List Ent → Tm → St → Res3) → Res3
structure PlW where
  run : PlK
noncomputable def sameK2 (v : Value) (k : Res3) (w : Value) (_ : St) : Res3 := Bool.rec (motive := fun _ => Res3) none k (sameV 100000 v w)
def noPan (_ : List PanicEntry) (_ : St) : Res3 := none
noncomputable def lookE (f : OpK) (ih : Fns) (t : Tm) (v : Value) (S : St) (k : Res3) : Res3 := f ih t S (sameK2 v k) noPan
noncomputable def freshE (P : Program) (c : Chk) (S : St) (k : Res3) : Res3 := Bool.rec (motive := fun _ => Res3) none k (Chk.ok P S c)
noncomputable def allE (S : St) (k : Res3) (l : List Ent) : Res3 := List.rec (motive := fun _ => Res3) k (fun e _ ih => e.2 S ih) l
def keepE (bef : Nat) : List Ent → List Ent
  | [] => []
  | e :: r => bif bef.testBit e.1 then keepE bef r else e :: keepE bef r
abbrev PutK := Nat → Tm → Value → (Tm → Res3) → Res3
noncomputable def putD (s : Option Value → Tm → Tm) (d : Nat) (n : Nat) (t : Tm) (v : Value) (k : Tm → Res3) : Res3 := Bool.rec (motive := fun _ => Res3) none (k (s (some v) t)) (Nat.blt d n)
def putN (_ : Nat) (t : Tm) (_ : Value) (k : Tm → Res3) : Res3 := k t
noncomputable def putOf (dst : Option Tmp) : PutK := match dst with
  | none => putN
  | some d => match (setK 8 d : SW Value 8) with
    | ⟨s⟩ => putD s d
def plPlain (p : PutK) (f : OpK) (ih : Fns) (n : Nat) (_ : List Deferred) (t : Tm) (S : St) (l : List Ent) (k : List Ent → Tm → St → Res3) : Res3 := f ih t S (fun v S' => p n t v fun t' => k l t' S') noPan
noncomputable def plLook (i : Nat) (p : PutK) (f : OpK) (ih : Fns) (n : Nat) (_ : List Deferred) (t : Tm) (S : St) (l : List Ent) (k : List Ent → Tm → St → Res3) : Res3 := f ih t S (fun v S' => p n t v fun t' => k ((i, lookE f ih t v) :: l) t' S') noPan
noncomputable def plFresh (i : Nat) (p : PutK) (f : OpK) (ih : Fns) (n : Nat) (_ : List Deferred) (t : Tm) (S : St) (l : List Ent) (k : List Ent → Tm → St → Res3) : Res3 :=
  f ih t S (fun v S' => p n t v fun t' => withO (chkOf S' S.size) fun c => Option.rec (motive := fun _ => Res3) (k ((i, freshE P c) :: l) t' S') (fun _ => none) (hget S S.size)) noPan
noncomputable def plHeavy (bef : Nat) (p : PutK) (f : OpK) (ih : Fns) (n : Nat) (_ : List Deferred) (t : Tm) (S : St) (l : List Ent) (k : List Ent → Tm → St → Res3) : Res3 :=
  f ih t S (fun v S' => p n t v fun t' => allE S' (k (keepE bef l) t' S') (keepE bef l)) noPan
noncomputable def plGuard (g : Tm → Option Value) (w : Bool) (yes no : PlK) (ih : Fns) (n : Nat) (df : List Deferred) (t : Tm) (S : St) (l : List Ent) (k : List Ent → Tm → St → Res3) : Res3 :=
  Bool.rec (motive := fun _ => Res3) (no ih n df t S l k) (yes ih n df t S l k) (isB (g t) w)
noncomputable def plOp (bef : Nat) (o : Oper) (i : Nat) (f : OpK) : PlK := match kindOf o.op with
  | .read => bif looks o.op then plLook i (putOf o.dst) f else plPlain (putOf o.dst) f
  | .fresh => plFresh P i (putOf o.dst) f
  | .heavy => plHeavy bef (putOf o.dst) f
noncomputable def plGuardW (g : GW Value 8) (w : Bool) (y n : PlK) : PlW := match g with
  | ⟨g⟩ => ⟨plGuard g w y n⟩
noncomputable def plOpW (full : List Oper) (bef : Nat) (o : Oper) (i : Nat) (w : OpW) : PlW := match w with
  | ⟨f⟩ => match o.guard with
    | none => ⟨plOp P bef o i f⟩
    | some (j, w) => match nth full j with
      | some oj => match oj.dst with
        | some d => plGuardW (getK 8 d) w (plOp P bef o i f) (plPlain (putOf o.dst) undefF)
        | none => ⟨plPlain (putOf o.dst) undefF⟩
      | none => ⟨plPlain (putOf o.dst) undefF⟩
noncomputable def compP (full : List Oper) (bef : List Nat) (l : List (Oper × Nat)) : List PlW :=
  List.rec (motive := fun _ => List PlW) [] (fun x _ ih => plOpW P full ((nth bef x.2).getD 0) x.1 x.2 (opW P x.1.op) :: ih) l
noncomputable def plRun (w : PlW) : PlK := PlW.rec (motive := fun _ => PlK) (fun f => f) w
noncomputable def runPl (ih : Fns) (n : Nat) (df : List Deferred) (l : List PlW) : List Ent → Tm → St → Res3 :=
  List.rec (motive := fun _ => List Ent → Tm → St → Res3) (fun _ t S => some (.normal, ⟨n, t, df⟩, S)) (fun c _ rest e t S => plRun c ih n df t S e rest) l

/-! ### Code -/
structure CodeW where
  run : Fns → Option Nat → Ca → St → Res3
noncomputable def regionF (l : List StepW) (ih : Fns) (_ : Option Nat) (a : Ca) (S : St) : Res3 := Ca.rec (motive := fun _ => Res3) (fun n t df => runC ih n df l t S) a
noncomputable def drawF (l : List PlW) (ih : Fns) (_ : Option Nat) (a : Ca) (S : St) : Res3 := Ca.rec (motive := fun _ => Res3) (fun n t df => runPl ih n df l [] t S) a
def constF (e : Exit) (_ : Fns) (_ : Option Nat) (a : Ca) (S : St) : Res3 := some (e, a, S)
def seqK (y : Code) (ih : Fns) (ro : Option Nat) (r : Res3) : Res3 := match r with
  | some (.normal, a', S') => ih.exec ro y a' S'
  | r => r
def seqF (x y : Code) (ih : Fns) (ro : Option Nat) (a : Ca) (S : St) : Res3 := seqK y ih ro (ih.exec ro x a S)
noncomputable def condK (x y : Res3) (o : Option Bool) : Res3 := withO o fun b => Bool.rec (motive := fun _ => Res3) y x b
noncomputable def condF (g : Tm → Value) (x y : Code) (ih : Fns) (ro : Option Nat) (a : Ca) (S : St) : Res3 := condK (ih.exec ro x a S) (ih.exec ro y a S) (asBoolF (g a.t))
noncomputable def condW (e : EvW) (x y : Code) : CodeW := match e with
  | ⟨g⟩ => ⟨condF g x y⟩
def blockK (id : Nat) (r : Res3) : Res3 := match r with
  | some (.exit j, a', S') => bif Nat.beq j id then some (.normal, a', S') else some (.exit j, a', S')
  | r => r
def blockF (id : Nat) (c : Code) (ih : Fns) (ro : Option Nat) (a : Ca) (S : St) : Res3 := blockK id (ih.exec ro c a S)
def loopF (c : Code) (ih : Fns) (ro : Option Nat) (a : Ca) (S : St) : Res3 := seqK (.loop c) ih ro (ih.exec ro c a S)
def elseF (code : Code) (ih : Fns) (ro : Option Nat) (a : Ca) (S : St) : Res3 := execF P ih ro code a S
def noCode (_ : Fns) (_ : Option Nat) (_ : Ca) (_ : St) : Res3 := none
noncomputable def drawW (full : List Oper) (o : Option (List Nat × List (Oper × Nat))) : CodeW := match o with
  | some (bef, pl) => ⟨drawF (compP P full bef pl)⟩
  | none => ⟨noCode⟩
noncomputable def regionW (ops : List Oper) (draw : Bool) : CodeW := bif constsOk P ops then (bif draw then drawW P ops (planW ops) else ⟨regionF (compL P ops ops)⟩) else ⟨noCode⟩
noncomputable def codeW (code : Code) : CodeW := match code with
  | .skip => ⟨constF .normal⟩
  | .label _ => ⟨constF .normal⟩
  | .exit id => ⟨constF (.exit id)⟩
  | .ret => ⟨constF .ret⟩
  | .region _ ops draw => regionW P ops.toList draw
  | .seq x y => ⟨seqF x y⟩
  | .cond c x y => condW (evW c) x y
  | .block id c => ⟨blockF id c⟩
  | .loop c => ⟨loopF c⟩
  | code => ⟨elseF P code⟩
noncomputable def execW (w : CodeW) (ih : Fns) (ro : Option Nat) (a : Ca) (S : St) : Res3 := CodeW.rec (motive := fun _ => Res3) (fun f => f ih ro a S) w
noncomputable def execG (ih : Fns) (ro : Option Nat) (code : Code) (a : Ca) (S : St) : Res3 := execW (codeW P code) ih ro a S

/-! ### Calls -/
inductive EntW where
  | bad
  | ext
  | go (n : Nat) (c : Code) (rs : List ResultVar)
def entW (f : FuncId) : EntW := match P.funcs[f]? with
  | some fn => match fn.body with
    | some c => bif fn.name == "runtime.NumGoroutine" then .bad else .go fn.ntmps c fn.results.toList
    | none => .ext
  | none => .bad
noncomputable def setArgs (i : Nat) (l : List Value) : Tm → Tm := List.rec (motive := fun _ => Nat → Tm → Tm) (fun _ t => t) (fun v _ ih i t => ih (Nat.succ i) (appS (setK 8 i) (some v) t)) l i
noncomputable def resG (t : Tm) (S : St) : List ResultVar → Option (List Value)
  | [] => some []
  | .tmp x :: r => match resG t S r with
    | some l => some (evA t (.tmp x) :: l)
    | none => none
  | .cell x e :: r => match loadV P e (evA t (.tmp x)) S, resG t S r with
    | some v, some l => some (v :: l)
    | _, _ => none
abbrev Res2 := Option (Ending × St)
def retV (S : St) (l : Option (List Value)) : Res2 := match l with
  | some [v] => some (.returned v, S)
  | some vs => some (.returned (.tuple vs.toArray), S)
  | none => none
noncomputable def retG (rs : List ResultVar) (t : Tm) (S : Option St) : Res2 := Option.rec (motive := fun _ => Res2) none (fun S => retV S (resG P t S rs)) S
def panG (ch : List PanicEntry) (S : Option St) : Res2 := match S with
  | some S => some (.panicked ch, S)
  | none => none
noncomputable def leave1 (rs : List ResultVar) (S : St) (e : Exit) (t : Tm) (df : List Deferred) : Res2 := match e with
  | .normal => retG P rs t (takeMarks df S)
  | .ret => retG P rs t (takeMarks df S)
  | .panic ch => panG ch (takeMarks df S)
  | _ => none
noncomputable def leaveG (rs : List ResultVar) (r : Res3) : Res2 := match r with
  | some (e, ⟨_, t, df⟩, S) => leave1 P rs S e t df
  | none => none
noncomputable def goG (ih : Fns) (n : Nat) (c : Code) (rs : List ResultVar) (args : List Value) (S : St) : Res2 :=
  bif Nat.blt 256 n then none else leaveG P rs (ih.exec none c ⟨n, setArgs 0 args (PT.nil 8), []⟩ S)
def extG (r : Option (Value × St)) : Res2 := match r with
  | some (v, S) => some (.returned v, S)
  | none => none
noncomputable def enterG (K : Known) (ih : Fns) (f : FuncId) (args : List Value) (S : St) (w : EntW) : Res2 := match w with
  | .bad => none
  | .ext => extG (K.ext f args S)
  | .go n c rs => goG P ih (maxN n args.length) c rs args S
noncomputable def callG (K : Known) (ih : Fns) (target : Target) (args : List Value) (S : St) : Res2 := match target with
  | .fn (.func f) ⟨[]⟩ => match K.call f args with
    | some v => some (.returned v, S)
    | none => bif K.defers f then enterD P ih f args S else enterG P K ih f args S (entW P f)
  | t => callF P K ih t args S

noncomputable def fnsG (K : Known) (n : Nat) : Fns :=
  Nat.rec (motive := fun _ => Fns) ⟨fun _ _ _ _ => none, fun _ _ _ => none⟩ (fun _ ih => ⟨execG P ih, callG P K ih⟩) n
end Go.Cm
