/-
  CM: a canonical machine: a deterministic evaluator of the model's programs over a memory of its own.
  CmSound proves: what it answers, the model answers in every world, on every tape.
-/
import Derived.Calls
namespace Go.Cm

/-! ### Tables that are indexed by numbers: pairs of pairs -/
def PT (α : Type) : Nat → Type
  | 0 => Option α
  | d + 1 => PT α d × PT α d
namespace PT
variable {α : Type}
def nil : (d : Nat) → PT α d
  | 0 => (none : Option α)
  | d + 1 => (nil d, nil d)
def at_ : (d : Nat) → PT α d → Nat → Option α
  | 0, t, _ => t
  | d + 1, t, k => bif Nat.beq (k % 2) 0 then at_ d t.1 (k / 2) else at_ d t.2 (k / 2)
def upd (v : Option α) : (d : Nat) → PT α d → Nat → PT α d
  | 0, _, _ => v
  | d + 1, t, k => bif Nat.beq (k % 2) 0 then (upd v d t.1 (k / 2), t.2) else (t.1, upd v d t.2 (k / 2))
def get {d : Nat} (t : PT α d) (k : Nat) : Option α := bif Nat.blt k (2 ^ d) then at_ d t k else none
def set {d : Nat} (t : PT α d) (k : Nat) (v : Option α) : PT α d := bif Nat.blt k (2 ^ d) then upd v d t k else t
def ofList {d : Nat} (k : Nat) (t : PT α d) : List α → PT α d
  | [] => t
  | x :: r => ofList (k + 1) (t.set k (some x)) r
end PT
abbrev Tm := PT Value 8

/-! ### Memory -/
inductive Blk where
  /-- a row of cells; row: its element's type is a slice's; own: it may be written; kin: older blocks that may lie in the same memory -/
  | cells (c : List Value) (elem : TypeId) (row own : Bool) (kin : List Nat)
  | map (es : List MapEntry) (clock : Nat)
  | iter (s : List UInt8) (pos : Nat)
  | loop (state : LoopState) (pending : Option Code) (n : Nat) (tmps : Tm) (params : List Tmp) (assign body : Code) (defers : Nat)
  | defs (taken : Bool)
  /-- an iterator over a map that had no entry -/
  | mapIt (m : Nat)

structure St where
  heap : PT Blk 16
  size : Nat

def St.get (S : St) (b : Nat) : Option Blk := S.heap.get b
def St.set (S : St) (b : Nat) (x : Blk) : St := { S with heap := S.heap.set b (some x) }
def St.kill (S : St) : List Nat → St
  | [] => S
  | b :: r => St.kill { S with heap := S.heap.set b none } r
def St.new (S : St) (x : Blk) : Nat × St := (S.size, { heap := S.heap.set S.size (some x), size := S.size + 1 })

/-! ### Activations -/
structure Ca where
  n : Nat
  t : Tm
  defers : List Deferred

def Ca.get (a : Ca) (t : Tmp) : Value := match a.t.get t with
  | some v => v
  | none => undef
def Ca.ev (a : Ca) : Operand → Value
  | .tmp t => a.get t
  | .const v => v
  | .global g => .pointer (some ⟨g, 0, none⟩)
  | .func f => .func (.func f) #[] #[]
def Ca.put (a : Ca) (dst : Option Tmp) (v : Value) : Option Ca :=
  match dst with
  | none => some a
  | some d => bif Nat.blt d a.n then some { a with t := a.t.set d (some v) } else none

/-! ### Lists -/
def takeN {α : Type} : Nat → List α → Option (List α)
  | 0, _ => some []
  | _ + 1, [] => none
  | n + 1, x :: l => match takeN n l with
    | some r => some (x :: r)
    | none => none
def dropN {α : Type} : Nat → List α → List α
  | 0, l => l
  | _ + 1, [] => []
  | n + 1, _ :: l => dropN n l
def nth {α : Type} : List α → Nat → Option α
  | [], _ => none
  | x :: _, 0 => some x
  | _ :: l, n + 1 => nth l n
/-- new cells from place o on; none where they do not fit -/
def setN {α : Type} : Nat → List α → List α → Option (List α)
  | _, [], l => some l
  | 0, _ :: _, [] => none
  | 0, x :: xs, _ :: l => match setN 0 xs l with
    | some r => some (x :: r)
    | none => none
  | _ + 1, _ :: _, [] => none
  | o + 1, x :: xs, y :: l => match setN o (x :: xs) l with
    | some r => some (y :: r)
    | none => none

def sameBytes : List UInt8 → List UInt8 → Bool
  | [], [] => true
  | a :: l, b :: r => bif Nat.beq a.toNat b.toNat then sameBytes l r else false
  | _, _ => false
def lessBytes : List UInt8 → List UInt8 → Bool
  | _, [] => false
  | [], _ :: _ => true
  | a :: x, b :: y => bif Nat.blt a.toNat b.toNat then true else bif Nat.beq a.toNat b.toNat then lessBytes x y else false

def cellsL : Value → List Value
  | .agg cs => cs.toList
  | v => [v]
def aggL (l : List Value) : Value := .agg l.toArray
def replL {α : Type} : Nat → List α → List α
  | 0, _ => []
  | n + 1, l => l ++ replL n l

/-! values without addresses -/
mutual
def flatV : Nat → Value → Bool
  | 0, _ => false
  | _ + 1, .bool _ => true
  | _ + 1, .int _ _ => true
  | _ + 1, .float _ _ => true
  | _ + 1, .complex _ _ _ => true
  | _ + 1, .string _ => true
  | _ + 1, .pointer none => true
  | _ + 1, .slice none 0 0 => true
  | _ + 1, .map none => true
  | _ + 1, .nilFunc => true
  | _ + 1, .func (.func _) ⟨[]⟩ ⟨[]⟩ => true
  | _ + 1, .nilIface => true
  | n + 1, .iface _ v => flatV n v
  | n + 1, .agg a => flatL n a.toList
  | n + 1, .tuple a => flatL n a.toList
  | _ + 1, _ => false
def flatL : Nat → List Value → Bool
  | 0, _ => false
  | _ + 1, [] => true
  | n + 1, v :: l => flatV n v && flatL n l
end
def flatN : Nat := 1000000

/-- one cell's value -/
def cellV : Value → Bool
  | .agg _ => false
  | .tuple _ => false
  | _ => true

section
variable (P : Program)

def szOf (t : TypeId) : Option Nat := match P.info? t with
  | some i => some i.size
  | none => none
def zeroV (t : TypeId) : Option Value := match P.info? t with
  | some i => match i.zero with
    | some v => bif flatV flatN v then some v else none
    | none => none
  | none => none
def zeroOf (t : TypeId) : Option (List Value) := match zeroV P t with
  | some v => some (cellsL v)
  | none => none
def aggOf (t : TypeId) : Option Bool := match P.underlying t with
  | some (.struct _) | some (.array _ _) => some true
  | some _ => some false
  | none => none

/-- a part of an aggregate -/
def partL (t : TypeId) (cs : List Value) (off : Nat) : Option Value :=
  match aggOf P t with
  | some true => match szOf P t with
    | some n => match takeN n (dropN off cs) with
      | some l => some (aggL l)
      | none => none
    | none => none
  | some false => nth cs off
  | none => none

/-! ### Values -/
def intBin (op : BinOp) (k : IntKind) (a b : Int) : Option Value :=
  match op with
  | .add => some (.int k (k.wrap (a + b)))
  | .sub => some (.int k (k.wrap (a - b)))
  | .mul => some (.int k (k.wrap (a * b)))
  | .quo => if b = 0 then none else some (.int k (k.wrap (a.tdiv b)))
  | .rem => if b = 0 then none else some (.int k (a.tmod b))
  | .and => some (.int k (k.wrap (BitVec.ofInt k.bits a &&& BitVec.ofInt k.bits b).toNat))
  | .or => some (.int k (k.wrap (BitVec.ofInt k.bits a ||| BitVec.ofInt k.bits b).toNat))
  | .xor => some (.int k (k.wrap (BitVec.ofInt k.bits a ^^^ BitVec.ofInt k.bits b).toNat))
  | .andNot => some (.int k (k.wrap (BitVec.ofInt k.bits a &&& ~~~ BitVec.ofInt k.bits b).toNat))
  | .eql => some (.bool (a == b))
  | .neq => some (.bool (a != b))
  | .lss => some (.bool (a < b))
  | .leq => some (.bool (a ≤ b))
  | .gtr => some (.bool (a > b))
  | .geq => some (.bool (a ≥ b))
  | _ => none
def shiftBin (op : BinOp) (k : IntKind) (a b : Int) : Option Value :=
  if b < 0 then none else
    match op with
    | .shl => some (.int k (k.wrap (a * 2 ^ min b.toNat k.bits)))
    | .shr => some (.int k (a.fdiv (2 ^ min b.toNat k.bits)))
    | _ => none
def strBin (op : BinOp) (a b : ByteArray) : Option Value :=
  match op with
  | .add => if a.size + b.size > 1000000 then none else some (.string ⟨(a.data.toList ++ b.data.toList).toArray⟩)
  | .eql => some (.bool (sameBytes a.data.toList b.data.toList))
  | .neq => some (.bool (!sameBytes a.data.toList b.data.toList))
  | .lss => some (.bool (lessBytes a.data.toList b.data.toList))
  | .leq => some (.bool (lessBytes a.data.toList b.data.toList || sameBytes a.data.toList b.data.toList))
  | .gtr => some (.bool (!(lessBytes a.data.toList b.data.toList || sameBytes a.data.toList b.data.toList)))
  | .geq => some (.bool (!lessBytes a.data.toList b.data.toList))
  | _ => none

/-- '==' -/
def eqFields (eq : TypeId → Value → Value → Option Bool) (xs ys : List Value) : List Field → Option Bool
  | [] => some true
  | f :: fs =>
    if f.name = "_" then eqFields eq xs ys fs else
    match partL P f.type xs f.offset, partL P f.type ys f.offset with
    | some x, some y => match eq f.type x y with
      | some true => eqFields eq xs ys fs
      | r => r
    | _, _ => none
def eqElems (eq : TypeId → Value → Value → Option Bool) (elem : TypeId) (size : Nat) (xs ys : List Value) : Nat → Nat → Option Bool
  | 0, _ => some true
  | n + 1, i =>
    match partL P elem xs (i * size), partL P elem ys (i * size) with
    | some x, some y => match eq elem x y with
      | some true => eqElems eq elem size xs ys n (i + 1)
      | r => r
    | _, _ => none
def eqV : Nat → TypeId → Value → Value → Option Bool
  | 0, _, _, _ => none
  | d + 1, t, x, y =>
    match P.underlying t with
    | some .bool => match x, y with
      | .bool a, .bool b => some (a == b)
      | _, _ => none
    | some (.int _) => match x, y with
      | .int k a, .int k' b => if k = k' then some (a == b) else none
      | _, _ => none
    | some .string => match x, y with
      | .string a, .string b => some (sameBytes a.data.toList b.data.toList)
      | _, _ => none
    | some (.pointer e) => match x, y with
      | .pointer none, .pointer b => some b.isNone
      | .pointer _, .pointer none => some false
      | .pointer (some ⟨b, o, none⟩), .pointer (some ⟨b', o', none⟩) => bif Nat.beq b b' && Nat.beq o o' && (P.info? e).isSome then some true else none
      | _, _ => none
    | some (.interface _) => match x, y with
      | .nilIface, .nilIface => some true
      | .nilIface, .iface _ _ => some false
      | .iface _ _, .nilIface => some false
      | .iface tx vx, .iface ty vy => if tx ≠ ty then some false else
        match P.info? tx with
        | some i => if i.comparable then eqV d tx vx vy else none
        | none => none
      | _, _ => none
    | some (.struct fields) => match x, y with
      | .agg xs, .agg ys => if P.stoodInHeld t then none else eqFields P (eqV d) xs.toList ys.toList fields.toList
      | _, _ => none
    | some (.array len elem) => match x, y with
      | .agg xs, .agg ys => match szOf P elem with
        | some n => eqElems P (eqV d) elem n xs.toList ys.toList len 0
        | none => none
      | _, _ => none
    | some (.slice _) => match x, y with
      | .slice none _ _, .slice b _ _ => some b.isNone
      | .slice _ _ _, .slice none _ _ => some false
      | _, _ => none
    | some (.map _ _) => match x, y with
      | .map none, .map b => some b.isNone
      | .map _, .map none => some false
      | _, _ => none
    | some (.func _ _ _) => match x, y with
      | .nilFunc, .nilFunc => some true
      | .nilFunc, .func _ _ _ => some false
      | .func _ _ _, .nilFunc => some false
      | _, _ => none
    | _ => none

def eqDepth : Nat := 40
/-- may two values be compared without the model's guard (two nil interface values) being asked -/
def guardFree (_ : BinOp) (t : TypeId) (x y : Operand) (a b : Value) : Bool :=
  match a, b with
  | .nilIface, .nilIface => match x, y with
    | .const _, _ => true
    | _, .const _ => true
    | _, _ => false
  | .agg _, .agg _ => !(P.eqGuardType P.depth t)
  | _, _ => true

def binV (op : BinOp) (t : TypeId) (xo yo : Operand) (x y : Value) : Option Value :=
  match x, y with
  | .int k a, .int k' b => match op with
    | .shl | .shr => shiftBin op k a b
    | _ => if k = k' then intBin op k a b else none
  | .string a, .string b => strBin op a b
  | .float _ _, _ | .complex _ _ _, _ => none
  | x, y => match op with
    | .eql => if guardFree P op t xo yo x y then match eqV P eqDepth t x y with
        | some r => some (.bool r)
        | none => none
      else none
    | .neq => if guardFree P op t xo yo x y then match eqV P eqDepth t x y with
        | some r => some (.bool (!r))
        | none => none
      else none
    | _ => none

def unV (op : UnOp) (x : Value) : Option Value :=
  match op, x with
  | .neg, .int k n => some (.int k (k.wrap (0 - n)))
  | .xor, .int k n => intBin .xor k (if k.signed then -1 else k.max) n
  | .not, .bool b => some (.bool !b)
  | _, _ => none

def fillL (place : Nat → Option (Nat × Nat)) (cells : List Value) : List (Nat × Value) → Option (List Value)
  | [] => some cells
  | (i, v) :: rest =>
    match place i with
    | none => none
    | some (off, size) =>
      bif Nat.beq (cellsL v).length size && Nat.ble (off + size) cells.length then
        match setN off (cellsL v) cells with
        | some c => fillL place c rest
        | none => none
      else none

def partsV (ρ : Operand → Value) (l : List (Nat × Operand)) : List (Nat × Value) := l.map fun x => (x.1, ρ x.2)

def buildV (t : TypeId) (parts : List (Nat × Value)) : Option Value :=
  match zeroOf P t, P.underlying t with
  | some z, some (.struct fields) => match fields.toList.mapM (fun f => (P.info? f.type).map fun i => (f.offset, i.size)) with
    | some places => match fillL (nth places) z parts with
      | some c => some (aggL c)
      | none => none
    | none => none
  | some z, some (.array _ elem) => match szOf P elem with
    | some n => match fillL (fun i => some (i * n, n)) z parts with
      | some c => some (aggL c)
      | none => none
    | none => none
  | _, _ => none

/-! ### Memory's operations -/
def readCells (S : St) (b o n : Nat) : Option (List Value) :=
  match S.get b with
  | some (.cells c _ _ _ _) => takeN n (dropN o c)
  | _ => none

def loadV (t : TypeId) (v : Value) (S : St) : Option Value :=
  match v with
  | .pointer (some ⟨b, o, none⟩) => match S.get b with
    | some (.cells c _ _ _ _) => partL P t c o
    | _ => none
  | _ => none

/-- cells written from place o of block b on: the block is its own; whatever may lie in the same memory dies -/
def writeCells (S : St) (b o : Nat) (vs : List Value) : Option St :=
  match S.get b with
  | some (.cells c e row true kin) => bif vs.all cellV && Nat.blt 0 vs.length then match setN o vs c with
      | some c' => some ((S.kill kin).set b (.cells c' e row true []))
      | none => none
    else none
  | _ => none

def storeV (t : TypeId) (a v : Value) (S : St) : Option St :=
  match a with
  | .pointer (some ⟨b, o, none⟩) => match szOf P t with
    | some n => bif Nat.beq (cellsL v).length n then writeCells S b o (cellsL v) else none
    | none => none
  | _ => none

def ptrTo (b o : Nat) : Value := .pointer (some ⟨b, o, none⟩)
def newCells (S : St) (c : List Value) (e : TypeId) (row : Bool) : Value × St :=
  match S.new (.cells c e row true []) with
  | (b, S') => (ptrTo b 0, S')
def newSlice (S : St) (c : List Value) (e : TypeId) (len cap : Nat) : Value × St :=
  match S.new (.cells c e true true []) with
  | (b, S') => (.slice (some ⟨b, 0, none⟩) len cap, S')

def sliceBnd (x : Option Value) (dflt : Nat) (hi : Nat) : Option Nat :=
  match x with
  | none => some dflt
  | some (.int _ i) => if 0 ≤ i ∧ i ≤ hi then some i.toNat else none
  | _ => none

/-- a slice expression's three bounds: low, high, and the capacity's end -/
def bounds3 (len cap : Nat) (lo hi mx : Option Value) : Option (Nat × Nat × Nat) :=
  match sliceBnd mx cap cap with
  | some m => match hi, mx with
    | none, some _ => none
    | _, _ => match sliceBnd hi len m with
      | some h => match sliceBnd lo 0 h with
        | some l => some (l, h, m)
        | none => none
      | none => none
  | none => none
def rowSize (S : St) (b z : Nat) : Bool := match S.get b with
  | some (.cells _ e true _ _) => match szOf P e with
    | some n => Nat.beq n z
    | none => false
  | some (.cells _ _ false _ _) => true
  | _ => false
def plainRow (S : St) (b : Nat) : Bool := match S.get b with
  | some (.cells _ _ false _ _) => true
  | _ => false
def sliceV (t : TypeId) (x : Value) (lo hi mx : Option Value) (S : St) : Option Value :=
  match P.underlying t with
  | some .string => match x with
    | .string s => match mx with
      | some _ => none
      | none => match bounds3 s.data.toList.length s.data.toList.length lo hi none with
        | some (l, h, _) => some (.string ⟨((s.data.toList.drop l).take (h - l)).toArray⟩)
        | none => none
    | _ => none
  | some (.slice elem) => match x with
    | .slice a len cap => match szOf P elem, bounds3 len cap lo hi mx with
      | some z, some (l, h, m) => match a with
        | none => some (.slice none (h - l) (m - l))
        | some ⟨b, o, none⟩ => bif rowSize P S b z then some (.slice (some ⟨b, o + l * z, none⟩) (h - l) (m - l)) else none
        | _ => none
      | _, _ => none
    | _ => none
  | some (.array n elem) => match x with
    | .pointer (some ⟨b, o, none⟩) => match szOf P elem, bounds3 n n lo hi mx with
      | some z, some (l, h, m) => bif plainRow S b then some (.slice (some ⟨b, o + l * z, none⟩) (h - l) (m - l)) else none
      | _, _ => none
    | _ => none
  | _ => none

def fieldAddrV (s : TypeId) (x : Value) (i : Nat) : Option Value :=
  match P.underlying s, x with
  | some (.struct fields), .pointer (some ⟨b, o, none⟩) => match nth fields.toList i with
    | some f => match szOf P f.type with
      | some (_ + 1) => some (ptrTo b (o + f.offset))
      | _ => none
    | none => none
  | _, _ => none
def fieldV (s : TypeId) (x : Value) (i : Nat) : Option Value :=
  match P.underlying s, x with
  | some (.struct fields), .agg cs => match nth fields.toList i with
    | some f => partL P f.type cs.toList f.offset
    | none => none
  | _, _ => none
def indexAddrV (t : TypeId) (x ix : Value) : Option Value :=
  match ix with
  | .int _ i => match P.underlying t, x with
    | some (.array len elem), .pointer (some ⟨b, o, none⟩) => if 0 ≤ i ∧ i < len then match szOf P elem with
        | some n => some (ptrTo b (o + i.toNat * n))
        | none => none
      else none
    | some (.slice elem), .slice (some ⟨b, o, none⟩) len _ => if 0 ≤ i ∧ i < len then match szOf P elem with
        | some n => some (ptrTo b (o + i.toNat * n))
        | none => none
      else none
    | _, _ => none
  | _ => none
def indexV (t : TypeId) (x ix : Value) : Option Value :=
  match ix with
  | .int _ i => match P.underlying t, x with
    | some (.array len elem), .agg cs => if 0 ≤ i ∧ i < len then match szOf P elem with
        | some n => partL P elem cs.toList (i.toNat * n)
        | none => none
      else none
    | some .string, .string s => if 0 ≤ i then match nth s.data.toList i.toNat with
        | some b => some (.int .u8 b.toNat)
        | none => none
      else none
    | _, _ => none
  | _ => none

def nilCheckV (x : Value) : Option Value :=
  match x with
  | .pointer (some a) => some (.pointer (some a))
  | .iface t v => some (.iface t v)
  | .func (.func f) a b => some (.func (.func f) a b)
  | .func (.yield f) a b => some (.func (.yield f) a b)
  | .func (.via t p f q) a b => some (.func (.via t p f q) a b)
  | _ => none

/-! equality of values -/
mutual
def sameV : Nat → Value → Value → Bool
  | 0, _, _ => false
  | _ + 1, .bool a, .bool b => a == b
  | _ + 1, .int j a, .int k b => decide (j = k) && decide (a = b)
  | _ + 1, .string a, .string b => sameBytes a.data.toList b.data.toList
  | _ + 1, .pointer a, .pointer b => decide (a = b)
  | _ + 1, .slice a n c, .slice b m d => decide (a = b) && Nat.beq n m && Nat.beq c d
  | _ + 1, .map a, .map b => decide (a = b)
  | n + 1, .func f a b, .func g c d => decide (f = g) && sameL n a.toList c.toList && sameL n b.toList d.toList
  | _ + 1, .nilFunc, .nilFunc => true
  | n + 1, .iface t v, .iface u w => Nat.beq t u && sameV n v w
  | _ + 1, .nilIface, .nilIface => true
  | n + 1, .agg a, .agg b => sameL n a.toList b.toList
  | n + 1, .tuple a, .tuple b => sameL n a.toList b.toList
  | _, _, _ => false
def sameL : Nat → List Value → List Value → Bool
  | 0, _, _ => false
  | _ + 1, [], [] => true
  | n + 1, a :: l, b :: r => sameV n a b && sameL n l r
  | _, _, _ => false
end

/-! maps -/
def keyOk : Nat → TypeId → Value → Bool
  | 0, _, _ => false
  | n + 1, t, v =>
    match P.underlying t with
    | some (.interface _) => false
    | some (.array len elem) => match v, szOf P elem with
      | .agg cs, some z => (List.range len).all fun i => match partL P elem cs.toList (i * z) with
        | some x => keyOk n elem x
        | none => false
      | _, _ => false
    | some (.struct fields) => match v with
      | .agg cs => fields.toList.all fun f => f.name = "_" || match partL P f.type cs.toList f.offset with
        | some x => keyOk n f.type x
        | none => false
      | _ => false
    | some _ => true
    | none => false
def findV (t : TypeId) (k : Value) : List MapEntry → Nat → Option (Option (Nat × Value))
  | [], _ => some none
  | e :: es, i => match eqV P eqDepth t k e.key with
    | some true => some (some (i, e.val))
    | some false => findV t k es (i + 1)
    | none => none
def mapOf (S : St) (x : Value) : Option (List MapEntry) :=
  match x with
  | .map none => some []
  | .map (some r) => match S.get r with
    | some (.map es _) => some es
    | _ => none
  | _ => none
def lookupV (t : TypeId) (x ix : Value) (commaOk : Bool) (S : St) : Option Value :=
  match P.underlying t with
  | some (.map key elem) => match mapOf S x with
    | some es => if keyOk P 20 key ix then match findV P key ix es 0 with
        | some (some (_, v)) => some (if commaOk then .tuple #[v, .bool true] else v)
        | some none => match zeroV P elem with
          | some z => some (if commaOk then .tuple #[z, .bool false] else z)
          | none => none
        | none => none
      else none
    | none => none
  | _ => none
def plainKey : Nat → Value → Bool
  | _, .bool _ => true
  | _, .int _ _ => true
  | _, .string _ => true
  | n + 1, .agg cs => cs.toList.all (plainKey n)
  | _, _ => false
def setEntry (es : List MapEntry) (i : Nat) (k v : Value) : List MapEntry :=
  match es, i with
  | [], _ => []
  | e :: es, 0 => { e with key := k, val := v } :: es
  | e :: es, i + 1 => e :: setEntry es i k v
def mapUpdateV (t : TypeId) (m k v : Value) (S : St) : Option St :=
  match P.underlying t, m with
  | some (.map key _), .map (some r) => match S.get r with
    | some (.map es clock) => if keyOk P 20 key k && plainKey 20 k then match findV P key k es 0 with
        | some (some (i, _)) => match nth es i with
          | some e => bif sameV 1000 e.key k then some (S.set r (.map (setEntry es i k v) clock)) else none
          | none => none
        | some none => some (S.set r (.map (es ++ [{ key := k, val := v, born := clock }]) (clock + 1)))
        | none => none
      else none
    | _ => none
  | _, _ => none
def mapEntryV (t : TypeId) (m k : Value) (S : St) : Option (Value × St) :=
  match P.underlying t, m with
  | some (.map key elem), .map (some r) => match S.get r with
    | some (.map es clock) => if keyOk P 20 key k && plainKey 20 k then match findV P key k es 0 with
        | some (some (i, v)) => match nth es i with
          | some e => bif sameV 1000 e.key k then some (.tuple #[v, .int .i64 e.born], S.set r (.map (setEntry es i k v) clock)) else none
          | none => none
        | some none => match zeroV P elem with
          | some z => some (.tuple #[z, .int .i64 clock], S.set r (.map (es ++ [{ key := k, val := z, born := clock }]) (clock + 1)))
          | none => none
        | none => none
      else none
    | _ => none
  | _, _ => none
def storeEntry (born : Int) (v : Value) : List MapEntry → Option (List MapEntry)
  | [] => none
  | e :: es => if (e.born : Int) = born then some ({ e with val := v } :: es) else match storeEntry born v es with
    | some r => some (e :: r)
    | none => none
def entryStoreV (m stamp v : Value) (S : St) : Option St :=
  match m, stamp with
  | .map (some r), .int _ born => match S.get r with
    | some (.map es clock) => match storeEntry born v es with
      | some es' => some (S.set r (.map es' clock))
      | none => none
    | _ => none
  | _, _ => none

def rangeV (t : TypeId) (x : Value) (S : St) : Option (Value × St) :=
  match P.underlying t, x with
  | some .string, .string s => match S.new (.iter s.data.toList 0) with
    | (b, S') => some (ptrTo b 0, S')
  | _, _ => none
def nextV (it : Value) (isString : Bool) (S : St) : Option (Value × St) :=
  match it, isString with
  | .pointer (some ⟨r, 0, none⟩), true => match S.get r with
    | some (.iter s pos) => match s.drop pos with
      | [] => some (.tuple #[.bool false], S)
      | c :: _ => if c.toNat < 128 then some (.tuple #[.bool true, .int .i64 pos, .int .i32 c.toNat], S.set r (.iter s (pos + 1))) else none
    | _ => none
  | _, _ => none

/-- a range over a map without entries -/
def rangeMV (t : TypeId) (x : Value) (S : St) : Option (Value × St) :=
  match P.underlying t, x with
  | some (.map _ _), .map (some r) => match S.get r with
    | some (.map [] _) => match S.new (.mapIt r) with
      | (b, S') => some (ptrTo b 0, S')
    | _ => none
  | _, _ => none
def nextMV (it : Value) (isString : Bool) (S : St) : Option (Value × St) :=
  match it, isString with
  | .pointer (some ⟨r, 0, none⟩), false => match S.get r with
    | some (.mapIt m) => match S.get m with
      | some (.map [] _) => some (.tuple #[.bool false], S)
      | _ => none
    | _ => none
  | _, _ => none

def typeAssertV (x : Value) (asserted : TypeId) (commaOk : Bool) : Option Value :=
  match P.underlying asserted, x with
  | some (.interface _), _ => none
  | some _, .nilIface => if commaOk then match zeroV P asserted with
      | some z => some (.tuple #[z, .bool false])
      | none => none
    else none
  | some _, .iface t v => if t = asserted then some (if commaOk then .tuple #[v, .bool true] else v)
    else if commaOk then match zeroV P asserted with
      | some z => some (.tuple #[z, .bool false])
      | none => none
    else none
  | _, _ => none

/-! builtins -/
def lenV (t : TypeId) (x : Value) (S : St) : Option Value :=
  match P.underlying t, x with
  | some .string, .string s => some (.int .i64 s.data.toList.length)
  | some (.array n _), _ => some (.int .i64 n)
  | some (.pointer arr), _ => match P.underlying arr with
    | some (.array n _) => some (.int .i64 n)
    | _ => none
  | some (.slice _), .slice _ n _ => some (.int .i64 n)
  | some (.map _ _), .map none => some (.int .i64 0)
  | some (.map _ _), .map (some r) => match S.get r with
    | some (.map es _) => some (.int .i64 es.length)
    | _ => none
  | _, _ => none

/-- the first n elements' cells of what is appended or copied -/
def sourceCells (S : St) (size n : Nat) (x : Value) : Option (List Value) :=
  match x with
  | .slice none _ _ => bif Nat.beq n 0 then some [] else none
  | .slice (some ⟨b, o, none⟩) _ _ => readCells S b o (n * size)
  | .string s => bif Nat.beq size 1 then takeN n (s.data.toList.map fun b => .int .u8 b.toNat) else none
  | _ => none
def lenOfV : Value → Option Nat
  | .slice _ n _ => some n
  | .string s => some s.data.toList.length
  | _ => none

def maxNeed : Nat := 2 ^ 30

/-- cells written behind those that are known of a row -/
def extendCells (S : St) (b o size : Nat) (new : List Value) : Option St :=
  match S.get b with
  | some (.cells c e true true kin) => match szOf P e with
    | some z => bif new.all cellV && Nat.blt 0 new.length && Nat.beq o c.length && Nat.beq z size && Nat.blt 0 z then some ((S.kill kin).set b (.cells (c ++ new) e true true [])) else none
    | none => none
  | _ => none
/-- append where the canonical capacity suffices: in place -/
def appendIn (base : Option Addr) (len n cap size : Nat) (new : List Value) (S : St) : Option (Value × St) :=
  match base with
  | none => some (.slice none (len + n) cap, S)
  | some ⟨b, o, none⟩ => bif Nat.beq new.length 0 then some (.slice (some ⟨b, o, none⟩) (len + n) cap, S) else match writeCells S b (o + len * size) new with
    | some S' => some (.slice (some ⟨b, o, none⟩) (len + n) cap, S')
    | none => match extendCells P S b (o + len * size) size new with
      | some S' => some (.slice (some ⟨b, o, none⟩) (len + n) cap, S')
      | none => none
  | _ => none
/-- append where it does not: a row of its own; what it was appended to may be written no more -/
def appendOut (elem : TypeId) (base : Option Addr) (len n size : Nat) (new : List Value) (S : St) : Option (Value × St) :=
  match base with
  | none => bif Nat.beq len 0 then some (newSlice S new elem n n) else none
  | some ⟨b, o, none⟩ => match S.get b with
    | some (.cells c e true true kin) => match takeN (len * size) (dropN o c) with
      | some old => bif Nat.beq e elem && Nat.beq (o + len * size) c.length then
          match (S.set b (.cells c e true false kin)).new (.cells (old ++ new) elem true true (b :: kin)) with
          | (b', S') => some (.slice (some ⟨b', 0, none⟩) (len + n) (len + n), S')
        else none
      | none => none
    | _ => none
  | _ => none
def growOk (elem : TypeId) (size need : Nat) : Bool := match P.info? elem, zeroV P elem with
  | some ei, some z => Nat.ble ei.bytes 1024 && Nat.blt 0 ei.bytes && Nat.ble need maxNeed && Nat.beq (cellsL z).length size && Nat.blt 0 size
  | _, _ => false
def append2 (elem : TypeId) (base : Option Addr) (len cap n size : Nat) (new : List Value) (S : St) : Option (Value × St) :=
  bif Nat.ble (len + n) cap then appendIn P base len n cap size new S
  else bif growOk P elem size (len + n) && cellsAll new then appendOut elem base len n size new S else none
  where cellsAll (l : List Value) : Bool := l.all cellV
def isIntT (d : TypeDesc) : Bool := match d with
  | .int _ => true
  | _ => false
def appendV (argTypes : List TypeId) (s x : Value) (S : St) : Option (Value × St) :=
  match argTypes with
  | sT :: xT :: _ => match P.underlying sT, s, lenOfV x, P.underlying xT with
    | some (.slice elem), .slice base len cap, some n, some xd => bif isIntT xd then none else match szOf P elem with
      | some size => match sourceCells S size n x with
        | some new => append2 P elem base len cap n size new S
        | none => none
      | none => none
    | _, _, _, _ => none
  | _ => none

/-- so many zero values appended to nothing -/
def appendZV (argTypes : List TypeId) (s x : Value) (S : St) : Option (Value × St) :=
  match argTypes, s, x with
  | sT :: xT :: _, .slice none 0 0, .int _ (.ofNat n) => match P.underlying sT, P.underlying xT with
    | some (.slice elem), some (.int _) => match szOf P elem, zeroV P elem with
      | some size, some z => bif Nat.blt 0 n && growOk P elem size n then some (newSlice S (replL n (cellsL z)) elem n n) else none
      | _, _ => none
    | _, _ => none
  | _, _, _ => none

def copyV (argTypes : List TypeId) (d x : Value) (S : St) : Option (Value × St) :=
  match argTypes with
  | dT :: _ => match P.underlying dT, d, lenOfV x with
    | some (.slice elem), .slice base dLen _, some xn => match szOf P elem with
      | some size => match sourceCells S size (Nat.min xn dLen) x with
        | some new => match base with
          | none => some (.int .i64 (Nat.min xn dLen), S)
          | some ⟨b, o, none⟩ => bif Nat.beq new.length 0 then some (.int .i64 (Nat.min xn dLen), S) else match writeCells S b o new with
            | some S' => some (.int .i64 (Nat.min xn dLen), S')
            | none => none
          | _ => none
        | none => none
      | none => none
    | _, _, _ => none
  | _ => none

def minmaxV (isMax : Bool) : Value → List Value → Option Value
  | v, [] => some v
  | .int k x, .int _ y :: r => minmaxV isMax (.int k (if isMax then (if y > x then y else x) else (if y < x then y else x))) r
  | _, _ => none

def eraseAt {α : Type} : List α → Nat → List α
  | [], _ => []
  | _ :: l, 0 => l
  | x :: l, n + 1 => x :: eraseAt l n
def deleteV (t : TypeId) (m k : Value) (S : St) : Option St :=
  match P.underlying t, m with
  | some (.map key _), .map none => if keyOk P 20 key k then some S else none
  | some (.map key _), .map (some r) => match S.get r with
    | some (.map es clock) => if keyOk P 20 key k then match findV P key k es 0 with
        | some (some (i, _)) => some (S.set r (.map (eraseAt es i) clock))
        | some none => some S
        | none => none
      else none
    | _ => none
  | _, _ => none

def makeSliceV (t : TypeId) (len cap : Value) (S : St) : Option (Value × St) :=
  match P.underlying t, len, cap with
  | some (.slice elem), .int _ l, .int _ c => match P.info? elem with
    | some ei => match zeroV P elem with
      | some z => if 0 ≤ l ∧ l ≤ c ∧ c ≤ maxNeed ∧ ei.bytes ≤ 1024 ∧ (cellsL z).length = ei.size then some (newSlice S (replL c.toNat (cellsL z)) elem l.toNat c.toNat) else none
      | none => none
    | none => none
  | _, _, _ => none

/-- the bytes that cells hold -/
def bytesL : List Value → Option (List UInt8)
  | [] => some []
  | .int .u8 n :: r => match bytesL r with
    | some l => some (UInt8.ofNat n.toNat :: l)
    | none => none
  | _ :: _ => none
/-- a string over the bytes of a row: they are written no more -/
def unsafeStringV (argTypes : List TypeId) (p : Value) (n : Int) (S : St) : Option (Value × St) :=
  match argTypes, p with
  | [pt, _], .pointer a => match n with
    | .ofNat 0 => some (.string ⟨#[]⟩, S)
    | .ofNat (m + 1) => match a with
      | some ⟨b, o, none⟩ => match P.underlying pt, S.get b with
        | some (.pointer t), some (.cells c e true true kin) => bif Nat.beq t e && !(Nat.beq e 0) && Nat.beq (P.cellsOf e) 1 && Nat.blt m 1000000 then match takeN (m + 1) (dropN o c) with
            | some l => match bytesL l with
              | some bs => some (.string ⟨bs.toArray⟩, (S.kill kin).set b (.cells c e true false []))
              | none => none
            | none => none
          else none
        | _, _ => none
      | _ => none
    | _ => none
  | _, _ => none

def convV (S : St) (src dst : TypeId) (x : Value) : Option (Value × St) :=
  match P.underlying src, P.underlying dst, x with
  | some _, some (.int k), .int _ n => some (.int k (k.wrap n), S)
  | some _, some .string, .string s => some (.string s, S)
  | some (.slice e), some .string, .slice none _ _ => match P.underlying e with
    | some (.int .u8) => some (.string ⟨#[]⟩, S)
    | _ => none
  | some (.slice e), some .string, .slice (some a) n c => match P.underlying e, sourceCells S 1 n (.slice (some a) n c) with
    | some (.int .u8), some l => match bytesL l with
      | some bs => some (.string ⟨bs.toArray⟩, S)
      | none => none
    | _, _ => none
  | some (.pointer t), some .unsafePointer, .pointer (some ⟨b, o, none⟩) => match szOf P t, S.get b with
    | some (_ + 1), some (.cells c _ _ _ _) => bif Nat.blt o c.length then some (.pointer (some ⟨b, o, none⟩), S) else none
    | _, _ => none
  | some .unsafePointer, some (.pointer u), .pointer (some ⟨b, o, none⟩) => match szOf P u, S.get b with
    | some _, some (.cells c e false _ _) => bif !(Nat.beq e 0) && liesAt P P.depth e (c.length / P.cellsOf e) o u 1 then some (.pointer (some ⟨b, o, none⟩), S) else none
    | _, _ => none
  | _, _, _ => none

def builtinV (b : Builtin) (argTypes : List TypeId) (args : List Value) (S : St) : Option (Value × St) :=
  match b, args with
  | .len, [x] => match argTypes with
    | t :: _ => match lenV P t x S with
      | some v => some (v, S)
      | none => none
    | [] => none
  | .append, [s, x] => match appendV P argTypes s x S with
    | some r => some r
    | none => appendZV P argTypes s x S
  | .min, x :: r => match minmaxV false x r with
    | some v => some (v, S)
    | none => none
  | .max, x :: r => match minmaxV true x r with
    | some v => some (v, S)
    | none => none
  | .copy, [d, x] => copyV P argTypes d x S
  | .cap, [x] => match argTypes, x with
    | t :: _, .slice none 0 0 => match P.underlying t with
      | some (.slice _) => some (.int .i64 0, S)
      | _ => none
    | _, _ => none
  | .unsafeSliceData, [x] => match x with
    | .slice none _ _ => some (.pointer none, S)
    | .slice (some ⟨b, o, none⟩) _ (_ + 1) => some (ptrTo b o, S)
    | _ => none
  | .unsafeString, [p, n] => match n with
    | .int .i64 i => unsafeStringV P argTypes p i S
    | _ => none
  | _, _ => none

/-! ### One operation that makes no call -/
def pureOp (ρ : Operand → Value) (op : Op) : Option Value :=
  match op with
  | .move x | .assign x => some (ρ x)
  | .pick c a b => match ρ c with
    | .bool t => some (if t then ρ a else ρ b)
    | _ => none
  | .build t parts => buildV P t (partsV ρ parts.toList)
  | .nilCheck x => nilCheckV (ρ x)
  | .binOp op t x y _ => binV P op t x y (ρ x) (ρ y)
  | .unOp op _ x => unV op (ρ x)
  | .makeInterface t x => match P.underlying t with
    | some (.interface _) => none
    | some _ => some (.iface t (ρ x))
    | none => none
  | .makeFunc fn first captured => match fn with
    | .func f => some (.func (.func f) ⟨first.toList.map ρ⟩ ⟨captured.toList.map ρ⟩)
    | .method n => some (.func (.method n) ⟨first.toList.map ρ⟩ ⟨captured.toList.map ρ⟩)
    | .via t p f q => some (.func (.via t p f q) ⟨first.toList.map ρ⟩ ⟨captured.toList.map ρ⟩)
    | _ => none
  | .fieldAddr s x i => fieldAddrV P s (ρ x) i
  | .field t x i => fieldV P t (ρ x) i
  | .indexAddr t x i => indexAddrV P t (ρ x) (ρ i)
  | .index t x i => indexV P t (ρ x) (ρ i)
  | .typeAssert x _ t ok => typeAssertV P (ρ x) t ok
  | .extract x i => match ρ x with
    | .tuple vs => nth vs.toList i
    | _ => none
  | _ => none
def readOp (ρ : Operand → Value) (op : Op) (S : St) : Option Value :=
  match op with
  | .load t a => loadV P t (ρ a) S
  | .slice t x lo hi mx => sliceV P t (ρ x) (lo.map ρ) (hi.map ρ) (mx.map ρ) S
  | .lookup t x i ok => lookupV P t (ρ x) (ρ i) ok S
  | .call { callee := .builtin .len, args, argTypes } => match args.toList, argTypes.toList with
    | [x], t :: _ => lenV P t (ρ x) S
    | _, _ => none
  | op => pureOp P ρ op
def newOp (ρ : Operand → Value) (op : Op) (S : St) : Option (Value × St) :=
  match op with
  | .alloc e => match zeroOf P e with
    | some z => some (newCells S z e false)
    | none => none
  | .box e x => some (newCells S (cellsL (ρ x)) e false)
  | .buildSlice t len parts => match P.underlying t with
    | some (.slice elem) => match P.info? elem with
      | some ei => match zeroV P elem with
        | some z => if len * ei.size ≤ 1000000 ∧ (cellsL z).length = ei.size then match fillL (fun i => some (i * ei.size, ei.size)) (replL len (cellsL z)) (partsV ρ parts.toList) with
            | some c => some (newSlice S c elem len len)
            | none => none
          else none
        | none => none
      | none => none
    | _ => none
  | .makeMap _ none => match S.new (.map [] 0) with
    | (b, S') => some (.map (some b), S')
  | _ => none
def heavyOp (ρ : Operand → Value) (op : Op) (S : St) : Option (Value × St) :=
  match op with
  | .store t a x => match storeV P t (ρ a) (ρ x) S with
    | some S' => some (undef, S')
    | none => none
  | .convert src dst x => convV P S src dst (ρ x)
  | .makeMap t (some h) => match P.underlying t, ρ h with
    | some (.map _ _), .int _ _ => match S.new (.map [] 0) with
      | (b, S') => some (.map (some b), S')
    | _, _ => none
  | .makeSlice t l c => makeSliceV P t (ρ l) (ρ c) S
  | .range t x => rangeMV P t (ρ x) S
  | .next it isString => nextMV (ρ it) isString S
  | .mapUpdate t m k x => match mapUpdateV P t (ρ m) (ρ k) (ρ x) S with
    | some S' => some (undef, S')
    | none => none
  | .insert t m k x => match mapUpdateV P t (ρ m) (ρ k) (ρ x) S with
    | some S' => some (undef, S')
    | none => none
  | .call { callee := .builtin b, args, argTypes } => builtinV P b argTypes.toList (args.toList.map ρ) S
  | _ => none

inductive Kind where
  | read | fresh | heavy
  deriving DecidableEq
def kindOf (op : Op) : Kind :=
  match op with
  | .move _ | .assign _ | .pick .. | .build .. | .nilCheck _ | .binOp .. | .unOp .. | .makeInterface .. | .makeFunc .. | .slice .. | .fieldAddr .. | .field ..
  | .indexAddr .. | .index .. | .typeAssert .. | .extract .. | .load .. | .lookup .. => .read
  | .call { callee := .builtin .len, .. } => .read
  | .alloc _ | .box .. | .buildSlice .. | .makeMap _ none => .fresh
  | _ => .heavy

inductive OpR where
  | val (v : Value)
  | pan (chain : List PanicEntry)

/-- what the evaluator of a smaller fuel gives -/
structure Fns where
  exec : Option Nat → Code → Ca → St → Option (Exit × Ca × St)
  call : Target → List Value → St → Option (Ending × St)

/-- what is known of functions without a body, and of functions that the evaluator does not enter -/
structure Known where
  ext : FuncId → List Value → St → Option (Value × St)
  call : FuncId → List Value → Option Value
  /-- functions that defer calls -/
  defers : FuncId → Bool
end

section
variable (P : Program) (K : Known) (ih : Fns)

def callOp (ρ : Operand → Value) (c : Call) (S : St) : Option (Ending × St) :=
  match c.callee with
  | .builtin _ => none
  | .invoke r name => ih.call (.fn (.method name) #[]) (ρ r :: c.args.toList.map ρ) S
  | .value f => match ρ f with
    | .func fn first cap => ih.call (.fn fn cap) (first.toList ++ c.args.toList.map ρ) S
    | _ => none

def stepOp (ρ : Operand → Value) (op : Op) (S : St) : Option (OpR × St) :=
  match kindOf op with
  | .read => match readOp P ρ op S with
    | some v => some (.val v, S)
    | none => none
  | .fresh => match newOp P ρ op S with
    | some (v, S') => some (.val v, S')
    | none => none
  | .heavy => match op with
    | .call { callee := .builtin b, args, argTypes } => match builtinV P b argTypes.toList (args.toList.map ρ) S with
      | some (v, S') => some (.val v, S')
      | none => none
    | .call c => match callOp ih ρ c S with
      | some (.returned v, S') => some (.val v, S')
      | some (.panicked ch, S') => some (.pan ch, S')
      | _ => none
    | .panic x => match ρ x with
      | .iface t v => some (.pan [{ v := .iface t v, recovered := false }], S)
      | _ => none
    | op => match heavyOp P ρ op S with
      | some (v, S') => some (.val v, S')
      | none => none

/-! ### Regions -/
def wantedC (full : List Oper) (a : Ca) (o : Oper) : Bool :=
  match o.guard with
  | none => true
  | some (j, w) => match nth full j with
    | some oj => match oj.dst with
      | some d => match a.t.get d with
        | some (.bool b) => b == w
        | _ => false
      | none => false
    | none => false

def runOps (full : List Oper) : List Oper → Ca → St → Option (Exit × Ca × St)
  | [], a, S => some (.normal, a, S)
  | o :: rest, a, S =>
    bif wantedC full a o then
      match stepOp P ih a.ev o.op S with
      | some (.val v, S') => match a.put o.dst v with
        | some a' => runOps full rest a' S'
        | none => none
      | some (.pan ch, S') => some (.panic ch, a, S')
      | none => none
    else match a.put o.dst undef with
      | some a' => runOps full rest a' S
      | none => none

/-- the operations that come before, as bits -/
def befores : List Oper → List Nat → List Nat
  | [], acc => acc
  | o :: r, acc => befores r (acc ++ [o.after.toList.foldl (fun s e => if Region.binds .any e then s ||| 2 ^ e.on ||| ((nth acc e.on).getD 0) else s) 0])

def opTmps (full : List Oper) (o : Oper) : List Tmp :=
  (match o.guard with
   | none => []
   | some (j, _) => match nth full j with
     | some oj => oj.dst.toList
     | none => []) ++ o.dst.toList ++ o.op.operands.toList.filterMap fun x => match x with
   | .tmp t => some t
   | _ => none

/-- (i, o) and (j, p), i < j -/
def pairOk (full : List Oper) (bef : List Nat) (i : Nat) (o : Oper) (j : Nat) (p : Oper) : Bool :=
  let ord := ((nth bef j).getD 0).testBit i
  let heavies := kindOf o.op == .heavy && kindOf p.op == .heavy
  (ord || (!heavies && (match o.dst with | some d => !(opTmps full p).contains d | none => true) && (match p.dst with | some d => !(opTmps full o).contains d | none => true)))
  && (match o.dst, p.dst with | some d, some e => !Nat.beq d e | _, _ => true)

def pairsOk (full : List Oper) (bef : List Nat) : List (Oper × Nat) → Bool
  | [] => true
  | (o, i) :: r => (r.all fun (p, j) => pairOk full bef i o j p) && pairsOk full bef r

def edgesOk (l : List (Oper × Nat)) : Bool := l.all fun (o, i) => (o.after.toList.all fun e => !Region.binds .any e || decide (e.on < i)) && (match o.guard with | some (j, _) => j < i && ((o.after.toList.any fun e => e.on == j && Region.binds .any e)) | none => true)

def regionOk (full : List Oper) : Bool :=
  let l := full.zipIdx
  edgesOk l && pairsOk full (befores full []) l && l.all fun (o, _) => match o.op with | .defer _ | .go _ | .select .. | .send .. | .recv .. | .panic _ => false | _ => true


/-- what must still be so behind a heavy operation -/
inductive Chk where
  | read (a : Ca) (op : Op) (v : Value)
  | cells (b : Nat) (c : List Value) (e : TypeId) (row : Bool)
  | map (b : Nat)

def Chk.ok (S : St) : Chk → Bool
  | .read a op v => match readOp P a.ev op S with
    | some w => sameV 100000 v w
    | none => false
  | .cells b c e row => match S.get b with
    | some (.cells c' e' row' true []) => Nat.beq e e' && (row == row') && sameL 100000 c c'
    | _ => false
  | .map b => match S.get b with
    | some (.map [] 0) => true
    | _ => false

/-- does a reading operation look into memory -/
def looks (op : Op) : Bool := match op with
  | .load .. => true
  | .slice .. => true
  | .lookup .. => true
  | .call _ => true
  | _ => false

def chkOf (S : St) (b : Nat) : Option Chk := match S.get b with
  | some (.cells c e row true []) => some (.cells b c e row)
  | some (.map [] 0) => some (.map b)
  | _ => none

/-- the operations of a region that draws its order, in a fixed order: what may float comes as early as it may -/
def runPlan (full : List Oper) (bef : List Nat) : List (Oper × Nat) → List (Nat × Chk) → Ca → St → Option (Exit × Ca × St)
  | [], _, a, S => some (.normal, a, S)
  | (o, i) :: r, chk, a, S =>
    bif wantedC full a o then
      match kindOf o.op with
      | .read => match readOp P a.ev o.op S with
        | some v => match a.put o.dst v with
          | some a' => runPlan full bef r (bif looks o.op then (i, .read a o.op v) :: chk else chk) a' S
          | none => none
        | none => none
      | .fresh => match newOp P a.ev o.op S with
        | some (v, S') => match a.put o.dst v, chkOf S' S.size, S.get S.size with
          | some a', some c, none => runPlan full bef r ((i, c) :: chk) a' S'
          | _, _, _ => none
        | none => none
      | .heavy => match stepOp P ih a.ev o.op S with
        | some (.val v, S') => match a.put o.dst v with
          | some a' =>
            let rest := chk.filter fun x => !((nth bef i).getD 0).testBit x.1
            bif rest.all fun x => x.2.ok P S' then runPlan full bef r rest a' S' else none
          | none => none
        | _ => none
    else match a.put o.dst undef with
      | some a' => runPlan full bef r chk a' S
      | none => none

def bitsIn (x y : Nat) : Bool := Nat.beq (Nat.land x y) x
/-- what may float now, in the order of the text -/
def planFloat (bef : List Nat) : List (Oper × Nat) → Nat → List (Oper × Nat) × Nat
  | [], done => ([], done)
  | (o, i) :: r, done =>
    if done.testBit i || kindOf o.op == .heavy || !bitsIn ((nth bef i).getD 0) done then planFloat bef r done
    else match planFloat bef r (Nat.lor done (2 ^ i)) with
      | (l, d) => ((o, i) :: l, d)
def planAll (bef : List Nat) (l : List (Oper × Nat)) : List (Oper × Nat) → Nat → List (Oper × Nat)
  | [], done => (planFloat bef l done).1
  | (o, i) :: r, done => match planFloat bef l done with
    | (x, d) => x ++ (o, i) :: planAll bef l r (Nat.lor d (2 ^ i))
def planOf (full : List Oper) : List (Oper × Nat) :=
  let l := full.zipIdx
  planAll (befores full []) l (l.filter fun x => kindOf x.1.op == .heavy) 0

/-- is the plan an order that the edges allow, and does what may float come before every heavy operation that is not before it -/
def planOk (full : List Oper) (bef : List Nat) : List (Oper × Nat) → Nat → Bool
  | [], done => Nat.beq done (2 ^ full.length - 1)
  | (o, i) :: r, done =>
    (match nth full i with
     | some o' => Nat.beq o'.op.operands.size o.op.operands.size
     | none => false) && !done.testBit i && bitsIn ((nth bef i).getD 0) done &&
    (kindOf o.op != .heavy || r.all fun x => ((nth bef x.2).getD 0).testBit i) && planOk full bef r (Nat.lor done (2 ^ i))

def planW (full : List Oper) : Option (List Nat × List (Oper × Nat)) :=
  let bef := befores full []
  let pl := planOf full
  bif regionOk full && planOk full bef pl 0 then some (bef, pl) else none

def runDraw (full : List Oper) (a : Ca) (S : St) : Option (Exit × Ca × St) :=
  match planW full with
  | some (bef, pl) => runPlan P ih full bef pl [] a S
  | none => none

/-! ### Code -/
/-- a region's constants hold no addresses; its package-level variables are the program's -/
def constsOk (l : List Oper) : Bool := l.all fun o => o.op.operands.toList.all fun x => match x with
  | .const v => flatV flatN v
  | .global g => Nat.blt g P.globals.size
  | _ => true

def loopOf (S : St) (l : Nat) : Option (LoopState × Option Code × Nat × Tm × List Tmp × Code × Code × Nat) :=
  match S.get l with
  | some (.loop st p n t ps x y d) => some (st, p, n, t, ps, x, y, d)
  | _ => none

def isConst : Operand → Bool
  | .const _ => true
  | _ => false
def bodied (fn : Fn) : Bool := match fn with
  | .func f => match P.funcs[f]? with
    | some F => !(F.name == "runtime.NumGoroutine") && F.body.isSome
    | none => false
  | _ => false

def execF (ro : Option Nat) (code : Code) (a : Ca) (S : St) : Option (Exit × Ca × St) :=
  match code with
  | .skip => some (.normal, a, S)
  | .label _ => some (.normal, a, S)
  | .exit id => some (.exit id, a, S)
  | .ret => some (.ret, a, S)
  | .region _ ops draw => bif constsOk P ops.toList then (bif draw then runDraw P ih ops.toList a S else runOps P ih ops.toList ops.toList a S) else none
  | .seq x y => match ih.exec ro x a S with
    | some (.normal, a', S') => ih.exec ro y a' S'
    | r => r
  | .cond c x y => match a.ev c with
    | .bool b => ih.exec ro (if b then x else y) a S
    | _ => none
  | .block id c => match ih.exec ro c a S with
    | some (.exit j, a', S') => bif Nat.beq j id then some (.normal, a', S') else some (.exit j, a', S')
    | r => r
  | .loop c => match ih.exec ro c a S with
    | some (.normal, a', S') => ih.exec ro (.loop c) a' S'
    | r => r
  | .scope c => match ih.exec ro c a S with
    | some (.goto _, _, _) => none
    | r => r
  | .rangeFunc f params assign body =>
    match a.ev f with
    | .func fn first cap => bif isConst f || !bodied P fn then none else
      let start : Option (Nat × List Deferred × St) := match ro with
        | none => match S.new (.defs false) with
          | (r, S1) => some (r, [{ target := .collected r, args := #[] }], S1)
        | some l => match loopOf S l with
          | some (_, _, _, _, _, _, _, d) => some (d, [], S)
          | none => none
      match start with
      | some (d, mark, S1) => match S1.new (.loop .ready none a.n a.t params.toList assign body d) with
        | (l, S2) => match ih.call (.fn fn cap) (first.toList ++ [.func (.yield l) #[] #[]]) S2 with
          | some (.returned _, S3) => match loopOf S3 l with
            | some (st, p, n, t, ps, x, y, d) => bif (st == LoopState.busy) then none else
              match { a with defers := mark ++ a.defers }, S3.set l (.loop .exhausted p n t ps x y d) with
              | a', S4 => match p with
                | none => some (.normal, a', S4)
                | some .ret => some (.ret, a', S4)
                | some (.exit id) => some (.exit id, a', S4)
                | _ => none
            | none => none
          | some (.panicked ch, S3) => some (.panic ch, { a with defers := mark ++ a.defers }, S3)
          | _ => none
      | none => none
    | _ => none
  | .goto _ => none
  | .refuse _ => none

/-- the frames' marks of range-over-func loops are taken at its end -/
def takeMarks : List Deferred → St → Option St
  | [], S => some S
  | { target := .collected r, .. } :: ds, S => match S.get r with
    | some (.defs false) => takeMarks ds (S.set r (.defs true))
    | _ => none
  | _ :: _, _ => none

def resultsL (t : Ca) (S : St) : List ResultVar → Option (List Value)
  | [] => some []
  | .tmp x :: r => match resultsL t S r with
    | some l => some (t.get x :: l)
    | none => none
  | .cell x e :: r => match loadV P e (t.get x) S, resultsL t S r with
    | some v, some l => some (v :: l)
    | _, _ => none

def maxN (a b : Nat) : Nat := bif Nat.ble a b then b else a
def enterB (f : FuncId) (args : List Value) (S : St) : Option (Ending × St) :=
  match P.funcs[f]? with
  | some fn => match fn.body with
    | some c => bif (fn.name == "runtime.NumGoroutine") || Nat.blt 256 (maxN fn.ntmps args.length) then none else match ih.exec none c { n := maxN fn.ntmps args.length, t := PT.ofList 0 (PT.nil 8) args, defers := [] } S with
      | some (e, a', S') => match e with
        | .normal | .ret => match takeMarks a'.defers S' with
          | some S'' => match resultsL P a' S'' fn.results.toList with
            | some [v] => some (.returned v, S'')
            | some vs => some (.returned (.tuple vs.toArray), S'')
            | none => none
          | none => none
        | .panic ch => match takeMarks a'.defers S' with
          | some S'' => some (.panicked ch, S'')
          | none => none
        | _ => none
      | none => none
    | none => match K.ext f args S with
      | some (v, S') => some (.returned v, S')
      | none => none
  | none => none

/-! ### functions that defer calls -/
def isDefer (o : Oper) : Bool := match o.op with
  | .defer _ => true
  | _ => false
def hasDefer (l : List Oper) : Bool := l.any isDefer
def deferC (ρ : Operand → Value) (c : Call) : Option Deferred := match c.callee with
  | .value f => match ρ f with
    | .func (.func fn) first cap => some { target := .fn (.func fn) cap, args := (first.toList ++ c.args.toList.map ρ).toArray }
    | _ => none
  | _ => none
/-- a region in the order of the text that defers calls -/
def runOpsD (full : List Oper) : List Oper → Ca → St → Option (Exit × Ca × St)
  | [], a, S => some (.normal, a, S)
  | o :: rest, a, S =>
    bif wantedC full a o then
      match o.op with
      | .defer c => match deferC a.ev c with
        | some d => match Ca.put { a with defers := d :: a.defers } o.dst undef with
          | some a' => runOpsD full rest a' S
          | none => none
        | none => none
      | op => match stepOp P ih a.ev op S with
        | some (.val v, S') => match a.put o.dst v with
          | some a' => runOpsD full rest a' S'
          | none => none
        | some (.pan ch, S') => some (.panic ch, a, S')
        | none => none
    else match a.put o.dst undef with
      | some a' => runOpsD full rest a' S
      | none => none
/-- the outer code of a function that defers calls -/
def execX : Nat → Code → Ca → St → Option (Exit × Ca × St)
  | 0, _, _, _ => none
  | n + 1, code, a, S => match code with
    | .region id ops draw => bif hasDefer ops.toList then (bif draw || !constsOk P ops.toList then none else runOpsD P ih ops.toList ops.toList a S) else ih.exec none (.region id ops draw) a S
    | .seq x y => match execX n x a S with
      | some (.normal, a', S') => execX n y a' S'
      | r => r
    | .cond c x y => match a.ev c with
      | .bool b => execX n (if b then x else y) a S
      | _ => none
    | code => ih.exec none code a S

/-- how a function is left -/
inductive Mode where
  | ret
  | pan (chain : List PanicEntry)
def settleM : Mode → Mode
  | .pan (⟨_, true, _⟩ :: older) => match older.dropWhile (!·.goexit) with
    | [] => .ret
    | x :: rest => .pan (x :: rest)
  | m => m
def recoverM : Mode → Value × Mode
  | .pan (⟨v, false, false⟩ :: older) => (v, .pan (⟨v, true, false⟩ :: older))
  | m => (.nilIface, m)
/-- an operation of a deferred function that calls nothing -/
def stepD (ρ : Operand → Value) (op : Op) (S : St) : Option (Value × St) :=
  match kindOf op with
  | .read => match readOp P ρ op S with
    | some v => some (v, S)
    | none => none
  | .fresh => newOp P ρ op S
  | .heavy => match op with
    | .call _ => none
    | .panic _ => none
    | .defer _ => none
    | op => heavyOp P ρ op S
def isRec (o : Oper) : Bool := match o.op with
  | .call c => match c.callee with
    | .builtin .recover => true
    | _ => false
  | _ => false
/-- a region of a deferred function -/
def runD (full : List Oper) : List Oper → Ca → St → Mode → Option (Ca × St × Mode)
  | [], a, S, m => some (a, S, m)
  | o :: rest, a, S, m =>
    bif wantedC full a o then
      bif isRec o then match a.put o.dst (recoverM m).1 with
        | some a' => runD full rest a' S (recoverM m).2
        | none => none
      else match stepD P a.ev o.op S with
        | some (v, S') => match a.put o.dst v with
          | some a' => runD full rest a' S' m
          | none => none
        | none => none
    else match a.put o.dst undef with
      | some a' => runD full rest a' S m
      | none => none
/-- a deferred function's code -/
def execD : Nat → Code → Ca → St → Mode → Option (Exit × Ca × St × Mode)
  | 0, _, _, _, _ => none
  | n + 1, code, a, S, m => match code with
    | .skip => some (.normal, a, S, m)
    | .ret => some (.ret, a, S, m)
    | .region _ ops draw => bif draw || !constsOk P ops.toList then none else match runD P ops.toList ops.toList a S m with
      | some (a', S', m') => some (.normal, a', S', m')
      | none => none
    | .seq x y => match execD n x a S m with
      | some (.normal, a', S', m') => execD n y a' S' m'
      | r => r
    | .cond c x y => match a.ev c with
      | .bool b => execD n (if b then x else y) a S m
      | _ => none
    | _ => none
/-- a deferred call -/
def callD (f : FuncId) (args : List Value) (m : Mode) (S : St) : Option (Mode × St) := match P.funcs[f]? with
  | some fn => match fn.body with
    | some c => bif (fn.name == "runtime.NumGoroutine") || Nat.blt 256 (maxN fn.ntmps args.length) then none else match execD P 1000 c { n := maxN fn.ntmps args.length, t := PT.ofList 0 (PT.nil 8) args, defers := [] } S m with
      | some (e, a', S', m') => match e with
        | .normal | .ret => match a'.defers, resultsL P a' S' fn.results.toList with
          | [], some _ => some (m', S')
          | _, _ => none
        | _ => none
      | none => none
    | none => none
  | none => none
/-- the deferred calls at a function's end -/
def leaveD : List Deferred → Mode → St → Option (Mode × St)
  | [], m, S => some (m, S)
  | d :: ds, m, S => match d.target with
    | .collected r => match S.get r with
      | some (.defs false) => leaveD ds m (S.set r (.defs true))
      | _ => none
    | .fn (.func f) cap => match callD P f (d.args.toList ++ cap.toList) m S with
      | some (m', S') => leaveD ds (settleM m') S'
      | none => none
    | _ => none
def endD (a : Ca) (rs : List ResultVar) (r : Option (Mode × St)) : Option (Ending × St) := match r with
  | some (m, S) => match m with
    | .ret => match resultsL P a S rs with
      | some [v] => some (.returned v, S)
      | some vs => some (.returned (.tuple vs.toArray), S)
      | none => none
    | .pan ch => some (.panicked ch, S)
  | none => none
def enterD (f : FuncId) (args : List Value) (S : St) : Option (Ending × St) :=
  match P.funcs[f]? with
  | some fn => match fn.body with
    | some c => bif (fn.name == "runtime.NumGoroutine") || Nat.blt 256 (maxN fn.ntmps args.length) then none else match execX P ih 1000 c { n := maxN fn.ntmps args.length, t := PT.ofList 0 (PT.nil 8) args, defers := [] } S with
      | some (e, a', S') => match e with
        | .normal | .ret => endD P a' fn.results.toList (leaveD P a'.defers .ret S')
        | .panic ch => endD P a' fn.results.toList (leaveD P a'.defers (.pan ch) S')
        | _ => none
      | none => none
    | none => none
  | none => none

def enterF (f : FuncId) (args : List Value) (S : St) : Option (Ending × St) :=
  match K.call f args with
  | some v => some (.returned v, S)
  | none => bif K.defers f then enterD P ih f args S else enterB P K ih f args S

def setParams (n : Nat) (t : Tm) : List Tmp → List Value → Option Tm
  | [], [] => some t
  | p :: ps, v :: vs => bif Nat.blt p n then setParams n (t.set p (some v)) ps vs else none
  | _, _ => none

def roundF (l : Nat) (args : List Value) (S : St) : Option (Ending × St) :=
  match loopOf S l with
  | some (.ready, _, n, t, ps, x, y, _) => bif Nat.blt 256 n then none else match setParams n t ps args with
    | some t' => match ih.exec (some l) x { n := n, t := t', defers := [] } S with
      | some (.normal, a1, S1) => match loopOf S1 l with
        | some (.ready, p1, n1, t1, ps1, x1, y1, d1) => match ih.exec (some l) y a1 (S1.set l (.loop .busy p1 n1 t1 ps1 x1 y1 d1)) with
          | some (e, _, S2) => match loopOf S2 l with
            | some (_, _, n2, t2, ps2, x2, y2, d2) => match e with
              | .normal => some (.returned (.bool true), S2.set l (.loop .ready none n2 t2 ps2 x2 y2 d2))
              | .ret => some (.returned (.bool false), S2.set l (.loop .done (some .ret) n2 t2 ps2 x2 y2 d2))
              | .exit id => some (.returned (.bool false), S2.set l (.loop .done (some (.exit id)) n2 t2 ps2 x2 y2 d2))
              | _ => none
            | none => none
          | none => none
        | _ => none
      | _ => none
    | none => none
  | _ => none

/-- a method of a dynamic type: no promoted ones -/
def methodOf (t : TypeId) (v : Value) (name : String) (S : St) : Option (FuncId × Value) :=
  match P.info? t with
  | some i => match i.methods.find? (·.name == name) with
    | some m => bif m.path.isEmpty then match m.func with
        | some (f, ptr) => match P.underlying t, ptr with
          | some (.pointer _), true => some (f, v)
          | some (.pointer e), false => match loadV P e v S with
            | some x => some (f, x)
            | none => none
          | some _, false => some (f, v)
          | _, _ => none
        | none => none
      else none
    | none => none
  | none => none

def callF (target : Target) (args : List Value) (S : St) : Option (Ending × St) :=
  match target with
  | .fn (.func f) cap => enterF P K ih f (args ++ cap.toList) S
  | .fn (.yield l) _ => roundF ih l args S
  | .fn (.method name) _ => match args with
    | .iface t v :: rest => match methodOf P t v name S with
      | some (f, r) => enterF P K ih f (r :: rest) S
      | none => none
    | _ => none
  | .fn (.via t path f ptr) _ => match args with
    | x :: rest => bif path.isEmpty then match P.underlying t, ptr with
        | some (.pointer _), true => enterF P K ih f (x :: rest) S
        | some (.pointer e), false => match loadV P e x S with
          | some y => enterF P K ih f (y :: rest) S
          | none => none
        | some _, false => enterF P K ih f (x :: rest) S
        | _, _ => none
      else none
    | [] => none
  | _ => none

end

def fns (P : Program) (K : Known) : Nat → Fns
  | 0 => ⟨fun _ _ _ _ => none, fun _ _ _ => none⟩
  | n + 1 => ⟨execF P (fns P K n), callF P K (fns P K n)⟩

end Go.Cm
