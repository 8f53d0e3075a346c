/-
  The evaluator of the model, and that it is sound: part 1.
-/
import Derived.Calls
import Derived.Laws.Sem
import Derived.Laws.World
import Derived.Laws.Entries
import Derived.Laws.Cells
import Derived.Laws.Append
import Derived.Laws.Slices
import Derived.Laws.StructEq
import Derived.ChangeKeysEq
import Derived.LaidEql
import Derived.Laws.Tables
namespace Go.Cm
def PT (α : Type) : Nat → Type
 | 0 => Option α
 | d + 1 => PT α d × PT α d
namespace PT
variable {α : Type}
def nil : (d : Nat) → PT α d
 | 0 => (none : Option α)
 | d + 1 => (nil d, nil d)
def at_ : (d : Nat) → PT α d → Nat → Option α
 | 0, t, _ => t
 | d + 1, t, k => bif Nat.beq (k % 2) 0 then at_ d t.1 (k / 2) else at_ d t.2 (k / 2)
def BB (v : Option α) : (d : Nat) → PT α d → Nat → PT α d
 | 0, _, _ => v
 | d + 1, t, k => bif Nat.beq (k % 2) 0 then (BB v d t.1 (k / 2), t.2) else (t.1, BB v d t.2 (k / 2))
def get {d : Nat} (t : PT α d) (k : Nat) : Option α := bif Nat.blt k (2 ^ d) then at_ d t k else none
def set {d : Nat} (t : PT α d) (k : Nat) (v : Option α) : PT α d := bif Nat.blt k (2 ^ d) then BB v d t k else t
def ofList {d : Nat} (k : Nat) (t : PT α d) : List α → PT α d
 | [] => t
 | x :: r => ofList (k + 1) (t.set k (some x)) r
end PT
abbrev Tm := PT Value 8
inductive AD where
 | cells (c : List Value) (elem : TypeId) (row own : Bool) (kin : List Nat)
 | map (es : List MapEntry) (clock : Nat)
 | iter (s : List UInt8) (pos : Nat)
 | loop (state : LoopState) (pending : Option Code) (n : Nat) (tmps : Tm) (params : List Tmp) (assign body : Code) (defers : Nat)
 | defs (taken : Bool)
 | QZ (m : Nat)
structure Cf where
 t : PT AD 18
 more : Nat → Option AD
def Cf.get (h : Cf) (b : Nat) : Option AD := bif Nat.blt b 262144 then PT.at_ 18 h.t b else h.more b
def Cf.set (h : Cf) (b : Nat) (x : Option AD) : Cf := bif Nat.blt b 262144 then ⟨PT.BB x 18 h.t b, h.more⟩ else ⟨h.t, fun j => bif Nat.beq j b then x else h.more j⟩
def Cf.nil : Cf := ⟨PT.nil 18, fun _ => none⟩
structure St where
 heap : Cf
 size : Nat
def St.get (S : St) (b : Nat) : Option AD := S.heap.get b
def St.set (S : St) (b : Nat) (x : AD) : St := { S with heap := S.heap.set b (some x) }
def St.kill (S : St) : List Nat → St
 | [] => S
 | b :: r => St.kill { S with heap := S.heap.set b none } r
def St.new (S : St) (x : AD) : Nat × St := (S.size, { heap := S.heap.set S.size (some x), size := S.size + 1 })
structure Ca where
 n : Nat
 t : Tm
 defers : List Deferred
def Ca.get (a : Ca) (t : Tmp) : Value := match a.t.get t with
 | some v => v
 | none => undef
def Ca.ev (a : Ca) : Operand → Value
 | .tmp t => a.get t
 | .const v => v
 | .global g => .pointer (some ⟨g, 0, none⟩)
 | .func f => .func (.func f) #[] #[]
def Ca.put (a : Ca) (dst : Option Tmp) (v : Value) : Option Ca :=
 match dst with
 | none => some a
 | some d => bif Nat.blt d a.n then some { a with t := a.t.set d (some v) } else none
def takeN {α : Type} : Nat → List α → Option (List α)
 | 0, _ => some []
 | _ + 1, [] => none
 | n + 1, x :: l => match takeN n l with
  | some r => some (x :: r)
  | none => none
def BW {α : Type} : Nat → List α → List α
 | 0, l => l
 | _ + 1, [] => []
 | n + 1, _ :: l => BW n l
def nth {α : Type} : List α → Nat → Option α
 | [], _ => none
 | x :: _, 0 => some x
 | _ :: l, n + 1 => nth l n
def BJ {α : Type} : Nat → List α → List α → Option (List α)
 | _, [], l => some l
 | 0, _ :: _, [] => none
 | 0, x :: xs, _ :: l => match BJ 0 xs l with
  | some r => some (x :: r)
  | none => none
 | _ + 1, _ :: _, [] => none
 | o + 1, x :: xs, y :: l => match BJ o (x :: xs) l with
  | some r => some (y :: r)
  | none => none
def Kg : List UInt8 → List UInt8 → Bool
 | [], [] => true
 | a :: l, b :: r => bif Nat.beq a.toNat b.toNat then Kg l r else false
 | _, _ => false
def Oz : List UInt8 → List UInt8 → Bool
 | _, [] => false
 | [], _ :: _ => true
 | a :: x, b :: y => bif Nat.blt a.toNat b.toNat then true else bif Nat.beq a.toNat b.toNat then Oz x y else false
def AP : Value → List Value
 | .agg cs => cs.toList
 | v => [v]
def AM (l : List Value) : Value := .agg l.toArray
def Dp {α : Type} : Nat → List α → List α
 | 0, _ => []
 | n + 1, l => l ++ Dp n l
mutual
def DM : Nat → Value → Bool
 | 0, _ => false
 | _ + 1, .bool _ => true
 | _ + 1, .int _ _ => true
 | _ + 1, .float _ _ => true
 | _ + 1, .complex _ _ _ => true
 | _ + 1, .string _ => true
 | _ + 1, .pointer none => true
 | _ + 1, .slice none 0 0 => true
 | _ + 1, .map none => true
 | _ + 1, .nilFunc => true
 | _ + 1, .func (.func _) ⟨[]⟩ ⟨[]⟩ => true
 | _ + 1, .nilIface => true
 | n + 1, .iface _ v => DM n v
 | n + 1, .agg a => Ps n a.toList
 | n + 1, .tuple a => Ps n a.toList
 | _ + 1, _ => false
def Ps : Nat → List Value → Bool
 | 0, _ => false
 | _ + 1, [] => true
 | n + 1, v :: l => DM n v && Ps n l
end
def Lu : Nat := 1000000
def E' : Value → Bool
 | .agg _ => false
 | .tuple _ => false
 | _ => true
section
variable (P : Program)
def A0 (t : TypeId) : Option Nat := match P.info? t with
 | some i => some i.size
 | none => none
def zeroV (t : TypeId) : Option Value := match P.info? t with
 | some i => match i.zero with
  | some v => bif DM Lu v then some v else none
  | none => none
 | none => none
def zeroOf (t : TypeId) : Option (List Value) := match zeroV P t with
 | some v => some (AP v)
 | none => none
def Fo (t : TypeId) : Option Bool := match P.underlying t with
 | some (.struct _) | some (.array _ _) => some true
 | some _ => some false
 | none => none
def FL (t : TypeId) (cs : List Value) (off : Nat) : Option Value :=
 match Fo P t with
 | some true => match A0 P t with
  | some n => match takeN n (BW off cs) with
   | some l => some (AM l)
   | none => none
  | none => none
 | some false => nth cs off
 | none => none
def TG (op : BinOp) (k : IntKind) (a b : Int) : Option Value :=
 match op with
 | .add => some (.int k (k.wrap (a + b)))
 | .sub => some (.int k (k.wrap (a - b)))
 | .mul => some (.int k (k.wrap (a * b)))
 | .quo => if b = 0 then none else some (.int k (k.wrap (a.tdiv b)))
 | .rem => if b = 0 then none else some (.int k (a.tmod b))
 | .and => some (.int k (k.wrap (BitVec.ofInt k.bits a &&& BitVec.ofInt k.bits b).toNat))
 | .or => some (.int k (k.wrap (BitVec.ofInt k.bits a ||| BitVec.ofInt k.bits b).toNat))
 | .xor => some (.int k (k.wrap (BitVec.ofInt k.bits a ^^^ BitVec.ofInt k.bits b).toNat))
 | .andNot => some (.int k (k.wrap (BitVec.ofInt k.bits a &&& ~~~ BitVec.ofInt k.bits b).toNat))
 | .eql => some (.bool (a == b))
 | .neq => some (.bool (a != b))
 | .lss => some (.bool (a < b))
 | .leq => some (.bool (a ≤ b))
 | .gtr => some (.bool (a > b))
 | .geq => some (.bool (a ≥ b))
 | _ => none
def cF (op : BinOp) (k : IntKind) (a b : Int) : Option Value :=
 if b < 0 then none else
  match op with
  | .shl => some (.int k (k.wrap (a * 2 ^ min b.toNat k.bits)))
  | .shr => some (.int k (a.fdiv (2 ^ min b.toNat k.bits)))
  | _ => none
def c7 (op : BinOp) (a b : ByteArray) : Option Value :=
 match op with
 | .add => if a.size + b.size > 1000000 then none else some (.string ⟨(a.data.toList ++ b.data.toList).toArray⟩)
 | .eql => some (.bool (Kg a.data.toList b.data.toList))
 | .neq => some (.bool (!Kg a.data.toList b.data.toList))
 | .lss => some (.bool (Oz a.data.toList b.data.toList))
 | .leq => some (.bool (Oz a.data.toList b.data.toList || Kg a.data.toList b.data.toList))
 | .gtr => some (.bool (!(Oz a.data.toList b.data.toList || Kg a.data.toList b.data.toList)))
 | .geq => some (.bool (!Oz a.data.toList b.data.toList))
 | _ => none
def eqFields (eq : TypeId → Value → Value → Option Bool) (xs ys : List Value) : List Field → Option Bool
 | [] => some true
 | f :: fs =>
  if f.name = "_" then eqFields eq xs ys fs else
  match FL P f.type xs f.offset, FL P f.type ys f.offset with
  | some x, some y => match eq f.type x y with
   | some true => eqFields eq xs ys fs
   | r => r
  | _, _ => none
def Ri (eq : TypeId → Value → Value → Option Bool) (elem : TypeId) (size : Nat) (xs ys : List Value) : Nat → Nat → Option Bool
 | 0, _ => some true
 | n + 1, i =>
  match FL P elem xs (i * size), FL P elem ys (i * size) with
  | some x, some y => match eq elem x y with
   | some true => Ri eq elem size xs ys n (i + 1)
   | r => r
  | _, _ => none
def Ci : Nat → TypeId → Value → Value → Option Bool
 | 0, _, _, _ => none
 | d + 1, t, x, y =>
  match P.underlying t with
  | some .bool => match x, y with
   | .bool a, .bool b => some (a == b)
   | _, _ => none
  | some (.int _) => match x, y with
   | .int k a, .int k' b => if k = k' then some (a == b) else none
   | _, _ => none
  | some .string => match x, y with
   | .string a, .string b => some (Kg a.data.toList b.data.toList)
   | _, _ => none
  | some (.pointer e) => match x, y with
   | .pointer none, .pointer b => some b.isNone
   | .pointer _, .pointer none => some false
   | .pointer (some ⟨b, o, none⟩), .pointer (some ⟨b', o', none⟩) => bif Nat.beq b b' && Nat.beq o o' && (P.info? e).isSome then some true else none
   | _, _ => none
  | some (.interface _) => match x, y with
   | .nilIface, .nilIface => some true
   | .nilIface, .iface _ _ => some false
   | .iface _ _, .nilIface => some false
   | .iface tx vx, .iface ty vy => if tx ≠ ty then some false else
    match P.info? tx with
    | some i => if i.comparable then Ci d tx vx vy else none
    | none => none
   | _, _ => none
  | some (.struct fields) => match x, y with
   | .agg xs, .agg ys => if P.stoodInHeld t then none else eqFields P (Ci d) xs.toList ys.toList fields.toList
   | _, _ => none
  | some (.array len elem) => match x, y with
   | .agg xs, .agg ys => match A0 P elem with
    | some n => Ri P (Ci d) elem n xs.toList ys.toList len 0
    | none => none
   | _, _ => none
  | some (.slice _) => match x, y with
   | .slice none _ _, .slice b _ _ => some b.isNone
   | .slice _ _ _, .slice none _ _ => some false
   | _, _ => none
  | some (.map _ _) => match x, y with
   | .map none, .map b => some b.isNone
   | .map _, .map none => some false
   | _, _ => none
  | some (.func _ _ _) => match x, y with
   | .nilFunc, .nilFunc => some true
   | .nilFunc, .func _ _ _ => some false
   | .func _ _ _, .nilFunc => some false
   | _, _ => none
  | _ => none
def EF : Nat := 40
def M7 (_ : BinOp) (t : TypeId) (x y : Operand) (a b : Value) : Bool :=
 match a, b with
 | .nilIface, .nilIface => match x, y with
  | .const _, _ => true
  | _, .const _ => true
  | _, _ => false
 | .agg _, .agg _ => !(P.eqGuardType P.depth t)
 | _, _ => true
def Fu (op : BinOp) (t : TypeId) (xo yo : Operand) (x y : Value) : Option Value :=
 match x, y with
 | .int k a, .int k' b => match op with
  | .shl | .shr => cF op k a b
  | _ => if k = k' then TG op k a b else none
 | .string a, .string b => c7 op a b
 | .float _ _, _ | .complex _ _ _, _ => none
 | x, y => match op with
  | .eql => if M7 P op t xo yo x y then match Ci P EF t x y with
    | some r => some (.bool r)
    | none => none
   else none
  | .neq => if M7 P op t xo yo x y then match Ci P EF t x y with
    | some r => some (.bool (!r))
    | none => none
   else none
  | _ => none
def Wz (op : UnOp) (x : Value) : Option Value :=
 match op, x with
 | .neg, .int k n => some (.int k (k.wrap (0 - n)))
 | .xor, .int k n => TG .xor k (if k.signed then -1 else k.max) n
 | .not, .bool b => some (.bool !b)
 | _, _ => none
def JP (place : Nat → Option (Nat × Nat)) (cells : List Value) : List (Nat × Value) → Option (List Value)
 | [] => some cells
 | (i, v) :: rest =>
  match place i with
  | none => none
  | some (off, size) =>
   bif Nat.beq (AP v).length size && Nat.ble (off + size) cells.length then
    match BJ off (AP v) cells with
    | some c => JP place c rest
    | none => none
   else none
def Kc (ρ : Operand → Value) (l : List (Nat × Operand)) : List (Nat × Value) := l.map fun x => (x.1, ρ x.2)
def Uj (t : TypeId) (parts : List (Nat × Value)) : Option Value :=
 match zeroOf P t, P.underlying t with
 | some z, some (.struct fields) => match fields.toList.mapM (fun f => (P.info? f.type).map fun i => (f.offset, i.size)) with
  | some places => match JP (nth places) z parts with
   | some c => some (AM c)
   | none => none
  | none => none
 | some z, some (.array _ elem) => match A0 P elem with
  | some n => match JP (fun i => some (i * n, n)) z parts with
   | some c => some (AM c)
   | none => none
  | none => none
 | _, _ => none
def Ns (S : St) (b o n : Nat) : Option (List Value) :=
 match S.get b with
 | some (.cells c _ _ _ _) => takeN n (BW o c)
 | _ => none
def DJ (t : TypeId) (v : Value) (S : St) : Option Value :=
 match v with
 | .pointer (some ⟨b, o, none⟩) => match S.get b with
  | some (.cells c _ _ _ _) => FL P t c o
  | _ => none
 | _ => none
def JE (S : St) (b o : Nat) (vs : List Value) : Option St :=
 match S.get b with
 | some (.cells c e row true kin) => bif vs.all E' && Nat.blt 0 vs.length then match BJ o vs c with
   | some c' => some ((S.kill kin).set b (.cells c' e row true []))
   | none => none
  else none
 | _ => none
def Gv (t : TypeId) (a v : Value) (S : St) : Option St :=
 match a with
 | .pointer (some ⟨b, o, none⟩) => match A0 P t with
  | some n => bif Nat.beq (AP v).length n then JE S b o (AP v) else none
  | none => none
 | _ => none
def ptrTo (b o : Nat) : Value := .pointer (some ⟨b, o, none⟩)
def Nj (S : St) (c : List Value) (e : TypeId) (row : Bool) : Value × St :=
 match S.new (.cells c e row true []) with
 | (b, S') => (ptrTo b 0, S')
def LQ (S : St) (c : List Value) (e : TypeId) (len cap : Nat) : Value × St :=
 match S.new (.cells c e true true []) with
 | (b, S') => (.slice (some ⟨b, 0, none⟩) len cap, S')
def Hj (x : Option Value) (Mx : Nat) (hi : Nat) : Option Nat :=
 match x with
 | none => some Mx
 | some (.int _ i) => if 0 ≤ i ∧ i ≤ hi then some i.toNat else none
 | _ => none
def GV (len cap : Nat) (lo hi mx : Option Value) : Option (Nat × Nat × Nat) :=
 match Hj mx cap cap with
 | some m => match hi, mx with
  | none, some _ => none
  | _, _ => match Hj hi len m with
   | some h => match Hj lo 0 h with
    | some l => some (l, h, m)
    | none => none
   | none => none
 | none => none
def Jn (S : St) (b z : Nat) : Bool := match S.get b with
 | some (.cells _ e true _ _) => match A0 P e with
  | some n => Nat.beq n z
  | none => false
 | some (.cells _ _ false _ _) => true
 | _ => false
def O8 (S : St) (b : Nat) : Bool := match S.get b with
 | some (.cells _ _ false _ _) => true
 | _ => false
def Fi (t : TypeId) (x : Value) (lo hi mx : Option Value) (S : St) : Option Value :=
 match P.underlying t with
 | some .string => match x with
  | .string s => match mx with
   | some _ => none
   | none => match GV s.data.toList.length s.data.toList.length lo hi none with
    | some (l, h, _) => some (.string ⟨((s.data.toList.drop l).take (h - l)).toArray⟩)
    | none => none
  | _ => none
 | some (.slice elem) => match x with
  | .slice a len cap => match A0 P elem, GV len cap lo hi mx with
   | some z, some (l, h, m) => match a with
    | none => some (.slice none (h - l) (m - l))
    | some ⟨b, o, none⟩ => bif Jn P S b z then (bif mx.isSome && Nat.beq m l then some (.slice (some ⟨b, o, some 0⟩) 0 0) else some (.slice (some ⟨b, o + l * z, none⟩) (h - l) (m - l))) else none
    | some ⟨b, o, some k⟩ => bif Nat.beq len 0 && Nat.beq cap 0 then some (.slice (some ⟨b, o, some k⟩) 0 0) else none
   | _, _ => none
  | _ => none
 | some (.array n elem) => match x with
  | .pointer (some ⟨b, o, none⟩) => match A0 P elem, GV n n lo hi mx with
   | some z, some (l, h, m) => bif O8 S b then some (.slice (some ⟨b, o + l * z, none⟩) (h - l) (m - l)) else none
   | _, _ => none
  | _ => none
 | _ => none
def K5 (s : TypeId) (x : Value) (i : Nat) : Option Value :=
 match P.underlying s, x with
 | some (.struct fields), .pointer (some ⟨b, o, none⟩) => match nth fields.toList i with
  | some f => match A0 P f.type with
   | some (_ + 1) => some (ptrTo b (o + f.offset))
   | _ => none
  | none => none
 | _, _ => none
def X6 (s : TypeId) (x : Value) (i : Nat) : Option Value :=
 match P.underlying s, x with
 | some (.struct fields), .agg cs => match nth fields.toList i with
  | some f => FL P f.type cs.toList f.offset
  | none => none
 | _, _ => none
def KT (t : TypeId) (x ix : Value) : Option Value :=
 match ix with
 | .int _ i => match P.underlying t, x with
  | some (.array len elem), .pointer (some ⟨b, o, none⟩) => if 0 ≤ i ∧ i < len then match A0 P elem with
    | some n => some (ptrTo b (o + i.toNat * n))
    | none => none
   else none
  | some (.slice elem), .slice (some ⟨b, o, none⟩) len _ => if 0 ≤ i ∧ i < len then match A0 P elem with
    | some n => some (ptrTo b (o + i.toNat * n))
    | none => none
   else none
  | _, _ => none
 | _ => none
def KU (t : TypeId) (x ix : Value) : Option Value :=
 match ix with
 | .int _ i => match P.underlying t, x with
  | some (.array len elem), .agg cs => if 0 ≤ i ∧ i < len then match A0 P elem with
    | some n => FL P elem cs.toList (i.toNat * n)
    | none => none
   else none
  | some .string, .string s => if 0 ≤ i then match nth s.data.toList i.toNat with
    | some b => some (.int .u8 b.toNat)
    | none => none
   else none
  | _, _ => none
 | _ => none
def Vx (x : Value) : Option Value :=
 match x with
 | .pointer (some a) => some (.pointer (some a))
 | .iface t v => some (.iface t v)
 | .func (.func f) a b => some (.func (.func f) a b)
 | .func (.yield f) a b => some (.func (.yield f) a b)
 | .func (.via t p f q) a b => some (.func (.via t p f q) a b)
 | _ => none
mutual
def CO : Nat → Value → Value → Bool
 | 0, _, _ => false
 | _ + 1, .bool a, .bool b => a == b
 | _ + 1, .int j a, .int k b => decide (j = k) && decide (a = b)
 | _ + 1, .string a, .string b => Kg a.data.toList b.data.toList
 | _ + 1, .pointer a, .pointer b => decide (a = b)
 | _ + 1, .slice a n c, .slice b m d => decide (a = b) && Nat.beq n m && Nat.beq c d
 | _ + 1, .map a, .map b => decide (a = b)
 | n + 1, .func f a b, .func g c d => decide (f = g) && GN n a.toList c.toList && GN n b.toList d.toList
 | _ + 1, .nilFunc, .nilFunc => true
 | n + 1, .iface t v, .iface u w => Nat.beq t u && CO n v w
 | _ + 1, .nilIface, .nilIface => true
 | n + 1, .agg a, .agg b => GN n a.toList b.toList
 | n + 1, .tuple a, .tuple b => GN n a.toList b.toList
 | _, _, _ => false
def GN : Nat → List Value → List Value → Bool
 | 0, _, _ => false
 | _ + 1, [], [] => true
 | n + 1, a :: l, b :: r => CO n a b && GN n l r
 | _, _, _ => false
end
def G9 : Nat → TypeId → Value → Bool
 | 0, _, _ => false
 | n + 1, t, v =>
  match P.underlying t with
  | some (.interface _) => false
  | some (.array len elem) => match v, A0 P elem with
   | .agg cs, some z => (List.range len).all fun i => match FL P elem cs.toList (i * z) with
    | some x => G9 n elem x
    | none => false
   | _, _ => false
  | some (.struct fields) => match v with
   | .agg cs => fields.toList.all fun f => f.name = "_" || match FL P f.type cs.toList f.offset with
    | some x => G9 n f.type x
    | none => false
   | _ => false
  | some _ => true
  | none => false
def Ij (t : TypeId) (k : Value) : List MapEntry → Nat → Option (Option (Nat × Value))
 | [], _ => some none
 | e :: es, i => match Ci P EF t k e.key with
  | some true => some (some (i, e.val))
  | some false => Ij t k es (i + 1)
  | none => none
def mapOf (S : St) (x : Value) : Option (List MapEntry) :=
 match x with
 | .map none => some []
 | .map (some r) => match S.get r with
  | some (.map es _) => some es
  | _ => none
 | _ => none
def Ji (t : TypeId) (x ix : Value) (Pm : Bool) (S : St) : Option Value :=
 match P.underlying t with
 | some (.map key elem) => match mapOf S x with
  | some es => if G9 P 20 key ix then match Ij P key ix es 0 with
    | some (some (_, v)) => some (if Pm then .tuple #[v, .bool true] else v)
    | some none => match zeroV P elem with
     | some z => some (if Pm then .tuple #[z, .bool false] else z)
     | none => none
    | none => none
   else none
  | none => none
 | _ => none
def plainKey : Nat → Value → Bool
 | _, .bool _ => true
 | _, .int _ _ => true
 | _, .string _ => true
 | n + 1, .agg cs => cs.toList.all (plainKey n)
 | _, _ => false
def Gu (es : List MapEntry) (i : Nat) (k v : Value) : List MapEntry :=
 match es, i with
 | [], _ => []
 | e :: es, 0 => { e with key := k, val := v } :: es
 | e :: es, i + 1 => e :: Gu es i k v
def Qa (t : TypeId) (m k v : Value) (S : St) : Option St :=
 match P.underlying t, m with
 | some (.map key _), .map (some r) => match S.get r with
  | some (.map es clock) => if G9 P 20 key k && plainKey 20 k then match Ij P key k es 0 with
    | some (some (i, _)) => match nth es i with
     | some e => bif CO 1000 e.key k then some (S.set r (.map (Gu es i k v) clock)) else none
     | none => none
    | some none => some (S.set r (.map (es ++ [{ key := k, val := v, born := clock }]) (clock + 1)))
    | none => none
   else none
  | _ => none
 | _, _ => none
def Z5 (t : TypeId) (m k : Value) (S : St) : Option (Value × St) :=
 match P.underlying t, m with
 | some (.map key elem), .map (some r) => match S.get r with
  | some (.map es clock) => if G9 P 20 key k && plainKey 20 k then match Ij P key k es 0 with
    | some (some (i, v)) => match nth es i with
     | some e => bif CO 1000 e.key k then some (.tuple #[v, .int .i64 e.born], S.set r (.map (Gu es i k e.val) clock)) else none
     | none => none
    | some none => match zeroV P elem with
     | some z => some (.tuple #[z, .int .i64 clock], S.set r (.map (es ++ [{ key := k, val := z, born := clock }]) (clock + 1)))
     | none => none
    | none => none
   else none
  | _ => none
 | _, _ => none
def Wv (born : Int) (v : Value) : List MapEntry → Option (List MapEntry)
 | [] => none
 | e :: es => if (e.born : Int) = born then some ({ e with val := v } :: es) else match Wv born v es with
  | some r => some (e :: r)
  | none => none
def Xx (m AEO v : Value) (S : St) : Option St :=
 match m, AEO with
 | .map (some r), .int _ born => match S.get r with
  | some (.map es clock) => match Wv born v es with
   | some Ax => some (S.set r (.map Ax clock))
   | none => none
  | _ => none
 | _, _ => none
def bD (t : TypeId) (x : Value) (S : St) : Option (Value × St) :=
 match P.underlying t, x with
 | some (.map _ _), .map (some r) => match S.get r with
  | some (.map [] _) => match S.new (.QZ r) with
   | (b, S') => some (ptrTo b 0, S')
  | _ => none
 | _, _ => none
def aK (it : Value) (isString : Bool) (S : St) : Option (Value × St) :=
 match it, isString with
 | .pointer (some ⟨r, 0, none⟩), false => match S.get r with
  | some (.QZ m) => match S.get m with
   | some (.map [] _) => some (.tuple #[.bool false], S)
   | _ => none
  | _ => none
 | _, _ => none
def RB (x : Value) (asserted : TypeId) (Pm : Bool) : Option Value :=
 match P.underlying asserted, x with
 | some (.interface _), _ => none
 | some _, .nilIface => if Pm then match zeroV P asserted with
   | some z => some (.tuple #[z, .bool false])
   | none => none
  else none
 | some _, .iface t v => if t = asserted then some (if Pm then .tuple #[v, .bool true] else v)
  else if Pm then match zeroV P asserted with
   | some z => some (.tuple #[z, .bool false])
   | none => none
  else none
 | _, _ => none
def G' (t : TypeId) (x : Value) (S : St) : Option Value :=
 match P.underlying t, x with
 | some .string, .string s => some (.int .i64 s.data.toList.length)
 | some (.array n _), _ => some (.int .i64 n)
 | some (.pointer arr), _ => match P.underlying arr with
  | some (.array n _) => some (.int .i64 n)
  | _ => none
 | some (.slice _), .slice _ n _ => some (.int .i64 n)
 | some (.map _ _), .map none => some (.int .i64 0)
 | some (.map _ _), .map (some r) => match S.get r with
  | some (.map es _) => some (.int .i64 es.length)
  | _ => none
 | _, _ => none
def El (S : St) (size n : Nat) (x : Value) : Option (List Value) :=
 match x with
 | .slice none _ _ => bif Nat.beq n 0 then some [] else none
 | .slice (some ⟨b, o, none⟩) _ _ => Ns S b o (n * size)
 | .slice (some ⟨_, _, some _⟩) _ _ => bif Nat.beq n 0 then some [] else none
 | .string s => bif Nat.beq size 1 then takeN n (s.data.toList.map fun b => .int .u8 b.toNat) else none
 | _ => none
def Gp : Value → Option Nat
 | .slice _ n _ => some n
 | .string s => some s.data.toList.length
 | _ => none
def AQ : Nat := 2 ^ 30
def X5 (S : St) (b o size : Nat) (new : List Value) : Option St :=
 match S.get b with
 | some (.cells c e true true kin) => match A0 P e with
  | some z => bif new.all E' && Nat.blt 0 new.length && Nat.beq o c.length && Nat.beq z size && Nat.blt 0 z then some ((S.kill kin).set b (.cells (c ++ new) e true true [])) else none
  | none => none
 | _ => none
def OD (base : Option Addr) (len n cap size : Nat) (new : List Value) (S : St) : Option (Value × St) :=
 match base with
 | none => some (.slice none (len + n) cap, S)
 | some ⟨b, o, none⟩ => bif Nat.beq new.length 0 then some (.slice (some ⟨b, o, none⟩) (len + n) cap, S) else match JE S b (o + len * size) new with
  | some S' => some (.slice (some ⟨b, o, none⟩) (len + n) cap, S')
  | none => match X5 P S b (o + len * size) size new with
   | some S' => some (.slice (some ⟨b, o, none⟩) (len + n) cap, S')
   | none => none
 | some ⟨b, o, some k⟩ => bif Nat.beq new.length 0 && (Nat.beq (len + n) 0 && Nat.beq cap 0) then some (.slice (some ⟨b, o, some k⟩) 0 0, S) else none
def OE (elem : TypeId) (base : Option Addr) (len n size : Nat) (new : List Value) (S : St) : Option (Value × St) :=
 match base with
 | none => bif Nat.beq len 0 then some (LQ S new elem n n) else none
 | some ⟨_, _, some _⟩ => bif Nat.beq len 0 then some (LQ S new elem n n) else none
 | some ⟨b, o, none⟩ => match S.get b with
  | some (.cells c e true true kin) => match takeN (len * size) (BW o c) with
   | some old => bif Nat.beq e elem && Nat.beq (o + len * size) c.length then
     match (S.set b (.cells c e true false kin)).new (.cells (old ++ new) elem true true (b :: kin)) with
     | (b', S') => some (.slice (some ⟨b', 0, none⟩) (len + n) (len + n), S')
    else none
   | none => none
  | _ => none
def KB (elem : TypeId) (size need : Nat) : Bool := match P.info? elem, zeroV P elem with
 | some ei, some z => Nat.ble ei.bytes 1024 && Nat.blt 0 ei.bytes && Nat.ble need AQ && Nat.beq (AP z).length size && Nat.blt 0 size
 | _, _ => false
def F9 (elem : TypeId) (base : Option Addr) (len cap n size : Nat) (new : List Value) (S : St) : Option (Value × St) :=
 bif Nat.ble (len + n) cap then OD P base len n cap size new S
 else bif KB P elem size (len + n) && OG new then OE elem base len n size new S else none
 where OG (l : List Value) : Bool := l.all E'
def F3 (d : TypeDesc) : Bool := match d with
 | .int _ => true
 | _ => false
def E9 (argTypes : List TypeId) (s x : Value) (S : St) : Option (Value × St) :=
 match argTypes with
 | sT :: xT :: _ => match P.underlying sT, s, Gp x, P.underlying xT with
  | some (.slice elem), .slice base len cap, some n, some xd => bif F3 xd then none else match A0 P elem with
   | some size => match El S size n x with
    | some new => F9 P elem base len cap n size new S
    | none => none
   | none => none
  | _, _, _, _ => none
 | _ => none
def Ub (argTypes : List TypeId) (s x : Value) (S : St) : Option (Value × St) :=
 match argTypes, s, x with
 | sT :: xT :: _, .slice none 0 0, .int _ (.ofNat n) => match P.underlying sT, P.underlying xT with
  | some (.slice elem), some (.int _) => match A0 P elem, zeroV P elem with
   | some size, some z => bif Nat.blt 0 n && KB P elem size n then some (LQ S (Dp n (AP z)) elem n n) else none
   | _, _ => none
  | _, _ => none
 | _, _, _ => none
def copyV (argTypes : List TypeId) (d x : Value) (S : St) : Option (Value × St) :=
 match argTypes with
 | dT :: _ => match P.underlying dT, d, Gp x with
  | some (.slice elem), .slice base OJ _, some xn => match A0 P elem with
   | some size => match El S size (Nat.min xn OJ) x with
    | some new => match base with
     | none => some (.int .i64 (Nat.min xn OJ), S)
     | some ⟨b, o, none⟩ => bif Nat.beq new.length 0 then some (.int .i64 (Nat.min xn OJ), S) else match JE S b o new with
      | some S' => some (.int .i64 (Nat.min xn OJ), S')
      | none => none
     | _ => none
    | none => none
   | none => none
  | _, _, _ => none
 | _ => none
def Nh (isMax : Bool) : Value → List Value → Option Value
 | v, [] => some v
 | .int k x, .int _ y :: r => Nh isMax (.int k (if isMax then (if y > x then y else x) else (if y < x then y else x))) r
 | _, _ => none
def QY (t : TypeId) (len cap : Value) (S : St) : Option (Value × St) :=
 match P.underlying t, len, cap with
 | some (.slice elem), .int _ l, .int _ c => match P.info? elem with
  | some ei => match zeroV P elem with
   | some z => if 0 ≤ l ∧ l ≤ c ∧ c ≤ AQ ∧ ei.bytes ≤ 1024 ∧ (AP z).length = ei.size then some (LQ S (Dp c.toNat (AP z)) elem l.toNat c.toNat) else none
   | none => none
  | none => none
 | _, _, _ => none
def Pj : List Value → Option (List UInt8)
 | [] => some []
 | .int .u8 n :: r => match Pj r with
  | some l => some (UInt8.ofNat n.toNat :: l)
  | none => none
 | _ :: _ => none
def dN (argTypes : List TypeId) (p : Value) (n : Int) (S : St) : Option (Value × St) :=
 match argTypes, p with
 | [pt, _], .pointer a => match n with
  | .ofNat 0 => some (.string ⟨#[]⟩, S)
  | .ofNat (m + 1) => match a with
   | some ⟨b, o, none⟩ => match P.underlying pt, S.get b with
    | some (.pointer t), some (.cells c e true true kin) => bif Nat.beq t e && !(Nat.beq e 0) && Nat.beq (P.cellsOf e) 1 && Nat.blt m 1000000 then match takeN (m + 1) (BW o c) with
      | some l => match Pj l with
       | some bs => some (.string ⟨bs.toArray⟩, (S.kill kin).set b (.cells c e true false []))
       | none => none
      | none => none
     else none
    | _, _ => none
   | _ => none
  | _ => none
 | _, _ => none
def RX (argTypes : List TypeId) (x : Value) (S : St) : Option (Value × St) :=
 match argTypes with
 | t :: _ => match P.underlying t, x with
  | some (.slice elem), .slice base n _ => bif Nat.beq n 0 then some (.tuple #[], S) else match base, zeroV P elem with
   | some ⟨b, o, none⟩, some z => match JE S b o (Dp n (AP z)) with
    | some S' => some (.tuple #[], S')
    | none => none
   | _, _ => none
  | _, _ => none
 | [] => none
def Uu (S : St) (src dst : TypeId) (x : Value) : Option (Value × St) :=
 match P.underlying src, P.underlying dst, x with
 | some _, some (.int k), .int _ n => some (.int k (k.wrap n), S)
 | some _, some .string, .string s => some (.string s, S)
 | some (.slice e), some .string, .slice none _ _ => match P.underlying e with
  | some (.int .u8) => some (.string ⟨#[]⟩, S)
  | _ => none
 | some (.slice e), some .string, .slice (some ⟨b, o, none⟩) n c => match P.underlying e, El S 1 n (.slice (some ⟨b, o, none⟩) n c) with
  | some (.int .u8), some l => match Pj l with
   | some bs => some (.string ⟨bs.toArray⟩, S)
   | none => none
  | _, _ => none
 | some (.pointer t), some .unsafePointer, .pointer (some ⟨b, o, none⟩) => match A0 P t, S.get b with
  | some (_ + 1), some (.cells c _ _ _ _) => bif Nat.blt o c.length then some (.pointer (some ⟨b, o, none⟩), S) else none
  | _, _ => none
 | some .unsafePointer, some (.pointer u), .pointer (some ⟨b, o, none⟩) => match A0 P u, S.get b with
  | some _, some (.cells c e false _ _) => bif !(Nat.beq e 0) && liesAt P P.depth e (c.length / P.cellsOf e) o u 1 then some (.pointer (some ⟨b, o, none⟩), S) else none
  | _, _ => none
 | _, _, _ => none
def Dj (b : Builtin) (argTypes : List TypeId) (args : List Value) (S : St) : Option (Value × St) :=
 match b, args with
 | .len, [x] => match argTypes with
  | t :: _ => match G' P t x S with
   | some v => some (v, S)
   | none => none
  | [] => none
 | .append, [s, x] => match E9 P argTypes s x S with
  | some r => some r
  | none => Ub P argTypes s x S
 | .min, x :: r => match Nh false x r with
  | some v => some (v, S)
  | none => none
 | .max, x :: r => match Nh true x r with
  | some v => some (v, S)
  | none => none
 | .copy, [d, x] => copyV P argTypes d x S
 | .clear, [x] => RX P argTypes x S
 | .cap, [x] => match argTypes, x with
  | t :: _, .slice none 0 0 => match P.underlying t with
   | some (.slice _) => some (.int .i64 0, S)
   | _ => none
  | _, _ => none
 | .unsafeSliceData, [x] => match x with
  | .slice none _ _ => some (.pointer none, S)
  | .slice (some ⟨b, o, none⟩) _ (_ + 1) => some (ptrTo b o, S)
  | _ => none
 | .unsafeString, [p, n] => match n with
  | .int .i64 i => dN P argTypes p i S
  | _ => none
 | _, _ => none
def Hf (ρ : Operand → Value) (op : Op) : Option Value :=
 match op with
 | .move x | .assign x => some (ρ x)
 | .pick c a b => match ρ c with
  | .bool t => some (if t then ρ a else ρ b)
  | _ => none
 | .build t parts => Uj P t (Kc ρ parts.toList)
 | .nilCheck x => Vx (ρ x)
 | .binOp op t x y _ => Fu P op t x y (ρ x) (ρ y)
 | .unOp op _ x => Wz op (ρ x)
 | .makeInterface t x => match P.underlying t with
  | some (.interface _) => none
  | some _ => some (.iface t (ρ x))
  | none => none
 | .makeFunc fn first captured => match fn with
  | .func f => some (.func (.func f) ⟨first.toList.map ρ⟩ ⟨captured.toList.map ρ⟩)
  | .method n => some (.func (.method n) ⟨first.toList.map ρ⟩ ⟨captured.toList.map ρ⟩)
  | .via t p f q => some (.func (.via t p f q) ⟨first.toList.map ρ⟩ ⟨captured.toList.map ρ⟩)
  | _ => none
 | .fieldAddr s x i => K5 P s (ρ x) i
 | .field t x i => X6 P t (ρ x) i
 | .indexAddr t x i => KT P t (ρ x) (ρ i)
 | .index t x i => KU P t (ρ x) (ρ i)
 | .typeAssert x _ t ok => RB P (ρ x) t ok
 | .extract x i => match ρ x with
  | .tuple vs => nth vs.toList i
  | _ => none
 | _ => none
def Cl (ρ : Operand → Value) (op : Op) (S : St) : Option Value :=
 match op with
 | .load t a => DJ P t (ρ a) S
 | .slice t x lo hi mx => Fi P t (ρ x) (lo.map ρ) (hi.map ρ) (mx.map ρ) S
 | .lookup t x i ok => Ji P t (ρ x) (ρ i) ok S
 | .call { callee := .builtin .len, args, argTypes } => match args.toList, argTypes.toList with
  | [x], t :: _ => G' P t (ρ x) S
  | _, _ => none
 | op => Hf P ρ op
def C1 (ρ : Operand → Value) (op : Op) (S : St) : Option (Value × St) :=
 match op with
 | .alloc e => match zeroOf P e with
  | some z => some (Nj S z e false)
  | none => none
 | .box e x => some (Nj S (AP (ρ x)) e false)
 | .buildSlice t len parts => match P.underlying t with
  | some (.slice elem) => match P.info? elem with
   | some ei => match zeroV P elem with
    | some z => if len * ei.size ≤ 1000000 ∧ (AP z).length = ei.size then match JP (fun i => some (i * ei.size, ei.size)) (Dp len (AP z)) (Kc ρ parts.toList) with
      | some c => some (LQ S c elem len len)
      | none => none
     else none
    | none => none
   | none => none
  | _ => none
 | .makeMap _ none => match S.new (.map [] 0) with
  | (b, S') => some (.map (some b), S')
 | _ => none
def JW (ρ : Operand → Value) (op : Op) (S : St) : Option (Value × St) :=
 match op with
 | .store t a x => match Gv P t (ρ a) (ρ x) S with
  | some S' => some (undef, S')
  | none => none
 | .convert src dst x => Uu P S src dst (ρ x)
 | .makeMap t (some h) => match P.underlying t, ρ h with
  | some (.map _ _), .int _ _ => match S.new (.map [] 0) with
   | (b, S') => some (.map (some b), S')
  | _, _ => none
 | .makeSlice t l c => QY P t (ρ l) (ρ c) S
 | .range t x => bD P t (ρ x) S
 | .next it isString => aK (ρ it) isString S
 | .mapUpdate t m k x => match Qa P t (ρ m) (ρ k) (ρ x) S with
  | some S' => some (undef, S')
  | none => none
 | .insert t m k x => match Qa P t (ρ m) (ρ k) (ρ x) S with
  | some S' => some (undef, S')
  | none => none
 | .mapEntry t m k => Z5 P t (ρ m) (ρ k) S
 | .entryStore _ m s x => match Xx (ρ m) (ρ s) (ρ x) S with
  | some S' => some (undef, S')
  | none => none
 | .call { callee := .builtin b, args, argTypes } => Dj P b argTypes.toList (args.toList.map ρ) S
 | _ => none
inductive Kind where
 | read | fresh | Ed
 deriving DecidableEq
def kindOf (op : Op) : Kind :=
 match op with
 | .move _ | .assign _ | .pick .. | .build .. | .nilCheck _ | .binOp .. | .unOp .. | .makeInterface .. | .makeFunc .. | .slice .. | .fieldAddr .. | .field ..
 | .indexAddr .. | .index .. | .typeAssert .. | .extract .. | .load .. | .lookup .. => .read
 | .call { callee := .builtin .len, .. } => .read
 | .alloc _ | .box .. | .buildSlice .. | .makeMap _ none => .fresh
 | _ => .Ed
inductive N8 where
 | val (v : Value)
 | A6 (chain : List PanicEntry)
structure Bo where
 exec : Option Nat → Code → Ca → St → Option (Exit × Ca × St)
 call : Target → List Value → St → Option (Ending × St)
structure A1 where
 ext : FuncId → List Value → St → Option (Value × St)
 call : FuncId → List Value → St → Option Value
 defers : FuncId → Bool
end
section
variable (P : Program) (K : A1) (ih : Bo)
def Kw (ρ : Operand → Value) (c : Call) (S : St) : Option (Ending × St) :=
 match c.callee with
 | .builtin _ => none
 | .invoke r name => ih.call (.fn (.method name) #[]) (ρ r :: c.args.toList.map ρ) S
 | .value f => match ρ f with
  | .func fn first cap => ih.call (.fn fn cap) (first.toList ++ c.args.toList.map ρ) S
  | _ => none
def CF (ρ : Operand → Value) (op : Op) (S : St) : Option (N8 × St) :=
 match kindOf op with
 | .read => match Cl P ρ op S with
  | some v => some (.val v, S)
  | none => none
 | .fresh => match C1 P ρ op S with
  | some (v, S') => some (.val v, S')
  | none => none
 | .Ed => match op with
  | .call { callee := .builtin b, args, argTypes } => match Dj P b argTypes.toList (args.toList.map ρ) S with
   | some (v, S') => some (.val v, S')
   | none => none
  | .call c => match Kw ih ρ c S with
   | some (.returned v, S') => some (.val v, S')
   | some (.panicked ch, S') => some (.A6 ch, S')
   | _ => none
  | .panic x => match ρ x with
   | .iface t v => some (.A6 [{ v := .iface t v, recovered := false }], S)
   | _ => none
  | op => match JW P ρ op S with
   | some (v, S') => some (.val v, S')
   | none => none
def CY (full : List Oper) (a : Ca) (o : Oper) : Bool :=
 match o.guard with
 | none => true
 | some (j, w) => match nth full j with
  | some oj => match oj.dst with
   | some d => match a.t.get d with
    | some (.bool b) => b == w
    | _ => false
   | none => false
  | none => false
def E1 (full : List Oper) : List Oper → Ca → St → Option (Exit × Ca × St)
 | [], a, S => some (.normal, a, S)
 | o :: rest, a, S =>
  bif CY full a o then
   match CF P ih a.ev o.op S with
   | some (.val v, S') => match a.put o.dst v with
    | some a' => E1 full rest a' S'
    | none => none
   | some (.A6 ch, S') => some (.panic ch, a, S')
   | none => none
  else match a.put o.dst undef with
   | some a' => E1 full rest a' S
   | none => none
def Cy : List Oper → List Nat → List Nat
 | [], acc => acc
 | o :: r, acc => Cy r (acc ++ [o.after.toList.foldl (fun s e => if Region.binds .any e then s ||| 2 ^ e.on ||| ((nth acc e.on).getD 0) else s) 0])
def Jm (full : List Oper) (o : Oper) : List Tmp :=
 (match o.guard with
  | none => []
  | some (j, _) => match nth full j with
   | some oj => oj.dst.toList
   | none => []) ++ o.dst.toList ++ o.op.operands.toList.filterMap fun x => match x with
  | .tmp t => some t
  | _ => none
def V4 (full : List Oper) (AE : List Nat) (i : Nat) (o : Oper) (j : Nat) (p : Oper) : Bool :=
 let ord := ((nth AE j).getD 0).testBit i
 let vp := kindOf o.op == .Ed && kindOf p.op == .Ed
 (ord || (!vp && (match o.dst with | some d => !(Jm full p).contains d | none => true) && (match p.dst with | some d => !(Jm full o).contains d | none => true)))
 && (match o.dst, p.dst with | some d, some e => !Nat.beq d e | _, _ => true)
def I3 (full : List Oper) (AE : List Nat) : List (Oper × Nat) → Bool
 | [] => true
 | (o, i) :: r => (r.all fun (p, j) => V4 full AE i o j p) && I3 full AE r
def Rf (l : List (Oper × Nat)) : Bool := l.all fun (o, i) => (o.after.toList.all fun e => !Region.binds .any e || decide (e.on < i)) && (match o.guard with | some (j, _) => j < i && ((o.after.toList.any fun e => e.on == j && Region.binds .any e)) | none => true)
def bO (full : List Oper) : Bool :=
 let l := full.zipIdx
 Rf l && I3 full (Cy full []) l && l.all fun (o, _) => match o.op with | .defer _ | .go _ | .select .. | .send .. | .recv .. | .panic _ => false | _ => true
inductive CZ where
 | read (a : Ca) (op : Op) (v : Value)
 | cells (b : Nat) (c : List Value) (e : TypeId) (row : Bool)
 | map (b : Nat)
def CZ.ok (S : St) : CZ → Bool
 | .read a op v => match Cl P a.ev op S with
  | some w => CO 100000 v w
  | none => false
 | .cells b c e row => match S.get b with
  | some (.cells c' e' nK true []) => Nat.beq e e' && (row == nK) && GN 100000 c c'
  | _ => false
 | .map b => match S.get b with
  | some (.map [] 0) => true
  | _ => false
def looks (op : Op) : Bool := match op with
 | .load .. => true
 | .slice .. => true
 | .lookup .. => true
 | .call _ => true
 | _ => false
def J7 (S : St) (b : Nat) : Option CZ := match S.get b with
 | some (.cells c e row true []) => some (.cells b c e row)
 | some (.map [] 0) => some (.map b)
 | _ => none
def Ce (full : List Oper) (AE : List Nat) : List (Oper × Nat) → List (Nat × CZ) → Ca → St → Option (Exit × Ca × St)
 | [], _, a, S => some (.normal, a, S)
 | (o, i) :: r, AX, a, S =>
  bif CY full a o then
   match kindOf o.op with
   | .read => match Cl P a.ev o.op S with
    | some v => match a.put o.dst v with
     | some a' => Ce full AE r (bif looks o.op then (i, .read a o.op v) :: AX else AX) a' S
     | none => none
    | none => none
   | .fresh => match C1 P a.ev o.op S with
    | some (v, S') => match a.put o.dst v, J7 S' S.size, S.get S.size with
     | some a', some c, none => Ce full AE r ((i, c) :: AX) a' S'
     | _, _, _ => none
    | none => none
   | .Ed => match CF P ih a.ev o.op S with
    | some (.val v, S') => match a.put o.dst v with
     | some a' =>
      let rest := AX.filter fun x => !((nth AE i).getD 0).testBit x.1
      bif rest.all fun x => x.2.ok P S' then Ce full AE r rest a' S' else none
     | none => none
    | _ => none
  else match a.put o.dst undef with
   | some a' => Ce full AE r AX a' S
   | none => none
def Ui (x y : Nat) : Bool := Nat.beq (Nat.land x y) x
def O' (AE : List Nat) : List (Oper × Nat) → Nat → List (Oper × Nat) × Nat
 | [], done => ([], done)
 | (o, i) :: r, done =>
  if done.testBit i || kindOf o.op == .Ed || !Ui ((nth AE i).getD 0) done then O' AE r done
  else match O' AE r (Nat.lor done (2 ^ i)) with
   | (l, d) => ((o, i) :: l, d)
def V5 (AE : List Nat) (l : List (Oper × Nat)) : List (Oper × Nat) → Nat → List (Oper × Nat)
 | [], done => (O' AE l done).1
 | (o, i) :: r, done => match O' AE l done with
  | (x, d) => x ++ (o, i) :: V5 AE l r (Nat.lor d (2 ^ i))
def V7 (full : List Oper) : List (Oper × Nat) :=
 let l := full.zipIdx
 V5 (Cy full []) l (l.filter fun x => kindOf x.1.op == .Ed) 0
def MT (full : List Oper) (AE : List Nat) : List (Oper × Nat) → Nat → Bool
 | [], done => Nat.beq done (2 ^ full.length - 1)
 | (o, i) :: r, done =>
  (match nth full i with
   | some o' => Nat.beq o'.op.operands.size o.op.operands.size
   | none => false) && !done.testBit i && Ui ((nth AE i).getD 0) done &&
  (kindOf o.op != .Ed || r.all fun x => ((nth AE x.2).getD 0).testBit i) && MT full AE r (Nat.lor done (2 ^ i))
def V8 (full : List Oper) : Option (List Nat × List (Oper × Nat)) :=
 let AE := Cy full []
 let pl := V7 full
 bif bO full && MT full AE pl 0 then some (AE, pl) else none
def Nw (full : List Oper) (a : Ca) (S : St) : Option (Exit × Ca × St) :=
 match V8 full with
 | some (AE, pl) => Ce P ih full AE pl [] a S
 | none => none
def DZ (l : List Oper) : Bool := l.all fun o => o.op.operands.toList.all fun x => match x with
 | .const v => DM Lu v
 | .global g => Nat.blt g P.globals.size
 | _ => true
def EN (S : St) (l : Nat) : Option (LoopState × Option Code × Nat × Tm × List Tmp × Code × Code × Nat) :=
 match S.get l with
 | some (.loop st p n t ps x y d) => some (st, p, n, t, ps, x, y, d)
 | _ => none
def isConst : Operand → Bool
 | .const _ => true
 | _ => false
def J4 (fn : Fn) : Bool := match fn with
 | .func f => match P.funcs[f]? with
  | some F => !(F.name == "runtime.NumGoroutine") && F.body.isSome
  | none => false
 | _ => false
def Aq (ro : Option Nat) (code : Code) (a : Ca) (S : St) : Option (Exit × Ca × St) :=
 match code with
 | .skip => some (.normal, a, S)
 | .label _ => some (.normal, a, S)
 | .exit id => some (.exit id, a, S)
 | .ret => some (.ret, a, S)
 | .region _ ops draw => bif DZ P ops.toList then (bif draw then Nw P ih ops.toList a S else E1 P ih ops.toList ops.toList a S) else none
 | .seq x y => match ih.exec ro x a S with
  | some (.normal, a', S') => ih.exec ro y a' S'
  | r => r
 | .cond c x y => match a.ev c with
  | .bool b => ih.exec ro (if b then x else y) a S
  | _ => none
 | .block id c => match ih.exec ro c a S with
  | some (.exit j, a', S') => bif Nat.beq j id then some (.normal, a', S') else some (.exit j, a', S')
  | r => r
 | .loop c => match ih.exec ro c a S with
  | some (.normal, a', S') => ih.exec ro (.loop c) a' S'
  | r => r
 | .scope c => match ih.exec ro c a S with
  | some (.goto _, _, _) => none
  | r => r
 | .rangeFunc f params assign body =>
  match a.ev f with
  | .func fn first cap => bif isConst f || !J4 P fn then none else
   let start : Option (Nat × List Deferred × St) := match ro with
    | none => match S.new (.defs false) with
     | (r, S1) => some (r, [{ target := .collected r, args := #[] }], S1)
    | some l => match EN S l with
     | some (_, _, _, _, _, _, _, d) => some (d, [], S)
     | none => none
   match start with
   | some (d, mark, S1) => match S1.new (.loop .ready none a.n a.t params.toList assign body d) with
    | (l, S2) => match ih.call (.fn fn cap) (first.toList ++ [.func (.yield l) #[] #[]]) S2 with
     | some (.returned _, S3) => match EN S3 l with
      | some (st, p, n, t, ps, x, y, d) => bif (st == LoopState.busy) then none else
       match { a with defers := mark ++ a.defers }, S3.set l (.loop .exhausted p n t ps x y d) with
       | a', S4 => match p with
        | none => some (.normal, a', S4)
        | some .ret => some (.ret, a', S4)
        | some (.exit id) => some (.exit id, a', S4)
        | _ => none
      | none => none
     | some (.panicked ch, S3) => some (.panic ch, { a with defers := mark ++ a.defers }, S3)
     | _ => none
   | none => none
  | _ => none
 | .goto _ => none
 | .refuse _ => none
def Fj : List Deferred → St → Option St
 | [], S => some S
 | { target := .collected r, .. } :: ds, S => match S.get r with
  | some (.defs false) => Fj ds (S.set r (.defs true))
  | _ => none
 | _ :: _, _ => none
def Dq (t : Ca) (S : St) : List ResultVar → Option (List Value)
 | [] => some []
 | .tmp x :: r => match Dq t S r with
  | some l => some (t.get x :: l)
  | none => none
 | .cell x e :: r => match DJ P e (t.get x) S, Dq t S r with
  | some v, some l => some (v :: l)
  | _, _ => none
def DK (a b : Nat) : Nat := bif Nat.ble a b then b else a
def Lt (f : FuncId) (args : List Value) (S : St) : Option (Ending × St) :=
 match P.funcs[f]? with
 | some fn => match fn.body with
  | some c => bif (fn.name == "runtime.NumGoroutine") || Nat.blt 256 (DK fn.ntmps args.length) then none else match ih.exec none c { n := DK fn.ntmps args.length, t := PT.ofList 0 (PT.nil 8) args, defers := [] } S with
   | some (e, a', S') => match e with
    | .normal | .ret => match Fj a'.defers S' with
     | some Ks => match Dq P a' Ks fn.results.toList with
      | some [v] => some (.returned v, Ks)
      | some vs => some (.returned (.tuple vs.toArray), Ks)
      | none => none
     | none => none
    | .panic ch => match Fj a'.defers S' with
     | some Ks => some (.panicked ch, Ks)
     | none => none
    | _ => none
   | none => none
  | none => match K.ext f args S with
   | some (v, S') => some (.returned v, S')
   | none => none
 | none => none
def TH (o : Oper) : Bool := match o.op with
 | .defer _ => true
 | _ => false
def NG (l : List Oper) : Bool := l.any TH
def Xp (ρ : Operand → Value) (c : Call) : Option Deferred := match c.callee with
 | .value f => match ρ f with
  | .func (.func fn) first cap => some { target := .fn (.func fn) cap, args := (first.toList ++ c.args.toList.map ρ).toArray }
  | _ => none
 | _ => none
def Hi (full : List Oper) : List Oper → Ca → St → Option (Exit × Ca × St)
 | [], a, S => some (.normal, a, S)
 | o :: rest, a, S =>
  bif CY full a o then
   match o.op with
   | .defer c => match Xp a.ev c with
    | some d => match Ca.put { a with defers := d :: a.defers } o.dst undef with
     | some a' => Hi full rest a' S
     | none => none
    | none => none
   | op => match CF P ih a.ev op S with
    | some (.val v, S') => match a.put o.dst v with
     | some a' => Hi full rest a' S'
     | none => none
    | some (.A6 ch, S') => some (.panic ch, a, S')
    | none => none
  else match a.put o.dst undef with
   | some a' => Hi full rest a' S
   | none => none
def Fw : Nat → Code → Ca → St → Option (Exit × Ca × St)
 | 0, _, _, _ => none
 | n + 1, code, a, S => match code with
  | .region id ops draw => bif NG ops.toList then (bif draw || !DZ P ops.toList then none else Hi P ih ops.toList ops.toList a S) else ih.exec none (.region id ops draw) a S
  | .seq x y => match Fw n x a S with
   | some (.normal, a', S') => Fw n y a' S'
   | r => r
  | .cond c x y => match a.ev c with
   | .bool b => Fw n (if b then x else y) a S
   | _ => none
  | code => ih.exec none code a S
inductive Mode where
 | ret
 | A6 (chain : List PanicEntry)
def Wc : Mode → Mode
 | .A6 (⟨_, true, _⟩ :: aZ) => match aZ.dropWhile (!·.goexit) with
  | [] => .ret
  | x :: rest => .A6 (x :: rest)
 | m => m
def MZ : Mode → Value × Mode
 | .A6 (⟨v, false, false⟩ :: aZ) => (v, .A6 (⟨v, true, false⟩ :: aZ))
 | m => (.nilIface, m)
def Q5 (ρ : Operand → Value) (op : Op) (S : St) : Option (Value × St) :=
 match kindOf op with
 | .read => match Cl P ρ op S with
  | some v => some (v, S)
  | none => none
 | .fresh => C1 P ρ op S
 | .Ed => match op with
  | .call _ => none
  | .panic _ => none
  | .defer _ => none
  | op => JW P ρ op S
def isRec (o : Oper) : Bool := match o.op with
 | .call c => match c.callee with
  | .builtin .recover => true
  | _ => false
 | _ => false
def I' (full : List Oper) : List Oper → Ca → St → Mode → Option (Ca × St × Mode)
 | [], a, S, m => some (a, S, m)
 | o :: rest, a, S, m =>
  bif CY full a o then
   bif isRec o then match a.put o.dst (MZ m).1 with
    | some a' => I' full rest a' S (MZ m).2
    | none => none
   else match Q5 P a.ev o.op S with
    | some (v, S') => match a.put o.dst v with
     | some a' => I' full rest a' S' m
     | none => none
    | none => none
  else match a.put o.dst undef with
   | some a' => I' full rest a' S m
   | none => none
def Gz : Nat → Code → Ca → St → Mode → Option (Exit × Ca × St × Mode)
 | 0, _, _, _, _ => none
 | n + 1, code, a, S, m => match code with
  | .skip => some (.normal, a, S, m)
  | .ret => some (.ret, a, S, m)
  | .region _ ops false => bif !DZ P ops.toList then none else match I' P ops.toList ops.toList a S m with
   | some (a', S', m') => some (.normal, a', S', m')
   | none => none
  | .seq x y => match Gz n x a S m with
   | some (.normal, a', S', m') => Gz n y a' S' m'
   | r => r
  | .cond c x y => match a.ev c with
   | .bool b => Gz n (if b then x else y) a S m
   | _ => none
  | code => match ih.exec none code a S with
   | some (.normal, a', S') => some (.normal, a', S', m)
   | _ => none
def Ms (f : FuncId) (args : List Value) (m : Mode) (S : St) : Option (Mode × St) := match P.funcs[f]? with
 | some fn => match fn.body with
  | some c => bif (fn.name == "runtime.NumGoroutine") || Nat.blt 256 (DK fn.ntmps args.length) then none else match Gz P ih 1000 c { n := DK fn.ntmps args.length, t := PT.ofList 0 (PT.nil 8) args, defers := [] } S m with
   | some (e, a', S', m') => match e with
    | .normal | .ret => match a'.defers, Dq P a' S' fn.results.toList with
     | [], some _ => some (m', S')
     | _, _ => none
    | _ => none
   | none => none
  | none => none
 | none => none
def GH : List Deferred → Mode → St → Option (Mode × St)
 | [], m, S => some (m, S)
 | d :: ds, m, S => match d.target with
  | .collected r => match S.get r with
   | some (.defs false) => GH ds m (S.set r (.defs true))
   | _ => none
  | .fn (.func f) cap => match Ms P ih f (d.args.toList ++ cap.toList) m S with
   | some (m', S') => GH ds (Wc m') S'
   | none => none
  | _ => none
def K2 (a : Ca) (rs : List ResultVar) (r : Option (Mode × St)) : Option (Ending × St) := match r with
 | some (m, S) => match m with
  | .ret => match Dq P a S rs with
   | some [v] => some (.returned v, S)
   | some vs => some (.returned (.tuple vs.toArray), S)
   | none => none
  | .A6 ch => some (.panicked ch, S)
 | none => none
def OL (f : FuncId) (args : List Value) (S : St) : Option (Ending × St) :=
 match P.funcs[f]? with
 | some fn => match fn.body with
  | some c => bif (fn.name == "runtime.NumGoroutine") || Nat.blt 256 (DK fn.ntmps args.length) then none else match Fw P ih 1000 c { n := DK fn.ntmps args.length, t := PT.ofList 0 (PT.nil 8) args, defers := [] } S with
   | some (e, a', S') => match e with
    | .normal | .ret => K2 P a' fn.results.toList (GH P ih a'.defers .ret S')
    | .panic ch => K2 P a' fn.results.toList (GH P ih a'.defers (.A6 ch) S')
    | _ => none
   | none => none
  | none => none
 | none => none
def Et (f : FuncId) (args : List Value) (S : St) : Option (Ending × St) :=
 match K.call f args S with
 | some v => some (.returned v, S)
 | none => bif K.defers f then OL P ih f args S else Lt P K ih f args S
def PH (n : Nat) (t : Tm) : List Tmp → List Value → Option Tm
 | [], [] => some t
 | p :: ps, v :: vs => bif Nat.blt p n then PH n (t.set p (some v)) ps vs else none
 | _, _ => none
def Nu (l : Nat) (args : List Value) (S : St) : Option (Ending × St) :=
 match EN S l with
 | some (.ready, _, n, t, ps, x, y, _) => bif Nat.blt 256 n then none else match PH n t ps args with
  | some t' => match ih.exec (some l) x { n := n, t := t', defers := [] } S with
   | some (.normal, a1, S1) => match EN S1 l with
    | some (.ready, p1, n1, t1, I6, x1, y1, d1) => match ih.exec (some l) y a1 (S1.set l (.loop .busy p1 n1 t1 I6 x1 y1 d1)) with
     | some (e, _, S2) => match EN S2 l with
      | some (_, _, n2, t2, Ke, x2, y2, d2) => match e with
       | .normal => some (.returned (.bool true), S2.set l (.loop .ready none n2 t2 Ke x2 y2 d2))
       | .ret => some (.returned (.bool false), S2.set l (.loop .done (some .ret) n2 t2 Ke x2 y2 d2))
       | .exit id => some (.returned (.bool false), S2.set l (.loop .done (some (.exit id)) n2 t2 Ke x2 y2 d2))
       | _ => none
      | none => none
     | none => none
    | _ => none
   | _ => none
  | none => none
 | _ => none
def methodOf (t : TypeId) (v : Value) (name : String) (S : St) : Option (FuncId × Value) :=
 match P.info? t with
 | some i => match i.methods.find? (·.name == name) with
  | some m => bif m.path.isEmpty then match m.func with
    | some (f, ptr) => match P.underlying t, ptr with
     | some (.pointer _), true => some (f, v)
     | some (.pointer e), false => match DJ P e v S with
      | some x => some (f, x)
      | none => none
     | some _, false => some (f, v)
     | _, _ => none
    | none => none
   else none
  | none => none
 | none => none
def Mt (target : Target) (args : List Value) (S : St) : Option (Ending × St) :=
 match target with
 | .fn (.func f) cap => Et P K ih f (args ++ cap.toList) S
 | .fn (.yield l) _ => Nu ih l args S
 | .fn (.method name) _ => match args with
  | .iface t v :: rest => match methodOf P t v name S with
   | some (f, r) => Et P K ih f (r :: rest) S
   | none => none
  | _ => none
 | .fn (.via t path f ptr) _ => match args with
  | x :: rest => bif path.isEmpty then match P.underlying t, ptr with
      | some (.pointer _), true => Et P K ih f (x :: rest) S
      | some (.pointer e), false => match DJ P e x S with
       | some y => Et P K ih f (y :: rest) S
       | none => none
      | some _, false => Et P K ih f (x :: rest) S
      | _, _ => none
   else none
  | [] => none
 | _ => none
end
def fns (P : Program) (K : A1) : Nat → Bo
 | 0 => ⟨fun _ _ _ _ => none, fun _ _ _ => none⟩
 | n + 1 => ⟨Aq P (fns P K n), Mt P K (fns P K n)⟩
end Go.Cm
namespace Go.Cm
theorem Ni {a b : Nat} (h : a ≠ b) : Nat.beq a b = false := by
 cases hb : Nat.beq a b with
 | false => rfl
 | true => exact absurd (Nat.eq_of_beq_eq_true hb) h
theorem IJ (a : Nat) : Nat.beq a a = true := Nat.beq_refl a
theorem BV {a b : Nat} (h : Nat.beq a b = true) : a = b := Nat.eq_of_beq_eq_true h
theorem HA {a b : Nat} (h : Nat.blt a b = true) : a < b := by simpa [Nat.blt_eq] using h
namespace PT
variable {α : Type}
theorem dQ {v : Option α} {d : Nat} {t : PT α (d + 1)} {k : Nat} (h : Nat.beq (k % 2) 0 = true) : BB v (d + 1) t k = ((BB v d t.1 (k / 2), t.2) : PT α d × PT α d) := by
 have e : BB v (d + 1) t k = (bif Nat.beq (k % 2) 0 then ((BB v d t.1 (k / 2), t.2) : PT α d × PT α d) else (t.1, BB v d t.2 (k / 2))) := rfl
 rw [e, h]; rfl
theorem dP {v : Option α} {d : Nat} {t : PT α (d + 1)} {k : Nat} (h : Nat.beq (k % 2) 0 = false) : BB v (d + 1) t k = ((t.1, BB v d t.2 (k / 2)) : PT α d × PT α d) := by
 have e : BB v (d + 1) t k = (bif Nat.beq (k % 2) 0 then ((BB v d t.1 (k / 2), t.2) : PT α d × PT α d) else (t.1, BB v d t.2 (k / 2))) := rfl
 rw [e, h]; rfl
theorem Pd {d : Nat} {t : PT α (d + 1)} {k : Nat} (h : Nat.beq (k % 2) 0 = true) : at_ (d + 1) t k = at_ d t.1 (k / 2) := by
 have e : at_ (d + 1) t k = (bif Nat.beq (k % 2) 0 then at_ d t.1 (k / 2) else at_ d t.2 (k / 2)) := rfl
 rw [e, h]; rfl
theorem Pc {d : Nat} {t : PT α (d + 1)} {k : Nat} (h : Nat.beq (k % 2) 0 = false) : at_ (d + 1) t k = at_ d t.2 (k / 2) := by
 have e : at_ (d + 1) t k = (bif Nat.beq (k % 2) 0 then at_ d t.1 (k / 2) else at_ d t.2 (k / 2)) := rfl
 rw [e, h]; rfl
theorem Ud (v : Option α) : ∀ (d : Nat) (t : PT α d) (k : Nat), at_ d (BB v d t k) k = v
 | 0, _, _ => rfl
 | d + 1, t, k => by
  cases hb : Nat.beq (k % 2) 0 with
  | true => exact (Pd hb).trans ((congrArg (fun x : PT α (d + 1) => at_ d x.1 (k / 2)) (dQ hb)).trans (Ud v d _ _))
  | false => exact (Pc hb).trans ((congrArg (fun x : PT α (d + 1) => at_ d x.2 (k / 2)) (dP hb)).trans (Ud v d _ _))
theorem Ue (v : Option α) : ∀ (d : Nat) (t : PT α d) (k j : Nat), k < 2 ^ d → j < 2 ^ d → j ≠ k → at_ d (BB v d t k) j = at_ d t j
 | 0, _, k, j, hk, hj, h => by simp at hk hj; omega
 | d + 1, t, k, j, hk, hj, h => by
  rw [Nat.pow_succ] at hk hj
  cases hb : Nat.beq (k % 2) 0 with
  | true =>
   have Ar := BV hb
   cases hc : Nat.beq (j % 2) 0 with
   | true =>
    have FF := BV hc
    exact (Pd hc).trans ((congrArg (fun x : PT α (d + 1) => at_ d x.1 (j / 2)) (dQ hb)).trans ((Ue v d t.1 (k / 2) (j / 2) (by omega) (by omega) (by omega)).trans (Pd hc).symm))
   | false => exact (Pc hc).trans ((congrArg (fun x : PT α (d + 1) => at_ d x.2 (j / 2)) (dQ hb)).trans (Pc (t := t) hc).symm)
  | false =>
   have Ar : k % 2 ≠ 0 := fun e => by rw [e] at hb; cases hb
   cases hc : Nat.beq (j % 2) 0 with
   | true => exact (Pd hc).trans ((congrArg (fun x : PT α (d + 1) => at_ d x.1 (j / 2)) (dP hb)).trans (Pd (t := t) hc).symm)
   | false =>
    have FF : j % 2 ≠ 0 := fun e => by rw [e] at hc; cases hc
    exact (Pc hc).trans ((congrArg (fun x : PT α (d + 1) => at_ d x.2 (j / 2)) (dP hb)).trans ((Ue v d t.2 (k / 2) (j / 2) (by omega) (by omega) (by omega)).trans (Pc hc).symm))
theorem FQ {a b : Nat} : Nat.blt a b = decide (a < b) := by
 cases h : Nat.blt a b with
 | true => simp [HA h]
 | false =>
  have : ¬ a < b := fun e => by
   have : Nat.blt a b = true := by rw [Nat.blt_eq]; exact e
   rw [this] at h; cases h
  simp [this]
theorem HQ {d : Nat} (t : PT α d) (k j : Nat) (v : Option α) : (t.set k v).get j = if j = k ∧ k < 2 ^ d then v else t.get j := by
 unfold get set
 by_cases hk : k < 2 ^ d
 ·by_cases hj : j = k
  ·subst hj
   simp [FQ, hk, Ud]
  by_cases FF : j < 2 ^ d
  ·simp [FQ, hk, hj, FF, Ue v d t k j hk FF hj]
  simp [FQ, hj, FF]
 simp [FQ, hk]
theorem U8 {d : Nat} (t : PT α d) {k : Nat} (j : Nat) (v : Option α) (h : k < 2 ^ d) : (t.set k v).get j = if j = k then v else t.get j := by
 rw [HQ]; simp [h]
theorem get_nil (d j : Nat) : (nil d : PT α d).get j = none := by
 have : ∀ (d j : Nat), at_ d (nil d : PT α d) j = none := by
  intro d
  induction d with
  | zero => intro j; rfl
  | succ d ih =>
   intro j
   cases hb : Nat.beq (j % 2) 0 with
   | true => exact (Pd hb).trans (ih _)
   | false => exact (Pc hb).trans (ih _)
 unfold get
 cases Nat.blt j (2 ^ d) <;> simp [this]
theorem YL {d : Nat} : ∀ (l : List α) (k : Nat) (t : PT α d) (j : Nat), k + l.length ≤ 2 ^ d → (ofList k t l).get j = if k ≤ j ∧ j < k + l.length then l[j - k]? else t.get j
 | [], k, t, j, _ => by rw [if_neg (by simp only [List.length_nil]; omega)]; rfl
 | x :: l, k, t, j, h => by
  simp only [List.length_cons] at h
  rw [ofList, YL l (k + 1) _ _ (by omega), U8 _ _ _ (by omega)]
  by_cases h1 : j = k
  ·subst h1
   rw [if_neg (by omega), if_pos rfl, if_pos (by simp)]
   simp
  by_cases h2 : k ≤ j
  ·have e : j - k = (j - (k + 1)) + 1 := by omega
   by_cases h3 : j < k + (l.length + 1)
   ·rw [if_pos (by omega), if_pos (by simp; omega), e]; simp
   rw [if_neg (by omega), if_neg h1, if_neg (by simp; omega)]
  rw [if_neg (by omega), if_neg h1, if_neg (by omega)]
end PT
theorem IS {α : Type} : ∀ (n : Nat) (l r : List α), takeN n l = some r → r.length = n ∧ n ≤ l.length ∧ r = l.take n
 | 0, l, r, h => by simp [takeN] at h; subst h; simp
 | n + 1, [], r, h => by simp [takeN] at h
 | n + 1, x :: l, r, h => by
  simp only [takeN] at h
  split at h
  ·rename_i r' hr
   obtain ⟨h1, h2, h3⟩ := IS n l r' hr
   cases h
   subst h3
   simp [h2]
  cases h
theorem PL {α : Type} : ∀ (n : Nat) (l : List α), n ≤ l.length → takeN n l = some (l.take n)
 | 0, l, _ => by simp [takeN]
 | n + 1, [], h => by simp at h
 | n + 1, x :: l, h => by simp [takeN, PL n l (by simpa using h)]
theorem HM {α : Type} : ∀ (n : Nat) (l : List α), BW n l = l.drop n
 | 0, l => by simp [BW]
 | n + 1, [] => by simp [BW]
 | n + 1, _ :: l => by simp [BW, HM n l]
theorem CD {α : Type} : ∀ (l : List α) (i : Nat), nth l i = l[i]?
 | [], i => by simp [nth]
 | x :: l, 0 => by simp [nth]
 | x :: l, i + 1 => by simp [nth, CD l i]
theorem Tw {α : Type} : ∀ (o : Nat) (xs l r : List α), BJ o xs l = some r →
  r.length = l.length ∧ (xs ≠ [] → o + xs.length ≤ l.length) ∧ ∀ i, r[i]? = if o ≤ i ∧ i < o + xs.length then xs[i - o]? else l[i]?
 | o, [], l, r, h => by
  simp [BJ] at h; subst h
  refine ⟨rfl, fun h => absurd rfl h, fun i => ?_⟩
  rw [if_neg (by simp only [List.length_nil]; omega)]
 | 0, x :: xs, [], r, h => by simp [BJ] at h
 | 0, x :: xs, y :: l, r, h => by
  simp only [BJ] at h
  split at h
  ·rename_i r' hr
   cases h
   obtain ⟨h1, h2, h3⟩ := Tw 0 xs l r' hr
   refine ⟨by simp [h1], fun _ => ?_, fun i => ?_⟩
   ·by_cases hx : xs = []
    ·subst hx; simp
    have := h2 hx; simp; omega
   cases i with
   | zero => simp
   | succ i => simpa using h3 i
  cases h
 | o + 1, x :: xs, [], r, h => by simp [BJ] at h
 | o + 1, x :: xs, y :: l, r, h => by
  simp only [BJ] at h
  split at h
  ·rename_i r' hr
   cases h
   obtain ⟨h1, h2, h3⟩ := Tw o (x :: xs) l r' hr
   refine ⟨by simp [h1], fun _ => ?_, fun i => ?_⟩
   ·have := h2 (by simp); simp at this ⊢; omega
   cases i with
   | zero => simp
   | succ i =>
    have := h3 i
    simp only [List.getElem?_cons_succ, this]
    by_cases hc : o ≤ i ∧ i < o + (x :: xs).length
    ·rw [if_pos hc, if_pos (by omega)]; congr 1; omega
    rw [if_neg hc, if_neg (by omega)]
  cases h
structure Loc where
 r : Nat
 d : Nat
 Kk : Nat
 z : Nat
abbrev AF := Nat → Option Loc
def Ext (ρ ρ' : AF) : Prop := ∀ b L, ρ b = some L → ρ' b = some L
theorem Ext.refl (ρ : AF) : Ext ρ ρ := fun _ _ h => h
theorem Ext.trans {a b c : AF} (h : Ext a b) (k : Ext b c) : Ext a c := fun _ _ x => k _ _ (h _ _ x)
def BB (ρ : AF) (b : Nat) (L : Loc) : AF := fun x => if x = b then some L else ρ x
theorem M1 {ρ : AF} {b : Nat} (L : Loc) (h : ρ b = none) : Ext ρ (BB ρ b L) := by
 intro x M hx
 unfold BB
 by_cases e : x = b
 ·subst e; rw [h] at hx; cases hx
 rw [if_neg e]; exact hx
inductive VR (ρ : AF) : Value → Value → Prop
 | bool (b : Bool) : VR ρ (.bool b) (.bool b)
 | int (k : IntKind) (n : Int) : VR ρ (.int k n) (.int k n)
 | float (k : FloatKind) (n : Nat) : VR ρ (.float k n) (.float k n)
 | complex (k : FloatKind) (m n : Nat) : VR ρ (.complex k m n) (.complex k m n)
 | string (s : ByteArray) : VR ρ (.string s) (.string s)
 | LU : VR ρ (.pointer none) (.pointer none)
 | ptr {b o : Nat} {L : Loc} (h : ρ b = some L) : VR ρ (.pointer (some ⟨b, o, none⟩)) (.pointer (some ⟨L.r, o + L.d, none⟩))
 | IP : VR ρ (.slice none 0 0) (.slice none 0 0)
 | slice {b o n c o' c' : Nat} {L : Loc} (h : ρ b = some L) (hn : n ≤ c) (hc : c ≤ c') (hr : L.z ≠ 0 → o' + c' * L.z ≤ L.Kk) (ho : o' = o + L.d ∨ c' = 0) :
   VR ρ (.slice (some ⟨b, o, none⟩) n c) (.slice (some ⟨L.r, o', none⟩) n c')
 | Ki (b o k : Nat) (a : Addr) : VR ρ (.slice (some ⟨b, o, some k⟩) 0 0) (.slice (some a) 0 0)
 | MP : VR ρ (.map none) (.map none)
 | map {b : Nat} {L : Loc} (h : ρ b = some L) : VR ρ (.map (some b)) (.map (some L.r))
 | func (f : FuncId) {a a' c c' : List Value} (ha : a.length = a'.length) (h : ∀ (i : Nat) v v', a[i]? = some v → a'[i]? = some v' → VR ρ v v')
   (hc : c.length = c'.length) (k : ∀ (i : Nat) v v', c[i]? = some v → c'[i]? = some v' → VR ρ v v') : VR ρ (.func (.func f) ⟨a⟩ ⟨c⟩) (.func (.func f) ⟨a'⟩ ⟨c'⟩)
 | method (f : String) {a a' c c' : List Value} (ha : a.length = a'.length) (h : ∀ (i : Nat) v v', a[i]? = some v → a'[i]? = some v' → VR ρ v v')
   (hc : c.length = c'.length) (k : ∀ (i : Nat) v v', c[i]? = some v → c'[i]? = some v' → VR ρ v v') : VR ρ (.func (.method f) ⟨a⟩ ⟨c⟩) (.func (.method f) ⟨a'⟩ ⟨c'⟩)
 | via (t : TypeId) (p : Array FieldStep) (f : FuncId) (q : Bool) {a a' c c' : List Value} (ha : a.length = a'.length) (h : ∀ (i : Nat) v v', a[i]? = some v → a'[i]? = some v' → VR ρ v v')
   (hc : c.length = c'.length) (k : ∀ (i : Nat) v v', c[i]? = some v → c'[i]? = some v' → VR ρ v v') : VR ρ (.func (.via t p f q) ⟨a⟩ ⟨c⟩) (.func (.via t p f q) ⟨a'⟩ ⟨c'⟩)
 | yield {l : Nat} {L : Loc} (h : ρ l = some L) : VR ρ (.func (.yield l) #[] #[]) (.func (.yield L.r) #[] #[])
 | nilFunc : VR ρ .nilFunc .nilFunc
 | iface (t : TypeId) {v v' : Value} (h : VR ρ v v') : VR ρ (.iface t v) (.iface t v')
 | nilIface : VR ρ .nilIface .nilIface
 | agg {a a' : List Value} (ha : a.length = a'.length) (h : ∀ (i : Nat) v v', a[i]? = some v → a'[i]? = some v' → VR ρ v v') : VR ρ (.agg ⟨a⟩) (.agg ⟨a'⟩)
 | tuple {a a' : List Value} (ha : a.length = a'.length) (h : ∀ (i : Nat) v v', a[i]? = some v → a'[i]? = some v' → VR ρ v v') : VR ρ (.tuple ⟨a⟩) (.tuple ⟨a'⟩)
theorem VR.mono {ρ ρ' : AF} (e : Ext ρ ρ') {v v' : Value} (h : VR ρ v v') : VR ρ' v v' := by
 induction h with
 | bool b => exact .bool b
 | int k n => exact .int k n
 | float k n => exact .float k n
 | complex k m n => exact .complex k m n
 | string s => exact .string s
 | LU => exact .LU
 | ptr h => exact .ptr (e _ _ h)
 | IP => exact .IP
 | slice h hn hc hr ho => exact .slice (e _ _ h) hn hc hr ho
 | Ki b o k a => exact .Ki b o k a
 | MP => exact .MP
 | map h => exact .map (e _ _ h)
 | func f ha _ hc _ i1 i2 => exact .func f ha i1 hc i2
 | method f ha _ hc _ i1 i2 => exact .method f ha i1 hc i2
 | via t p f q ha _ hc _ i1 i2 => exact .via t p f q ha i1 hc i2
 | yield h => exact .yield (e _ _ h)
 | nilFunc => exact .nilFunc
 | iface t _ i => exact .iface t i
 | nilIface => exact .nilIface
 | agg ha _ i => exact .agg ha i
 | tuple ha _ i => exact .tuple ha i
def AI (ρ : AF) (l l' : List Value) : Prop := l.length = l'.length ∧ ∀ (i : Nat) v v', l[i]? = some v → l'[i]? = some v' → VR ρ v v'
theorem AI.mono {ρ ρ' : AF} (e : Ext ρ ρ') {l l' : List Value} (h : AI ρ l l') : AI ρ' l l' := ⟨h.1, fun i v v' a b => (h.2 i v v' a b).mono e⟩
theorem AI.nil {ρ : AF} : AI ρ [] [] := ⟨rfl, fun i v v' h => by simp at h⟩
theorem AI.cons {ρ : AF} {v v' : Value} {l l' : List Value} (h : VR ρ v v') (k : AI ρ l l') : AI ρ (v :: l) (v' :: l') := by
 refine ⟨by simp [k.1], fun i x x' a b => ?_⟩
 cases i with
 | zero => simp at a b; subst a; subst b; exact h
 | succ i => exact k.2 i x x' (by simpa using a) (by simpa using b)
theorem AI.head {ρ : AF} {v v' : Value} {l l' : List Value} (h : AI ρ (v :: l) (v' :: l')) : VR ρ v v' := h.2 0 v v' rfl rfl
theorem AI.tail {ρ : AF} {v v' : Value} {l l' : List Value} (h : AI ρ (v :: l) (v' :: l')) : AI ρ l l' :=
 ⟨by simpa using h.1, fun i x x' a b => h.2 (i + 1) x x' (by simpa using a) (by simpa using b)⟩
theorem AI.cons_inv {ρ : AF} {v : Value} {l k : List Value} (h : AI ρ (v :: l) k) : ∃ v' l', k = v' :: l' ∧ VR ρ v v' ∧ AI ρ l l' := by
 cases k with
 | nil => simp [AI] at h
 | cons v' l' => exact ⟨v', l', rfl, h.head, h.tail⟩
theorem AI.Hd {ρ : AF} {k : List Value} (h : AI ρ [] k) : k = [] := by
 cases k with
 | nil => rfl
 | cons v' l' => simp [AI] at h
theorem AI.get {ρ : AF} {l l' : List Value} (h : AI ρ l l') {i : Nat} {v : Value} (hv : l[i]? = some v) : ∃ v', l'[i]? = some v' ∧ VR ρ v v' := by
 have hi : i < l'.length := h.1 ▸ (List.getElem?_eq_some_iff.1 hv).1
 exact ⟨l'[i], List.getElem?_eq_getElem hi, h.2 i v _ hv (List.getElem?_eq_getElem hi)⟩
theorem AI.append {ρ : AF} {a a' b b' : List Value} (h : AI ρ a a') (k : AI ρ b b') : AI ρ (a ++ b) (a' ++ b') := by
 refine ⟨by simp [h.1, k.1], fun i v v' x y => ?_⟩
 by_cases hi : i < a.length
 ·rw [List.getElem?_append_left hi] at x
  rw [List.getElem?_append_left (h.1 ▸ hi)] at y
  exact h.2 i v v' x y
 rw [List.getElem?_append_right (by omega)] at x
 rw [List.getElem?_append_right (by rw [← h.1]; omega), ← h.1] at y
 exact k.2 _ v v' x y
theorem AI.take {ρ : AF} {a a' : List Value} (h : AI ρ a a') (n : Nat) : AI ρ (a.take n) (a'.take n) := by
 refine ⟨by simp [h.1], fun i v v' x y => ?_⟩
 rw [List.getElem?_take] at x y
 split at x
 ·rw [if_pos ‹_›] at y; exact h.2 i v v' x y
 cases x
theorem AI.drop {ρ : AF} {a a' : List Value} (h : AI ρ a a') (n : Nat) : AI ρ (a.drop n) (a'.drop n) := by
 refine ⟨by simp [h.1], fun i v v' x y => ?_⟩
 rw [List.getElem?_drop] at x y
 exact h.2 _ v v' x y
theorem AI.map {ρ : AF} {β : Type} (f g : β → Value) (h : ∀ x, VR ρ (f x) (g x)) : ∀ l : List β, AI ρ (l.map f) (l.map g)
 | [] => AI.nil
 | x :: l => AI.cons (h x) (AI.map f g h l)
theorem VR.UZ {ρ : AF} {l l' : List Value} (h : AI ρ l l') : VR ρ (.agg ⟨l⟩) (.agg ⟨l'⟩) := .agg h.1 h.2
theorem VR.tuple' {ρ : AF} {l l' : List Value} (h : AI ρ l l') : VR ρ (.tuple ⟨l⟩) (.tuple ⟨l'⟩) := .tuple h.1 h.2
theorem VR.Lg {ρ : AF} {a : Array Value} {v' : Value} (h : VR ρ (.agg a) v') : ∃ a', v' = .agg a' ∧ AI ρ a.toList a'.toList := by
 cases h with
 | agg ha h => exact ⟨_, rfl, ha, h⟩
theorem VR.AEx {ρ : AF} {a : Array Value} {v' : Value} (h : VR ρ (.tuple a) v') : ∃ a', v' = .tuple a' ∧ AI ρ a.toList a'.toList := by
 cases h with
 | tuple ha h => exact ⟨_, rfl, ha, h⟩
theorem VR.undef (ρ : AF) : VR ρ undef undef := VR.tuple' (l := []) (l' := []) AI.nil
theorem Ig (v : Value) : AP v = v.cells.toList := by cases v <;> rfl
theorem VR.cells {ρ : AF} {v v' : Value} (h : VR ρ v v') : AI ρ (AP v) (AP v') := by
 cases h with
 | agg ha h => exact ⟨ha, h⟩
 | bool b => exact AI.cons (.bool b) .nil
 | int k n => exact AI.cons (.int k n) .nil
 | float k n => exact AI.cons (.float k n) .nil
 | complex k m n => exact AI.cons (.complex k m n) .nil
 | string s => exact AI.cons (.string s) .nil
 | LU => exact AI.cons .LU .nil
 | ptr h => exact AI.cons (.ptr h) .nil
 | IP => exact AI.cons .IP .nil
 | slice h hn hc hr ho => exact AI.cons (.slice h hn hc hr ho) .nil
 | Ki b o k a => exact AI.cons (.Ki b o k a) .nil
 | MP => exact AI.cons .MP .nil
 | map h => exact AI.cons (.map h) .nil
 | func f ha i1 hc i2 => exact AI.cons (.func f ha i1 hc i2) .nil
 | method f ha i1 hc i2 => exact AI.cons (.method f ha i1 hc i2) .nil
 | via t p f q ha i1 hc i2 => exact AI.cons (.via t p f q ha i1 hc i2) .nil
 | yield h => exact AI.cons (.yield h) .nil
 | nilFunc => exact AI.cons .nilFunc .nil
 | iface t i => exact AI.cons (.iface t i) .nil
 | nilIface => exact AI.cons .nilIface .nil
 | tuple ha i => exact AI.cons (.tuple ha i) .nil
theorem VR.aa {ρ : AF} {v v' : Value} (h : VR ρ v v') : v'.oneCell' = v.oneCell' := by cases h <;> rfl
inductive Flat : Value → Prop
 | bool (b : Bool) : Flat (.bool b)
 | int (k : IntKind) (n : Int) : Flat (.int k n)
 | float (k : FloatKind) (n : Nat) : Flat (.float k n)
 | complex (k : FloatKind) (m n : Nat) : Flat (.complex k m n)
 | string (s : ByteArray) : Flat (.string s)
 | LU : Flat (.pointer none)
 | IP : Flat (.slice none 0 0)
 | MP : Flat (.map none)
 | nilFunc : Flat .nilFunc
 | func (f : FuncId) : Flat (.func (.func f) #[] #[])
 | nilIface : Flat .nilIface
 | iface (t : TypeId) {v : Value} (h : Flat v) : Flat (.iface t v)
 | agg {a : List Value} (h : ∀ (i : Nat) v, a[i]? = some v → Flat v) : Flat (.agg ⟨a⟩)
 | tuple {a : List Value} (h : ∀ (i : Nat) v, a[i]? = some v → Flat v) : Flat (.tuple ⟨a⟩)
theorem Flat.refl {v : Value} (h : Flat v) (ρ : AF) : VR ρ v v := by
 induction h with
 | bool b => exact .bool b
 | int k n => exact .int k n
 | float k n => exact .float k n
 | complex k m n => exact .complex k m n
 | string s => exact .string s
 | LU => exact .LU
 | IP => exact .IP
 | MP => exact .MP
 | nilFunc => exact .nilFunc
 | func f => exact .func f rfl (fun i v v' h => by simp at h) rfl (fun i v v' h => by simp at h)
 | nilIface => exact .nilIface
 | iface t _ i => exact .iface t i
 | agg _ i => exact .agg rfl fun j v v' h h' => by rw [h] at h'; cases h'; exact i j v h
 | tuple _ i => exact .tuple rfl fun j v v' h h' => by rw [h] at h'; cases h'; exact i j v h
def UQ (ρ : AF) (e e' : MapEntry) : Prop := VR ρ e.key e'.key ∧ VR ρ e.val e'.val ∧ e'.born = e.born
def Hq (ρ : AF) (l l' : List MapEntry) : Prop := l.length = l'.length ∧ ∀ (i : Nat) e e', l[i]? = some e → l'[i]? = some e' → UQ ρ e e'
theorem UQ.mono {ρ ρ' : AF} (h : Ext ρ ρ') {e e' : MapEntry} (x : UQ ρ e e') : UQ ρ' e e' := ⟨x.1.mono h, x.2.1.mono h, x.2.2⟩
theorem Hq.mono {ρ ρ' : AF} (h : Ext ρ ρ') {e e' : List MapEntry} (x : Hq ρ e e') : Hq ρ' e e' := ⟨x.1, fun i a b p q => (x.2 i a b p q).mono h⟩
def M6 (t : Tm) (i : Nat) : Value := match t.get i with
 | some v => v
 | none => undef
def Kv (ρ : AF) (n : Nat) (t : Tm) (tmps : Array Value) : Prop := tmps.size = n ∧ ∀ i, VR ρ (M6 t i) (tmps.getD i undef)
theorem Kv.mono {ρ ρ' : AF} (h : Ext ρ ρ') {n : Nat} {t : Tm} {a : Array Value} (x : Kv ρ n t a) : Kv ρ' n t a := ⟨x.1, fun i => (x.2 i).mono h⟩
def AD.ext : AD → Nat
 | .cells c _ _ _ _ => c.length
 | _ => 0
def AD.Qb : AD → Bool
 | .cells _ _ _ own _ => own
 | _ => true
def AD.kin : AD → List Nat
 | .cells _ _ _ _ k => k
 | _ => []
def JG (P : Program) (ρ : AF) (B : AD) (o : Option Obj) (L : Loc) : Prop :=
 match B with
 | .cells c e row own _ => ∃ (arr : Array Value) (e' : TypeId) (fz : Nat × Nat), o = some (.cells arr e' fz) ∧ arr.size = L.Kk ∧
   (∀ (i : Nat) v, c[i]? = some v → ∃ v', arr[L.d + i]? = some v' ∧ VR ρ v v') ∧ (own = true → ∀ j, j < L.Kk → ¬ (fz.1 ≤ j ∧ j < fz.2)) ∧
   (row = true → A0 P e = some L.z) ∧ (row = false → L.z = 0 ∧ L.d = 0 ∧ L.Kk = c.length) ∧ ((own = true ∨ row = false) → e ≠ 0 → e' = e)
 | .map es clock => ∃ Ax : List MapEntry, o = some (.map Ax.toArray clock) ∧ Hq ρ es Ax
 | .iter s pos => o = some (.stringIter ⟨s.toArray⟩ pos)
 | .loop st p n t ps x y d => ∃ (fn : FuncId) (tmps : Array Value) (D : Loc), o = some (.loop { state := st, pending := p, fn := fn, tmps := tmps, params := ps.toArray, assign := x, body := y, defers := D.r }) ∧
   Kv ρ n t tmps ∧ ρ d = some D
 | .defs taken => o = some (.deferred (if taken then none else some []))
 | .QZ m => ∃ (M : Loc) (since last : Nat), ρ m = some M ∧ L.d = 0 ∧ o = some (.mapIter (some M.r) since #[] last)
theorem JG.mono {P : Program} {ρ ρ' : AF} (h : Ext ρ ρ') {B : AD} {o : Option Obj} {L : Loc} (x : JG P ρ B o L) : JG P ρ' B o L := by
 cases B with
 | cells c e row own kin =>
  obtain ⟨arr, e', fz, h1, h2, h3, h4, h5⟩ := x
  exact ⟨arr, e', fz, h1, h2, fun i v hv => let ⟨v', a, b⟩ := h3 i v hv; ⟨v', a, b.mono h⟩, h4, h5⟩
 | map es clock => obtain ⟨Ax, h1, h2⟩ := x; exact ⟨Ax, h1, h2.mono h⟩
 | iter s pos => exact x
 | loop st p n t ps a b d => obtain ⟨fn, tmps, D, h1, h2, h3⟩ := x; exact ⟨fn, tmps, D, h1, h2.mono h, h _ _ h3⟩
 | defs taken => exact x
 | QZ m => obtain ⟨M, since, last, h1, h2⟩ := x; exact ⟨M, since, last, h _ _ h1, h2⟩
structure Bn extends World where
 no : Nat → Bool
structure AO (P : Program) (w0 : Bn) (ρ : AF) (S : St) (w : World) : Prop where
 size : w0.heap.size ≤ w.heap.size
 old : ∀ i, i < w0.heap.size → w.heap[i]? = w0.heap[i]?
 os : w.os = w0.os
 out : w.output = w0.output
 DC : ∀ b L, ρ b = some L → b < S.size ∧ L.r < w.heap.size
 CR : ∀ b L B, ρ b = some L → S.get b = some B → JG P ρ B w.heap[L.r]? L
 own : ∀ b L B, ρ b = some L → S.get b = some B → B.Qb = true → w0.heap.size ≤ L.r ∧
  ∀ b' L' B', ρ b' = some L' → L'.r = L.r → S.get b' = some B' → b' ≠ b → b' ∈ B.kin ∧ B'.Qb = false ∧ B'.ext + L'.d ≤ B.ext + L.d
 J' : ∀ g, g < P.globals.size → ∃ L, ρ g = some L ∧ L.r = g ∧ L.d = 0
 no : ∀ b, w0.no b = true → ρ b = none ∧ b < S.size
theorem Cf.HQ (h : Cf) (k j : Nat) (v : Option AD) : (h.set k v).get j = if j = k then v else h.get j := by
 unfold Cf.get Cf.set
 by_cases hk : k < 262144
 ·have wO : k < 2 ^ 18 := hk
  by_cases hj : j = k
  ·subst hj
   simp [PT.FQ, hk, PT.Ud]
  by_cases FF : j < 262144
  ·have wL : j < 2 ^ 18 := FF
   simp [PT.FQ, hk, hj, FF, PT.Ue v 18 h.t k j wO wL hj]
  simp [PT.FQ, hk, hj, FF]
 by_cases hj : j = k
 ·subst hj
  simp [PT.FQ, hk]
 by_cases FF : j < 262144
 ·simp [PT.FQ, hk, hj, FF]
 simp [PT.FQ, hk, hj, FF, Ni hj]
theorem Cf.get_nil (j : Nat) : Cf.nil.get j = none := by
 have := PT.get_nil (α := AD) 18 j
 unfold PT.get at this
 unfold Cf.get Cf.nil
 rw [show (2 : Nat) ^ 18 = 262144 from rfl] at this
 cases h : Nat.blt j 262144 with
 | true => rw [h] at this; exact this
 | false => rfl
theorem Ev (S : St) (b j : Nat) (x : AD) : (S.set b x).get j = if j = b then some x else S.get j := Cf.HQ _ _ _ _
theorem Nd : ∀ (l : List Nat) (S : St), (S.kill l).size = S.size
 | [], _ => rfl
 | b :: r, S => by rw [St.kill, Nd r]
theorem LN : ∀ (l : List Nat) (S : St) (j : Nat), (S.kill l).get j = if j ∈ l then none else S.get j
 | [], S, j => by simp [St.kill]
 | b :: r, S, j => by
  rw [St.kill, LN r]
  by_cases h : j ∈ r
  ·simp [h]
  simp only [St.get, Cf.HQ, h, if_false, List.mem_cons, or_false]
theorem AO.same {P : Program} {w0 : Bn} {ρ : AF} {S : St} {w w' : World} (h : AO P w0 ρ S w) (hh : w'.heap = w.heap) (ho : w'.os = w.os) (hp : w'.output = w.output) : AO P w0 ρ S w' :=
 ⟨by rw [hh]; exact h.size, by rw [hh]; exact h.old, ho.trans h.os, hp.trans h.out, by rw [hh]; exact h.DC, by rw [hh]; exact h.CR, h.own, h.J', h.no⟩
theorem AO.drew {P : Program} {w0 : Bn} {ρ : AF} {S : St} {w : World} (h : AO P w0 ρ S w) : AO P w0 ρ S w.drew := h.same rfl rfl rfl
theorem AO.kill {P : Program} {w0 : Bn} {ρ : AF} {S : St} {w : World} (h : AO P w0 ρ S w) (l : List Nat) : AO P w0 ρ (S.kill l) w := by
 refine ⟨h.size, h.old, h.os, h.out, by rw [Nd]; exact h.DC, fun b L B hb hB => ?_, fun b L B hb hB hm => ?_, h.J', by rw [Nd]; exact h.no⟩
 ·rw [LN] at hB
  split at hB
  ·cases hB
  exact h.CR b L B hb hB
 rw [LN] at hB
 split at hB
 ·cases hB
 refine ⟨(h.own b L B hb hB hm).1, fun b' L' B' BS hr DS AR => ?_⟩
 rw [LN] at DS
 split at DS
 ·cases DS
 exact (h.own b L B hb hB hm).2 b' L' B' BS hr DS AR
theorem heap_alloc_old {w : World} {o : Obj} {i : Nat} (h : i < w.heap.size) : (w.alloc o).heap[i]? = w.heap[i]? := by
 simp only [World.alloc, Array.getElem?_push]
 rw [if_neg (by omega)]
theorem heap_alloc_new {w : World} {o : Obj} : (w.alloc o).heap[w.heap.size]? = some o := by
 show (w.heap.push o)[w.heap.size]? = some o
 simp
theorem AO.add {P : Program} {w0 : Bn} {ρ : AF} {S : St} {w : World} (h : AO P w0 ρ S w) {B : AD} {o : Obj} {L : Loc} (hr : L.r = w.heap.size)
  (hB : JG P (BB ρ S.size L) B (some o) L) : Ext ρ (BB ρ S.size L) ∧ AO P w0 (BB ρ S.size L) ⟨S.heap.set S.size (some B), S.size + 1⟩ (w.alloc o) := by
 have Ir : ρ S.size = none := by
  cases hx : ρ S.size with
  | none => rfl
  | some M => exact absurd (h.DC _ _ hx).1 (Nat.lt_irrefl _)
 have FX := M1 L Ir
 refine ⟨FX, ⟨by rw [World.size_alloc]; have := h.size; omega, fun i hi => ?_, h.os, h.out, fun b M hb => ?_, fun b M C hb hC => ?_, fun b M C hb hC hm => ?_, fun g hg => let ⟨M, a, b⟩ := h.J' g hg; ⟨M, FX _ _ a, b⟩, fun b hb => ?_⟩⟩
 ·rw [heap_alloc_old (by have := h.size; omega)]; exact h.old i hi
 ·rw [World.size_alloc]
  show b < S.size + 1 ∧ _
  unfold BB at hb
  split at hb
  ·cases hb; omega
  have := h.DC b M hb; omega
 ·have H4 : (if b = S.size then some B else S.get b) = some C := by
   have := hC; simp only [St.get, Cf.HQ] at this
   exact this
  unfold BB at hb
  by_cases e : b = S.size
  ·rw [if_pos e] at hb H4
   cases hb; cases H4
   rw [hr, heap_alloc_new]
   exact hB
  rw [if_neg e] at hb H4
  rw [heap_alloc_old (h.DC b M hb).2]
  exact (h.CR b M C hb H4).mono FX
 ·have key : ∀ {c : Nat} {D : AD}, (⟨S.heap.set S.size (some B), S.size + 1⟩ : St).get c = some D → (if c = S.size then some B else S.get c) = some D := by
   intro c D hD; simp only [St.get, Cf.HQ] at hD
   exact hD
  have H4 := key hC
  unfold BB at hb
  by_cases e : b = S.size
  ·rw [if_pos e] at hb
   cases hb
   refine ⟨by have := h.size; omega, fun b' L' B' BS EL DS AR => ?_⟩
   unfold BB at BS
   rw [if_neg (by rw [e] at AR; exact AR)] at BS
   have := (h.DC b' L' BS).2
   omega
  rw [if_neg e] at hb H4
  refine ⟨(h.own b M C hb H4 hm).1, fun b' L' B' BS EL DS AR => ?_⟩
  unfold BB at BS
  have iT := key DS
  by_cases e' : b' = S.size
  ·rw [if_pos e'] at BS
   cases BS
   have := (h.DC b M hb).2
   omega
  rw [if_neg e'] at BS iT
  exact (h.own b M C hb H4 hm).2 b' L' B' BS EL iT AR
 have := h.no b hb
 refine ⟨?_, by show b < S.size + 1; omega⟩
 unfold BB
 rw [if_neg (by omega)]
 exact this.1
structure J2 (r : Nat) (o : Obj) (w w' : World) : Prop where
 same : ∀ k, k ≠ r → w'.heap[k]? = w.heap[k]?
 now : w'.heap[r]? = some o
 size : w'.heap.size = w.heap.size
 os : w'.os = w.os
 out : w'.output = w.output
theorem AO.put {P : Program} {w0 : Bn} {ρ : AF} {S : St} {w w' : World} (h : AO P w0 ρ S w) {b : Nat} {L : Loc} {B B' : AD} {o : Obj} (hb : ρ b = some L) (hB : S.get b = some B)
  (hm : B.Qb = true) (hw : J2 L.r o w w') (hk : JG P ρ B' (some o) L) : AO P w0 ρ ((S.kill B.kin).set b B') w' := by
 have kA : ((S.kill B.kin).set b B').size = S.size := Nd _ _
 have FY : ∀ j, ((S.kill B.kin).set b B').get j = if j = b then some B' else if j ∈ B.kin then none else S.get j := fun j => by rw [Ev, LN]
 have MF := h.own b L B hb hB hm
 have alone : ∀ b' L' C, ρ b' = some L' → ((S.kill B.kin).set b B').get b' = some C → b' ≠ b → L'.r ≠ L.r := by
  intro b' L' C BS hC AR hr
  rw [FY, if_neg AR] at hC
  split at hC
  ·cases hC
  rename_i Y'
  exact Y' (MF.2 b' L' C BS hr hC AR).1
 refine ⟨by rw [hw.size]; exact h.size, fun i hi => ?_, hw.os.trans h.os, hw.out.trans h.out, fun c M hc => ?_, fun c M C hc hC => ?_, fun c M C hc hC ji => ?_, h.J', by rw [kA]; exact h.no⟩
 ·rw [hw.same i (by have := MF.1; omega)]; exact h.old i hi
 ·rw [kA, hw.size]; exact h.DC c M hc
 ·by_cases e : c = b
  ·subst e
   rw [FY, if_pos rfl] at hC
   cases hC
   rw [hb] at hc; cases hc
   rw [hw.now]; exact hk
  have AR := alone c M C hc hC e
  rw [FY, if_neg e] at hC
  split at hC
  ·cases hC
  rw [hw.same _ AR]; exact h.CR c M C hc hC
 by_cases e : c = b
 ·subst e
  rw [hb] at hc; cases hc
  exact ⟨MF.1, fun b' L' D BS hr hD AR => absurd hr (alone b' L' D BS hD AR)⟩
 have YQ := hC
 rw [FY, if_neg e] at hC
 split at hC
 ·cases hC
 refine ⟨(h.own c M C hc hC ji).1, fun b' L' D BS hr hD AR => ?_⟩
 by_cases e' : b' = b
 ·subst e'
  rw [hb] at BS; cases BS
  exact absurd hr.symm (alone c M C hc YQ e)
 rw [FY, if_neg e'] at hD
 split at hD
 ·cases hD
 exact (h.own c M C hc hC ji).2 b' L' D BS hr hD AR
end Go.Cm
namespace Go.Cm
open Go
variable {P : Program}
theorem Aj {t : TypeId} {d : TypeDesc} (w : World) (h : P.underlying t = some d) : (underlying t).run P w = .ok d w := by
 simp [underlying, h]
theorem LY {t : TypeId} {i : TypeInfo} (w : World) (h : P.info? t = some i) : (typeInfo t).run P w = .ok i w := by
 simp [typeInfo, h]
theorem T9 {t : TypeId} {n : Nat} (h : A0 P t = some n) : ∃ i, P.info? t = some i ∧ i.size = n := by
 unfold A0 at h
 split at h
 ·rename_i i hi; cases h; exact ⟨i, hi, rfl⟩
 cases h
theorem Ek {t : TypeId} {n : Nat} (w : World) (h : A0 P t = some n) : (sizeOf t).run P w = .ok n w := by
 obtain ⟨i, hi, rfl⟩ := T9 h
 simp [sizeOf, LY w hi]
theorem p9 {t : TypeId} {b : Bool} (h : Fo P t = some b) : ∃ d, P.underlying t = some d ∧ b = (match d with | .struct _ | .array _ _ => true | _ => false) := by
 unfold Fo at h
 split at h
 ·rename_i f hd; cases h; exact ⟨_, hd, rfl⟩
 ·rename_i n e hd; cases h; exact ⟨_, hd, rfl⟩
 ·rename_i d h1 h2 hd
  cases h
  refine ⟨d, hd, ?_⟩
  cases d <;> first | rfl | (exact absurd rfl (h1 _)) | (exact absurd rfl (h2 _ _))
 cases h
theorem WQ {t : TypeId} {b : Bool} (w : World) (h : Fo P t = some b) : (isAgg t).run P w = .ok b w := by
 obtain ⟨d, hd, rfl⟩ := p9 h
 simp only [isAgg, Sem.run_bind, Aj w hd, Result.andThen_ok]
 cases d <;> rfl
mutual
theorem Lv : ∀ (n : Nat) (v : Value), DM n v = true → Flat v
 | 0, v, h => by simp [DM] at h
 | n + 1, .bool b, _ => .bool b
 | n + 1, .int k m, _ => .int k m
 | n + 1, .float k m, _ => .float k m
 | n + 1, .complex k a b, _ => .complex k a b
 | n + 1, .string s, _ => .string s
 | n + 1, .pointer none, _ => .LU
 | n + 1, .pointer (some _), h => by simp [DM] at h
 | n + 1, .slice none 0 0, _ => .IP
 | n + 1, .slice none (a + 1) b, h => by simp [DM] at h
 | n + 1, .slice none 0 (b + 1), h => by simp [DM] at h
 | n + 1, .slice (some _) _ _, h => by simp [DM] at h
 | n + 1, .map none, _ => .MP
 | n + 1, .map (some _), h => by simp [DM] at h
 | n + 1, .chan _, h => by simp [DM] at h
 | n + 1, .nilFunc, _ => .nilFunc
 | n + 1, .func f ⟨a⟩ ⟨c⟩, h => by
  cases f <;> cases a <;> cases c <;> first | exact .func _ | simp [DM] at h
 | n + 1, .nilIface, _ => .nilIface
 | n + 1, .iface t v, h => .iface t (Lv n v (by simpa [DM] using h))
 | n + 1, .agg ⟨a⟩, h => .agg (X8 n a (by simpa [DM] using h))
 | n + 1, .tuple ⟨a⟩, h => .tuple (X8 n a (by simpa [DM] using h))
theorem X8 : ∀ (n : Nat) (l : List Value), Ps n l = true → ∀ (i : Nat) v, l[i]? = some v → Flat v
 | 0, l, h, _, _, _ => by simp [Ps] at h
 | n + 1, [], _, i, v, hv => by simp at hv
 | n + 1, x :: l, h, i, v, hv => by
  simp only [Ps, Bool.and_eq_true] at h
  cases i with
  | zero => simp at hv; subst hv; exact Lv n x h.1
  | succ i => exact X8 n l h.2 i v (by simpa using hv)
end
theorem N4 {t : TypeId} {z : Value} (h : zeroV P t = some z) : ∃ i, P.info? t = some i ∧ i.zero = some z ∧ Flat z := by
 unfold zeroV at h
 split at h
 ·rename_i i hi
  split at h
  ·rename_i v hv
   cases hf : DM Lu v with
   | false => rw [hf] at h; cases h
   | true => rw [hf] at h; cases h; exact ⟨i, hi, hv, Lv _ _ hf⟩
  cases h
 cases h
theorem Jo {t : TypeId} {z : Value} (w : World) (h : zeroV P t = some z) : (zeroValue t).run P w = .ok z w := by
 obtain ⟨i, hi, hz, _⟩ := N4 h
 simp [zeroValue, LY w hi, hz]
theorem di {t : TypeId} {c : List Value} (h : zeroOf P t = some c) : ∃ z, zeroV P t = some z ∧ c = AP z ∧ Flat z := by
 unfold zeroOf at h
 split at h
 ·rename_i z hz
  cases h
  obtain ⟨_, _, _, hf⟩ := N4 hz
  exact ⟨z, hz, rfl, hf⟩
 cases h
theorem Nm {ρ : AF} {t : TypeId} {cs : List Value} {off : Nat} {v : Value} (h : FL P t cs off = some v) {J9 : Array Value} (hc : AI ρ cs J9.toList) (w : World) :
  ∃ v', (part t J9 off).run P w = .ok v' w ∧ VR ρ v v' := by
 unfold FL at h
 split at h
 ·rename_i ha
  split at h
  ·rename_i n hn
   split at h
   ·rename_i l hl
    cases h
    obtain ⟨h1, h2, h3⟩ := IS _ _ _ hl
    refine ⟨.agg (J9.extract off (off + n)), by simp [part, WQ w ha, Ek w hn], ?_⟩
    have : (J9.extract off (off + n)).toList = (J9.toList.drop off).take n := by
     rw [Array.toList_extract]; simp [List.extract]
    refine VR.UZ (l := l) (l' := (J9.extract off (off + n)).toList) ?_
    rw [this, h3, HM]
    exact (hc.drop off).take n
   cases h
  cases h
 ·rename_i ha
  rw [CD] at h
  obtain ⟨v', F0, hr⟩ := hc.get h
  refine ⟨v', ?_, hr⟩
  have : J9[off]? = some v' := by rw [← Array.getElem?_toList]; exact F0
  simp [part, WQ w ha, this]
 cases h
theorem cell_of {w : World} {r : Nat} {arr : Array Value} {e : TypeId} {fz : Nat × Nat} (h : w.heap[r]? = some (.cells arr e fz)) (i : Nat) : w.cell? ⟨r, i, none⟩ = arr[i]? := by
 simp [World.cell?, h]
theorem Zy {ρ : AF} {w : World} {r d : Nat} {arr : Array Value} {e : TypeId} {fz : Nat × Nat} (h : w.heap[r]? = some (.cells arr e fz)) {c : List Value}
  (hc : ∀ (i : Nat) v, c[i]? = some v → ∃ v', arr[d + i]? = some v' ∧ VR ρ v v') {o n : Nat} {l : List Value} (hl : takeN n (BW o c) = some l) :
  ∃ l' : List Value, (loadCells ⟨r, o + d, none⟩ n).run P w = .ok l'.toArray w ∧ AI ρ l l' := by
 obtain ⟨h1, h2, h3⟩ := IS _ _ _ hl
 rw [HM] at h2 h3
 have key : ∀ j, j < n → ∃ v v', l[j]? = some v ∧ arr[o + d + j]? = some v' ∧ VR ρ v v' := by
  intro j hj
  have VV : j < l.length := by omega
  refine ⟨l[j], ?_⟩
  have hv : l[j]? = some l[j] := List.getElem?_eq_getElem VV
  have e0 : l[j]? = c[o + j]? := by
   conv => lhs; rw [h3]
   rw [List.getElem?_take, if_pos hj, List.getElem?_drop]
  have vh : c[o + j]? = some l[j] := e0 ▸ hv
  obtain ⟨v', ha, hr⟩ := hc _ _ vh
  exact ⟨v', hv, by rw [show o + d + j = d + (o + j) by omega]; exact ha, hr⟩
 refine ⟨(List.range n).map fun j => arr.getD (o + d + j) undef, ?_, ?_⟩
 ·rw [run_loadCells w ⟨r, o + d, none⟩ n (fun j => arr.getD (o + d + j) undef)]
  intro j hj
  obtain ⟨v, v', _, ha, _⟩ := key j hj
  rw [Addr.add_lit, cell_of h, ha]
  simp [Array.getD_eq_getD_getElem?, ha]
 refine ⟨by simp [h1], fun i v v' hv F0 => ?_⟩
 have hi : i < n := by have := (List.getElem?_eq_some_iff.1 hv).1; omega
 obtain ⟨x, x', hx, BZ, hr⟩ := key i hi
 rw [hv] at hx; cases hx
 simp [List.getElem?_range hi, Array.getD_eq_getD_getElem?, BZ] at F0
 subst F0
 exact hr
theorem zh {ρ : AF} {w : World} {r d : Nat} {arr : Array Value} {e : TypeId} {fz : Nat × Nat} (h : w.heap[r]? = some (.cells arr e fz)) {c : List Value}
  (hc : ∀ (i : Nat) v, c[i]? = some v → ∃ v', arr[d + i]? = some v' ∧ VR ρ v v') {t : TypeId} {o : Nat} {v : Value} (hl : FL P t c o = some v) :
  ∃ v', (loadVar t ⟨r, o + d, none⟩).run P w = .ok v' w ∧ VR ρ v v' := by
 unfold FL at hl
 split at hl
 ·rename_i ha
  split at hl
  ·rename_i n hn
   split at hl
   ·rename_i l wU
    cases hl
    obtain ⟨l', h1, h2⟩ := Zy (P := P) h hc wU
    exact ⟨.agg l'.toArray, by simp [loadVar, WQ w ha, Ek w hn, h1], VR.UZ (l := l) (l' := l') h2⟩
   cases hl
  cases hl
 ·rename_i ha
  rw [CD] at hl
  obtain ⟨v', h1, h2⟩ := hc _ _ hl
  refine ⟨v', ?_, h2⟩
  have : w.cell? ⟨r, o + d, none⟩ = some v' := by rw [cell_of h, Nat.add_comm]; exact h1
  simp [loadVar, WQ w ha, this]
 cases hl
variable {w0 : Bn}
theorem Zz {ρ : AF} {S : St} {w : World} (hs : AO P w0 ρ S w) {t : TypeId} {x x' v : Value} (h : DJ P t x S = some v) (hx : VR ρ x x') :
  ∃ v', (Instr.loadAt t x').run P w = .ok v' w ∧ VR ρ v v' := by
 unfold DJ at h
 split at h
 ·rename_i b o
  split at h
  ·rename_i c e row own kin hB
   cases hx with
   | ptr hb =>
    rename_i L
    obtain ⟨arr, e', fz, h1, h2, h3, h4, h5⟩ := hs.CR b L _ hb hB
    obtain ⟨v', a1, a2⟩ := zh (P := P) (ρ := ρ) h1 h3 h
    exact ⟨v', by simp [Instr.loadAt, Instr.sureAddr, a1], a2⟩
  cases h
 cases h
theorem ACK {w : World} {r o : Nat} {arr : Array Value} {e : TypeId} {fz : Nat × Nat} (h : w.heap[r]? = some (.cells arr e fz)) (v : Value) :
  J2 r (.cells (arr.setIfInBounds o v) e fz) w (w.setCell ⟨r, o, none⟩ v) := by
 have hr : r < w.heap.size := (Array.getElem?_eq_some_iff.1 h).1
 refine ⟨fun k hk => ?_, ?_, by simp, rfl, rfl⟩
 ·simp only [World.setCell, Array.getElem?_modify]
  rw [if_neg (fun e => hk e.symm)]
 simp only [World.setCell, Array.getElem?_modify, if_true, h, Option.map_some]
 simp
theorem J2.trans {r : Nat} {o o' : Obj} {a b c : World} (h : J2 r o a b) (k : J2 r o' b c) : J2 r o' a c :=
 ⟨fun j hj => (k.same j hj).trans (h.same j hj), k.now, k.size.trans h.size, k.os.trans h.os, k.out.trans h.out⟩
theorem WR {r : Nat} {e : TypeId} {fz : Nat × Nat} : ∀ (vs : List Value) (w : World) (arr : Array Value) (o i : Nat), w.heap[r]? = some (.cells arr e fz) →
  o + i + vs.length ≤ arr.size → (∀ j, j < arr.size → ¬ (fz.1 ≤ j ∧ j < fz.2)) → (∀ v, v ∈ vs → v.oneCell' = true) →
  ∃ (Ft : Array Value) (w' : World), (storeCells ⟨r, o, none⟩ vs i).run P w = .ok () w' ∧ J2 r (.cells Ft e fz) w w' ∧ Ft.size = arr.size ∧
   ∀ j, Ft[j]? = if o + i ≤ j ∧ j < o + i + vs.length then vs[j - (o + i)]? else arr[j]?
 | [], w, arr, o, i, h, _, _, _ => ⟨arr, w, by simp [storeCells], ⟨fun _ _ => rfl, h, rfl, rfl, rfl⟩, rfl, fun j => by rw [if_neg (by simp only [List.length_nil]; omega)]⟩
 | v :: vs, w, arr, o, i, h, hl, hf, h1 => by
  simp only [List.length_cons] at hl
  have SM : w.cell? (Addr.add ⟨r, o, none⟩ i) = some arr[o + i] := by
   rw [Addr.add_lit, cell_of h]; exact Array.getElem?_eq_getElem (by omega)
  have jQ : w.frozen? (Addr.add ⟨r, o, none⟩ i) = false := by
   rw [Addr.add_lit]
   have := hf (o + i) (by omega)
   obtain ⟨lo, hi⟩ := fz
   simp only [World.frozen?, h, Bool.and_eq_false_iff, decide_eq_false_iff_not]
   simp only at this
   omega
  have xx : (store (Addr.add ⟨r, o, none⟩ i) v).run P w = .ok () (w.setCell ⟨r, o + i, none⟩ v) := by
   rw [run_store P w _ v .plain (h1 v (by simp)), SM, jQ, Addr.add_lit]; rfl
  have hp := ACK (o := o + i) h v
  have ih := WR vs (w.setCell ⟨r, o + i, none⟩ v) (arr.setIfInBounds (o + i) v) o (i + 1) hp.now (by simp; omega) (fun j hj => hf j (by simpa using hj)) (fun x hx => h1 x (by simp [hx]))
  obtain ⟨Ft, w', a1, a2, a3, a4⟩ := ih
  refine ⟨Ft, w', ?_, hp.trans a2, by simpa using a3, fun j => ?_⟩
  ·simp only [storeCells, Sem.run_bind, xx, Result.andThen_ok, a1]
  rw [a4 j]
  simp only [List.length_cons]
  by_cases hj : j = o + i
  ·subst hj
   rw [if_neg (by omega), if_pos (by omega)]
   simp [Array.getElem?_setIfInBounds]
   omega
  by_cases hc : o + i ≤ j ∧ j < o + i + (vs.length + 1)
  ·rw [if_pos (by omega), if_pos hc, show j - (o + i) = (j - (o + (i + 1))) + 1 by omega]
   simp
  rw [if_neg (by omega), if_neg hc, Array.getElem?_setIfInBounds, if_neg (by omega)]
theorem Xh (v : Value) : E' v = v.oneCell' := by cases v <;> rfl
theorem W4 {ρ : AF} {S S' : St} {w : World} (hs : AO P w0 ρ S w) {b o : Nat} {L : Loc} (hb : ρ b = some L) {vs CU : List Value} (h : JE S b o vs = some S') (hv : AI ρ vs CU) :
  ∃ w', (storeCells ⟨L.r, o + L.d, none⟩ CU).run P w = .ok () w' ∧ AO P w0 ρ S' w' := by
 unfold JE at h
 split at h
 ·rename_i c e row kin hB
  cases hg : (vs.all E' && Nat.blt 0 vs.length) with
  | false => rw [hg] at h; cases h
  | true =>
   rw [hg] at h
   simp only [cond_true] at h
   split at h
   ·rename_i c' FV
    cases h
    rw [Bool.and_eq_true] at hg
    obtain ⟨s1, s2, s3⟩ := Tw _ _ _ _ FV
    have Oi : 0 < vs.length := HA hg.2
    have hle := s2 (by intro e; rw [e] at Oi; simp at Oi)
    obtain ⟨arr, e', fz, h1, h2, h3, h4, h5⟩ := hs.CR b L _ hb hB
    have hd : L.d + c.length ≤ arr.size := by
     by_cases HW : c.length = 0
     ·omega
     obtain ⟨v', F0, _⟩ := h3 (c.length - 1) _ (List.getElem?_eq_getElem (by omega))
     have := (Array.getElem?_eq_some_iff.1 F0).1
     omega
    have Si : ∀ v, v ∈ CU → v.oneCell' = true := by
     intro v Zb
     obtain ⟨i, hi⟩ := List.getElem?_of_mem Zb
     have G5 : i < vs.length := by rw [hv.1]; exact (List.getElem?_eq_some_iff.1 hi).1
     have Za := List.getElem?_eq_getElem G5
     have hr := hv.2 i _ _ Za hi
     rw [hr.aa, ← Xh]
     exact List.all_eq_true.1 hg.1 _ (List.getElem_mem G5)
    obtain ⟨Ft, w', a1, a2, a3, a4⟩ := WR (P := P) CU w arr (o + L.d) 0 h1 (by rw [← hv.1]; omega) (fun j hj => h4 rfl j (by omega)) Si
    refine ⟨w', a1, ?_⟩
    refine hs.put (B := .cells c e row true kin) (B' := .cells c' e row true []) hb hB rfl a2 ⟨Ft, e', fz, rfl, by omega, fun i v JY => ?_, h4, h5.1, fun hr => by rw [s1]; exact h5.2.1 hr, h5.2.2⟩
    rw [s3] at JY
    rw [a4]
    by_cases FE : o ≤ i ∧ i < o + vs.length
    ·rw [if_pos FE] at JY
     rw [if_pos (by rw [← hv.1]; omega)]
     obtain ⟨v', x1, x2⟩ := hv.get JY
     exact ⟨v', by rw [show L.d + i - (o + L.d + 0) = i - o by omega]; exact x1, x2⟩
    rw [if_neg FE] at JY
    rw [if_neg (by rw [← hv.1]; omega)]
    exact h3 i v JY
   cases h
 cases h
theorem AEZ {ρ : AF} {S S' : St} {w : World} (hs : AO P w0 ρ S w) {t : TypeId} {a a' v v' : Value} (h : Gv P t a v S = some S') (ha : VR ρ a a') (hv : VR ρ v v') :
  ∃ w', (Instr.storeAt t a' v').run P w = .ok () w' ∧ AO P w0 ρ S' w' := by
 unfold Gv at h
 split at h
 ·rename_i b o
  split at h
  ·rename_i n hn
   cases hg : Nat.beq (AP v).length n with
   | false => rw [hg] at h; cases h
   | true =>
    rw [hg] at h
    simp only [cond_true] at h
    cases ha with
    | ptr hb =>
     rename_i L
     obtain ⟨w', a1, a2⟩ := W4 hs hb h hv.cells
     refine ⟨w', ?_, a2⟩
     have hlen : v'.cells.size = n := by
      have := hv.cells.1
      rw [BV hg, Ig v'] at this
      simpa using this.symm
     rw [Ig v'] at a1
     simp [Instr.storeAt, Instr.sureAddr, storeVar, Ek w hn, hlen, a1]
  cases h
 cases h
theorem aJ {ρ : AF} {S : St} {w : World} (hs : AO P w0 ρ S w) {c : List Value} {arr : Array Value} (hc : ∀ (i : Nat) v, c[i]? = some v → ∃ v', arr[i]? = some v' ∧ VR ρ v v')
  {e e' : TypeId} {row : Bool} {kin : List Nat} {z : Nat} (hz : row = true → A0 P e = some z) (F2 : row = false → z = 0 ∧ arr.size = c.length) (he : e ≠ 0 → e' = e) :
  Ext ρ (BB ρ S.size ⟨w.heap.size, 0, arr.size, z⟩) ∧
   AO P w0 (BB ρ S.size ⟨w.heap.size, 0, arr.size, z⟩) ⟨S.heap.set S.size (some (.cells c e row true kin)), S.size + 1⟩ (w.alloc (.cells arr e')) := by
 have Ir : ρ S.size = none := by
  cases hx : ρ S.size with
  | none => rfl
  | some M => exact absurd (hs.DC _ _ hx).1 (Nat.lt_irrefl _)
 refine hs.add (L := ⟨w.heap.size, 0, arr.size, z⟩) rfl ⟨arr, e', (0, 0), rfl, rfl, fun i v hv => ?_, fun _ j _ hj => by simp at hj, hz, fun hr => ⟨(F2 hr).1, rfl, (F2 hr).2⟩, fun _ => he⟩
 obtain ⟨v', h1, h2⟩ := hc i v hv
 exact ⟨v', by simpa using h1, h2.mono (M1 _ Ir)⟩
theorem JB (ρ : AF) (b : Nat) (L : Loc) : BB ρ b L b = some L := by simp [BB]
theorem lq {ρ : AF} {S : St} {w : World} (hs : AO P w0 ρ S w) {v v' : Value} (hv : VR ρ v v') (e : TypeId) :
  ∃ ρ' w', (newVar e v').run P w = .ok ⟨w.heap.size, 0, none⟩ w' ∧ Ext ρ ρ' ∧ AO P w0 ρ' (Nj S (AP v) e false).2 w' ∧
   VR ρ' (Nj S (AP v) e false).1 (.pointer (some ⟨w.heap.size, 0, none⟩)) := by
 have hc := hv.cells
 rw [Ig v'] at hc
 obtain ⟨h1, h2⟩ := aJ (e := e) (e' := e) (row := false) (kin := []) (z := 0) (arr := v'.cells) hs (c := AP v)
  (fun i x hx => by obtain ⟨x', a, b⟩ := hc.get hx; exact ⟨x', by rw [← Array.getElem?_toList]; exact a, b⟩) (by simp) (fun _ => ⟨rfl, by rw [hc.1]; simp⟩) (fun _ => rfl)
 refine ⟨_, _, rfl, h1, h2, ?_⟩
 exact VR.ptr (L := ⟨w.heap.size, 0, v'.cells.size, 0⟩) (JB _ _ _)
theorem Tq : ∀ a b : List UInt8, Kg a b = (a == b)
 | [], [] => rfl
 | [], _ :: _ => rfl
 | _ :: _, [] => rfl
 | x :: a, y :: b => by
  simp only [Kg, List.cons_beq_cons]
  by_cases h : x = y
  ·subst h; simp [Tq a b]
  have : Nat.beq x.toNat y.toNat = false := Ni (fun e => h (UInt8.toNat_inj.1 e))
  simp [this, h]
theorem kr : ∀ a b : List UInt8, Oz a b = Op.bytesLess a b
 | [], [] => rfl
 | [], _ :: _ => rfl
 | _ :: _, [] => rfl
 | x :: a, y :: b => by
  simp only [Oz, Op.bytesLess]
  by_cases h : x < y
  ·have : Nat.blt x.toNat y.toNat = true := by rw [Nat.blt_eq]; exact UInt8.lt_iff_toNat_lt.1 h
   simp [this, h]
  have h1 : Nat.blt x.toNat y.toNat = false := by
   cases hb : Nat.blt x.toNat y.toNat with
   | false => rfl
   | true => rw [Nat.blt_eq] at hb; exact absurd (UInt8.lt_iff_toNat_lt.2 hb) h
  by_cases e : x = y
  ·subst e; simp [h1, h, kr a b]
  have h2 : Nat.beq x.toNat y.toNat = false := Ni (fun k => e (UInt8.toNat_inj.1 k))
  simp [h1, h2, h, e]
theorem yd {op : BinOp} {t : TypeId} {k : IntKind} {a b : Int} {v : Value} (h : TG op k a b = some v) (w : World) : (binOp op t (.int k a) (.int k b)).run P w = .ok v w ∧ Flat v := by
 cases op <;> simp only [TG] at h
 case quo => split at h; · cases h
             ·rename_i hb; cases h; exact ⟨by simp [binOp, Op.intDiv, hb], .int _ _⟩
 case rem => split at h; · cases h
             ·rename_i hb; cases h; exact ⟨by simp [binOp, Op.intDiv, hb], .int _ _⟩
 all_goals first
  | (cases h; done)
  | (cases h; exact ⟨by simp [binOp, Op.intArith, Op.intBits, Op.intCmp], by first | exact .int _ _ | exact .bool _⟩)
theorem nk {op : BinOp} {t : TypeId} {k k' : IntKind} {a b : Int} {v : Value} (h : cF op k a b = some v) (ho : op = .shl ∨ op = .shr) (w : World) :
  (binOp op t (.int k a) (.int k' b)).run P w = .ok v w ∧ Flat v := by
 unfold cF at h
 split at h
 ·cases h
 rename_i hb
 rcases ho with rfl | rfl <;> (simp only at h; cases h; exact ⟨by simp [binOp, Op.shift, hb], .int _ _⟩)
theorem sM (a b : ByteArray) : (a ++ b) = ⟨(a.data.toList ++ b.data.toList).toArray⟩ := by
 apply ByteArray.ext
 apply Array.ext'
 simp
theorem AEa {op : BinOp} {t : TypeId} {a b : ByteArray} {v : Value} (h : c7 op a b = some v) (w : World) : (binOp op t (.string a) (.string b)).run P w = .ok v w ∧ Flat v := by
 cases op <;> simp only [c7] at h
 case add =>
  split at h
  ·cases h
  rename_i hb
  cases h
  refine ⟨?_, .string _⟩
  have : ¬ (((a.size + b.size : Nat) : Int) > IntKind.i64.max) := by rw [IntKind.max_i64]; omega
  simp only [binOp, Op.stringOp, this, if_false]
  simp [sM]
 all_goals first
  | (cases h; done)
  | (cases h; exact ⟨by simp [binOp, Op.stringOp, Tq, kr, ByteArray.toList_eq], .bool _⟩)
theorem Xy {ρ : AF} {eq : TypeId → Value → Value → Option Bool} {D : Nat}
  (heq : ∀ t x y r x' y' (w : World), eq t x y = some r → VR ρ x x' → VR ρ y y' → (Op.equalIn D t x' y').run P w = .ok r w) {xs ys : List Value} {UG UH : Array Value}
  (hx : AI ρ xs UG.toList) (hy : AI ρ ys UH.toList) (w : World) : ∀ (fs : List Field) (r : Bool), eqFields P eq xs ys fs = some r → (Op.eqFields D UG UH fs).run P w = .ok r w
 | [], r, h => by simp [eqFields] at h; subst h; simp [Op.eqFields]
 | f :: fs, r, h => by
  unfold eqFields at h
  split at h
  ·rename_i hn
   have := Xy heq hx hy w fs r h
   simp [Op.eqFields, hn, this]
  rename_i hn
  split at h
  ·rename_i x y ZD ZE
   obtain ⟨x', a1, a2⟩ := Nm ZD hx w
   obtain ⟨y', b1, b2⟩ := Nm ZE hy w
   split at h
   ·rename_i he
    have e1 := heq _ _ _ _ _ _ w he a2 b2
    have := Xy heq hx hy w fs r h
    simp [Op.eqFields, hn, a1, b1, e1, this]
   rename_i AR
   cases r with
   | true => exact absurd h AR
   | false =>
    have e1 := heq _ _ _ _ _ _ w h a2 b2
    simp [Op.eqFields, hn, a1, b1, e1]
  cases h
theorem gZ {ρ : AF} {eq : TypeId → Value → Value → Option Bool} {D : Nat} {elem : TypeId} {size : Nat}
  (heq : ∀ t x y r x' y' (w : World), eq t x y = some r → VR ρ x x' → VR ρ y y' → (Op.equalIn D t x' y').run P w = .ok r w) {xs ys : List Value} {UG UH : Array Value}
  (hx : AI ρ xs UG.toList) (hy : AI ρ ys UH.toList) (w : World) : ∀ (n i : Nat) (r : Bool), Ri P eq elem size xs ys n i = some r → (Op.eqItems D elem size UG UH (List.range' i n)).run P w = .ok r w
 | 0, i, r, h => by simp [Ri] at h; subst h; simp [Op.eqItems]
 | n + 1, i, r, h => by
  unfold Ri at h
  split at h
  ·rename_i x y ZD ZE
   obtain ⟨x', a1, a2⟩ := Nm ZD hx w
   obtain ⟨y', b1, b2⟩ := Nm ZE hy w
   split at h
   ·rename_i he
    have e1 := heq _ _ _ _ _ _ w he a2 b2
    have := gZ heq hx hy w n (i + 1) r h
    simp [List.range'_succ, Op.eqItems, a1, b1, e1, this]
   rename_i AR
   cases r with
   | true => exact absurd h AR
   | false =>
    have e1 := heq _ _ _ _ _ _ w h a2 b2
    simp [List.range'_succ, Op.eqItems, a1, b1, e1]
  cases h
theorem gi {t : TypeId} {fs : Array Field} (h : P.underlying t = some (.struct fs)) : P.fieldsOf t = fs := by simp [Program.fieldsOf, h]
set_option maxHeartbeats 4000000 in
theorem Ux {ρ : AF} : ∀ (d D : Nat) (t : TypeId) (x y : Value) (r : Bool) (x' y' : Value) (w : World), d ≤ D → Ci P d t x y = some r → VR ρ x x' → VR ρ y y' →
  (Op.equalIn D t x' y').run P w = .ok r w
 | 0, _, _, _, _, _, _, _, _, _, h, _, _ => by simp [Ci] at h
 | d + 1, D, t, x, y, r, x', y', w, hD, h, hx, hy => by
  obtain ⟨D, rfl⟩ : ∃ k, D = k + 1 := ⟨D - 1, by omega⟩
  have ih : ∀ t x y r x' y' (w : World), Ci P d t x y = some r → VR ρ x x' → VR ρ y y' → (Op.equalIn D t x' y').run P w = .ok r w :=
   fun t x y r x' y' w h hx hy => Ux d D t x y r x' y' w (by omega) h hx hy
  unfold Ci at h
  split at h
  ·rename_i hu
   split at h
   ·cases h; cases hx; cases hy; simp [Op.equalIn, Aj w hu]
   cases h
  ·rename_i k0 hu
   split at h
   ·split at h
    ·rename_i hk; cases h; subst hk; cases hx; cases hy; simp [Op.equalIn, Aj w hu]
    cases h
   cases h
  ·rename_i hu
   split at h
   ·cases h; cases hx; cases hy; simp [Op.equalIn, Aj w hu, Tq, beq_toListBytes, ByteArray.toList_eq]
   cases h
  ·rename_i e hu
   split at h
   ·cases h; cases hx; cases hy <;> simp [Op.equalIn, Aj w hu]
   ·rename_i Gi
    cases h
    cases hy
    cases hx with
    | LU => first | exact (Gi _ rfl).elim | exact (Gi rfl).elim | exact Gi.elim | exact (Gi _ rfl rfl).elim | simp at Gi
    | ptr hb => simp [Op.equalIn, Aj w hu]
   ·rename_i b o b' o'
    cases hc : (Nat.beq b b' && Nat.beq o o' && (P.info? e).isSome) with
    | false => rw [hc] at h; cases h
    | true =>
     rw [hc] at h
     simp only [cond_true, Option.some.injEq] at h
     subst h
     simp only [Bool.and_eq_true] at hc
     obtain ⟨⟨h1, h2⟩, h3⟩ := hc
     have h1 := BV h1
     have h2 := BV h2
     subst h1 h2
     obtain ⟨j, hj⟩ := Option.isSome_iff_exists.1 h3
     cases hx with
     | ptr hb => cases hy with
      | ptr BS =>
       rw [hb] at BS
       cases BS
       simp [Op.equalIn, Aj w hu, sizeOf, LY w hj, run_sameAddr_same]
   cases h
  ·rename_i ms hu
   split at h
   ·cases h; cases hx; cases hy; simp [Op.equalIn, Aj w hu]
   ·cases h; cases hx; cases hy; simp [Op.equalIn, Aj w hu]
   ·cases h; cases hx; cases hy; simp [Op.equalIn, Aj w hu]
   ·rename_i tx vx ty vy
    cases hx with
    | iface _ yF => cases hy with
     | iface _ yG =>
      split at h
      ·rename_i AR; cases h; simp [Op.equalIn, Aj w hu, AR]
      rename_i AR
      have w5 : tx = ty := by simpa using AR
      subst w5
      split at h
      ·rename_i i hi
       split at h
       ·rename_i vZ
        have := ih _ _ _ _ _ _ w h yF yG
        simp [Op.equalIn, Aj w hu, LY w hi, vZ, this]
       cases h
      cases h
   cases h
  ·rename_i fields hu
   split at h
   ·split at h
    ·cases h
    rename_i Ag
    obtain ⟨xa, rfl, Zh⟩ := hx.Lg
    obtain ⟨ya, rfl, Zk⟩ := hy.Lg
    rw [run_equalIn_struct w D t xa ya (by rw [gi hu]; exact hu) (by simpa using Ag), gi hu]
    exact Xy ih Zh Zk w _ _ h
   cases h
  ·rename_i len elem hu
   split at h
   ·split at h
    ·rename_i n hn
     obtain ⟨xa, rfl, Zh⟩ := hx.Lg
     obtain ⟨ya, rfl, Zk⟩ := hy.Lg
     obtain ⟨i, hi, Ay⟩ := T9 hn
     rw [run_equalIn_array w D xa ya hu hi, List.range_eq_range']
     have hc : P.cellsOf elem = n := by simp [Program.cellsOf, hi, Ay]
     rw [hc]
     exact gZ ih Zh Zk w _ _ _ h
    cases h
   cases h
  ·rename_i e hu
   split at h
   ·cases h; cases hx; cases hy <;> simp [Op.equalIn, Aj w hu]
   ·rename_i Gi
    cases h
    cases hy
    cases hx with
    | IP => first | exact (Gi _ _ rfl).elim | exact (Gi rfl).elim | exact Gi.elim | exact (Gi _ _ _ rfl rfl).elim | simp at Gi
    | slice => simp [Op.equalIn, Aj w hu]
    | Ki => simp [Op.equalIn, Aj w hu]
   cases h
  ·rename_i k e hu
   split at h
   ·cases h; cases hx; cases hy <;> simp [Op.equalIn, Aj w hu]
   ·rename_i Gi
    cases h
    cases hy
    cases hx with
    | MP => first | exact (Gi _ rfl).elim | exact (Gi rfl).elim | exact Gi.elim | exact (Gi _ rfl rfl).elim | simp at Gi
    | map => simp [Op.equalIn, Aj w hu]
   cases h
  ·rename_i ps rs vr hu
   split at h
   ·cases h; cases hx; cases hy; simp [Op.equalIn, Aj w hu]
   ·cases h; cases hx; cases hy <;> simp [Op.equalIn, Aj w hu]
   ·cases h; cases hy; cases hx <;> simp [Op.equalIn, Aj w hu]
   cases h
  cases h
theorem Xz {op : BinOp} {t : TypeId} {x y : Operand} {a b : Value} (h1 : ¬ (a = .nilIface ∧ b = .nilIface)) (h2 : ∀ xs ys, ¬ (a = .agg xs ∧ b = .agg ys)) : eqGuard op t x y a b = pure () := by
 unfold eqGuard
 cases op <;> first
  | rfl
  | (cases a <;> first
    | rfl
    | (cases b <;> first
      | rfl
      | exact absurd ⟨rfl, rfl⟩ h1
      | exact absurd ⟨rfl, rfl⟩ (h2 _ _)))
theorem iL {ρ : AF} {op : BinOp} {t : TypeId} {x y : Operand} {a b a' b' : Value} (h : M7 P op t x y a b = true) (ha : VR ρ a a') (hb : VR ρ b b') (w : World) :
  (eqGuard op t x y a' b').run P w = .ok () w := by
 by_cases c1 : a' = .nilIface ∧ b' = .nilIface
 ·obtain ⟨rfl, rfl⟩ := c1
  cases ha; cases hb
  unfold M7 at h
  cases op <;> first
   | rfl
   | (cases x <;> cases y <;> first | rfl | (simp at h))
 by_cases c2 : ∃ xs ys, a' = .agg xs ∧ b' = .agg ys
 ·obtain ⟨xs, ys, rfl, rfl⟩ := c2
  cases ha; cases hb
  have hm : P.eqGuardType P.depth t = false := by simpa [M7] using h
  exact run_eqGuard_agg w op t x y _ _ hm
 rw [Xz c1 (fun xs ys e => c2 ⟨xs, ys, e.1, e.2⟩)]; rfl
theorem ra {t : TypeId} {x y : Value} (h : ∀ k a k' b, ¬ (x = .int k a ∧ y = .int k' b)) (hs : ∀ a b, ¬ (x = .string a ∧ y = .string b)) (hf : ∀ k a, x ≠ .float k a)
  (hc : ∀ k a b, x ≠ .complex k a b) : binOp .eql t x y = (do pure (.bool (← Op.equal t x y))) := by
 cases x <;> first
  | rfl
  | (exact absurd rfl (hf _ _))
  | (exact absurd rfl (hc _ _ _))
  | (cases y <;> first | rfl | (exact absurd ⟨rfl, rfl⟩ (h _ _ _ _)) | (exact absurd ⟨rfl, rfl⟩ (hs _ _)))
theorem re {t : TypeId} {x y : Value} (h : ∀ k a k' b, ¬ (x = .int k a ∧ y = .int k' b)) (hs : ∀ a b, ¬ (x = .string a ∧ y = .string b)) (hf : ∀ k a, x ≠ .float k a)
  (hc : ∀ k a b, x ≠ .complex k a b) : binOp .neq t x y = (do pure (.bool (!(← Op.equal t x y)))) := by
 cases x <;> first
  | rfl
  | (exact absurd rfl (hf _ _))
  | (exact absurd rfl (hc _ _ _))
  | (cases y <;> first | rfl | (exact absurd ⟨rfl, rfl⟩ (h _ _ _ _)) | (exact absurd ⟨rfl, rfl⟩ (hs _ _)))
theorem VR.Vn {ρ : AF} {v : Value} {k : IntKind} {n : Int} (h : VR ρ v (.int k n)) : v = .int k n := by cases h; rfl
theorem VR.Ww {ρ : AF} {v : Value} {s : ByteArray} (h : VR ρ v (.string s)) : v = .string s := by cases h; rfl
theorem VR.uE {ρ : AF} {v : Value} {k : FloatKind} {n : Nat} (h : VR ρ v (.float k n)) : v = .float k n := by cases h; rfl
theorem VR.tB {ρ : AF} {v : Value} {k : FloatKind} {m n : Nat} (h : VR ρ v (.complex k m n)) : v = .complex k m n := by cases h; rfl
theorem ri {ρ : AF} {op : BinOp} {t : TypeId} {xo yo : Operand} {x y v x' y' : Value} (h : Fu P op t xo yo x y = some v) (hx : VR ρ x x') (hy : VR ρ y y') (w : World) :
  (do eqGuard op t xo yo x' y'; binOp op t x' y' : Sem Value).run P w = .ok v w ∧ Flat v := by
 unfold Fu at h
 split at h
 ·rename_i k a k' b
  cases hx; cases hy
  rw [Xz (by simp) (by simp)]
  simp only [Sem.run_bind, Sem.run_pure, Result.andThen_ok]
  split at h
  ·exact nk h (.inl rfl) w
  ·exact nk h (.inr rfl) w
  split at h
  ·rename_i hk; subst hk; exact yd h w
  cases h
 ·rename_i a b
  cases hx; cases hy
  rw [Xz (by simp) (by simp)]
  simp only [Sem.run_bind, Sem.run_pure, Result.andThen_ok]
  exact AEa h w
 ·cases h
 ·cases h
 rename_i h1 h2 h3 h4
 have n1 : ∀ k a k' b, ¬ (x' = .int k a ∧ y' = .int k' b) := by
  rintro k a k' b ⟨rfl, rfl⟩
  have e1 := hx.Vn; have e2 := hy.Vn; subst e1; subst e2; clear h hx hy
  simp_all
  exact h3 _ _ _ _ rfl rfl rfl rfl
 have n2 : ∀ a b, ¬ (x' = .string a ∧ y' = .string b) := by
  rintro a b ⟨rfl, rfl⟩
  have e1 := hx.Ww; have e2 := hy.Ww; subst e1; subst e2; clear h hx hy; simp_all
 have n3 : ∀ k a, x' ≠ .float k a := by
  rintro k a rfl
  have e1 := hx.uE; subst e1; clear h hx hy; simp_all
 have n4 : ∀ k a b, x' ≠ .complex k a b := by
  rintro k a b rfl
  have e1 := hx.tB; subst e1; clear h hx hy; simp_all
 split at h
 ·split at h
  ·rename_i hg
   split at h
   ·rename_i r he
    cases h
    have := Ux EF 10000 t x y r x' y' w (by decide) he hx hy
    refine ⟨?_, .bool _⟩
    simp only [Sem.run_bind, iL hg hx hy w, Result.andThen_ok, ra n1 n2 n3 n4, Op.equal, Op.maxDepth, this, Sem.run_pure]
   cases h
  cases h
 ·split at h
  ·rename_i hg
   split at h
   ·rename_i r he
    cases h
    have := Ux EF 10000 t x y r x' y' w (by decide) he hx hy
    refine ⟨?_, .bool _⟩
    simp only [Sem.run_bind, iL hg hx hy w, Result.andThen_ok, re n1 n2 n3 n4, Op.equal, Op.maxDepth, this, Sem.run_pure]
   cases h
  cases h
 cases h
theorem AE4 {ρ : AF} {op : UnOp} {x v x' : Value} (h : Wz op x = some v) (hx : VR ρ x x') (w : World) : (Op.unary op x').run P w = .ok v w ∧ Flat v := by
 unfold Wz at h
 split at h
 ·cases h; cases hx; exact ⟨by simp [Op.unary, Op.intArith], .int _ _⟩
 ·rename_i k n
  cases hx
  simp only [TG] at h
  cases h
  exact ⟨by simp [Op.unary, Op.intBits], .int _ _⟩
 ·cases h; cases hx; exact ⟨by simp [Op.unary], .bool _⟩
 cases h
def JH (ρ : AF) (l l' : List (Nat × Value)) : Prop := l.map (·.1) = l'.map (·.1) ∧ AI ρ (l.map (·.2)) (l'.map (·.2))
theorem JH.cons_inv {ρ : AF} {i : Nat} {v : Value} {l k : List (Nat × Value)} (h : JH ρ ((i, v) :: l) k) : ∃ v' l', k = (i, v') :: l' ∧ VR ρ v v' ∧ JH ρ l l' := by
 cases k with
 | nil => simp [JH] at h
 | cons x l' =>
  obtain ⟨j, v'⟩ := x
  obtain ⟨h1, h2⟩ := h
  simp only [List.map_cons, List.cons.injEq] at h1 h2
  obtain ⟨rfl, h1⟩ := h1
  exact ⟨v', l', rfl, h2.head, h1, h2.tail⟩
theorem JH.Hd {ρ : AF} {k : List (Nat × Value)} (h : JH ρ [] k) : k = [] := by
 cases k with
 | nil => rfl
 | cons x l' => simp [JH] at h
theorem g9 : ∀ (l : List Value) (off k : Nat) (cs : Array Value), off + k + l.length ≤ cs.size →
  ((l.zipIdx k).foldl (fun cs (x : Value × Nat) => cs.setIfInBounds (off + x.2) x.1) cs).size = cs.size ∧
  ∀ j : Nat, ((l.zipIdx k).foldl (fun cs (x : Value × Nat) => cs.setIfInBounds (off + x.2) x.1) cs)[j]? = if off + k ≤ j ∧ j < off + k + l.length then l[j - (off + k)]? else cs[j]?
 | [], off, k, cs, _ => ⟨rfl, fun j => by simp; omega⟩
 | v :: l, off, k, cs, h => by
  simp only [List.length_cons] at h
  obtain ⟨h1, h2⟩ := g9 l off (k + 1) (cs.setIfInBounds (off + k) v) (by simp; omega)
  simp only [List.zipIdx_cons, List.foldl_cons]
  refine ⟨by rw [h1]; simp, fun j => ?_⟩
  rw [h2 j]
  by_cases hj : j = off + k
  ·subst hj
   rw [if_neg (by omega), if_pos (by simp only [List.length_cons]; omega)]
   simp [Array.getElem?_setIfInBounds]
   omega
  by_cases hc : off + k ≤ j ∧ j < off + k + (l.length + 1)
  ·rw [if_pos (by omega), if_pos (by simp only [List.length_cons]; omega), show j - (off + k) = (j - (off + (k + 1))) + 1 by omega]
   simp
  rw [if_neg (by omega), if_neg (by simp only [List.length_cons]; omega), Array.getElem?_setIfInBounds, if_neg (by omega)]
theorem Rr {ρ : AF} {place place' : Nat → Option (Nat × Nat)} (hp : ∀ i, place i = place' i) : ∀ (parts MS : List (Nat × Value)) (c c1 : List Value) (c' : Array Value), JP place c parts = some c1 →
  AI ρ c c'.toList → JH ρ parts MS → ∃ JK, Instr.fill place' c' MS = some JK ∧ AI ρ c1 JK.toList
 | [], MS, c, c1, c', h, hc, hr => by
  cases hr.Hd
  simp [JP] at h; subst h
  exact ⟨c', rfl, hc⟩
 | (i, v) :: rest, MS, c, c1, c', h, hc, hr => by
  obtain ⟨v', Tk, rfl, hv, LG⟩ := hr.cons_inv
  unfold JP at h
  split at h
  ·cases h
  rename_i off size Cr
  cases hg : (Nat.beq (AP v).length size && Nat.ble (off + size) c.length) with
  | false => rw [hg] at h; cases h
  | true =>
   rw [hg] at h
   simp only [cond_true] at h
   rw [Bool.and_eq_true] at hg
   have hlen := BV hg.1
   have hle : off + size ≤ c.length := Nat.le_of_ble_eq_true hg.2
   split at h
   ·rename_i c2 NH
    obtain ⟨s1, s2, s3⟩ := Tw _ _ _ _ NH
    have ZZ := hv.cells
    have Ay : v'.cells.size = size := by rw [← hlen, ZZ.1, Ig]; simp
    have Ec : c'.size = c.length := by rw [hc.1]; simp
    obtain ⟨f1, f2⟩ := g9 v'.cells.toList off 0 c' (by simp; omega)
    have NZ : v'.cells.zipIdx.foldl (fun cs (x : Value × Nat) => cs.setIfInBounds (off + x.2) x.1) c' = (v'.cells.toList.zipIdx 0).foldl (fun cs (x : Value × Nat) => cs.setIfInBounds (off + x.2) x.1) c' := by
     rw [← Array.foldl_toList]
     simp
    have vT : AI ρ c2 ((v'.cells.toList.zipIdx 0).foldl (fun cs (x : Value × Nat) => cs.setIfInBounds (off + x.2) x.1) c').toList := by
     refine ⟨by rw [s1, Array.length_toList]; exact (f1.trans Ec).symm, fun j x x' hx BZ => ?_⟩
     rw [s3] at hx
     rw [Array.getElem?_toList, f2] at BZ
     rw [Ig v'] at ZZ
     by_cases FE : off ≤ j ∧ j < off + (AP v).length
     ·rw [if_pos FE] at hx
      rw [if_pos (by simp; omega)] at BZ
      exact ZZ.2 _ _ _ hx (by simpa using BZ)
     rw [if_neg FE] at hx
     rw [if_neg (by simp; omega)] at BZ
     exact hc.2 _ _ _ hx (by rw [Array.getElem?_toList]; exact BZ)
    obtain ⟨JK, a1, a2⟩ := Rr hp rest Tk c2 c1 _ h vT LG
    refine ⟨JK, ?_, a2⟩
    have EJ : (v'.cells.size != size || decide (off + v'.cells.size > c'.size)) = false := by
     simp only [Bool.or_eq_false_iff, decide_eq_false_iff_not, Ay, Ec]
     exact ⟨by simp, by omega⟩
    simp only [Instr.fill, ← hp i, Cr]
    rw [if_neg (by simp; omega), NZ]
    exact a1
   cases h
theorem pH {ρ : AF} {t : TypeId} {c : List Value} (h : zeroOf P t = some c) : ∃ i z, P.info? t = some i ∧ i.zero = some z ∧ AI ρ c z.cells.toList ∧ zeroV P t = some z := by
 obtain ⟨z, hz, rfl, hf⟩ := di h
 obtain ⟨i, hi, Iz, _⟩ := N4 hz
 have := (hf.refl ρ).cells
 exact ⟨i, z, hi, Iz, by rw [← Ig]; exact this, hz⟩
theorem sJ {ρ : AF} {t : TypeId} {parts : List (Nat × Value)} {MS : Array (Nat × Value)} {v : Value} (h : Uj P t parts = some v) (hp : JH ρ parts MS.toList) (w : World) :
  ∃ v', (Instr.build t MS).run P w = .ok v' w ∧ VR ρ v v' := by
 unfold Uj at h
 split at h
 ·rename_i z fields hz hu
  split at h
  ·rename_i places Cr
   split at h
   ·rename_i c hc
    cases h
    obtain ⟨i, zz, hi, Iz, Nb, _⟩ := pH (ρ := ρ) hz
    obtain ⟨JK, a1, a2⟩ := Rr (place' := (places.toArray[·]?)) (fun i => by rw [CD]; simp) _ _ _ _ _ hc Nb hp
    exact ⟨.agg JK, run_build w t MS JK (by simp only [Program.built, hi, hu, Iz, Cr]; exact a1), VR.UZ (l := c) (l' := JK.toList) a2⟩
   cases h
  cases h
 ·rename_i z n elem hz hu
  split at h
  ·rename_i size Ay
   split at h
   ·rename_i c hc
    cases h
    obtain ⟨i, zz, hi, Iz, Nb, _⟩ := pH (ρ := ρ) hz
    obtain ⟨ie, wJ, rfl⟩ := T9 Ay
    obtain ⟨JK, a1, a2⟩ := Rr (place' := fun i => some (i * ie.size, ie.size)) (fun i => rfl) _ _ _ _ _ hc Nb hp
    exact ⟨.agg JK, run_build w t MS JK (by simp only [Program.built, hi, hu, Iz, wJ]; exact a1), VR.UZ (l := c) (l' := JK.toList) a2⟩
   cases h
  cases h
 cases h
end Go.Cm
