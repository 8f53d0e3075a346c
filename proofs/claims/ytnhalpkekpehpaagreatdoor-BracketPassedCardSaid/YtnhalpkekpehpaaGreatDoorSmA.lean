/-
  Signs as data.
-/
import Derived.Test.YtnhalpkekpehpaaGreatDoorBp0
import Derived.Test.YtnhalpkekpehpaaGreatDoorSy1
import Derived.IntWalk
import Derived.KernelRfl
import Derived.Test.YtnhalpkekpehpaaGreatDoorSy2









namespace Go.Proofs.YtnhalpkekpehpaaGreatDoor
open Go.Cm Go
set_option maxRecDepth 100000
variable {S : St}
structure Sg where
 kind : Int
 value : Int
 place : Int
 acc : Int
 color : Bool
 cz : Int
 aO : Bool
 last : Bool
 mx : Int
 md : Int
 tm : Int
 pr : Int
 c8 : Bool
 n : Int
 d : Int
 step : Int
 line : Int
instance : DecidableEq Sg := fun a b => decidable_of_iff (a.kind = b.kind ∧ a.value = b.value ∧ a.place = b.place ∧ a.acc = b.acc ∧ a.color = b.color ∧ a.cz = b.cz ∧ a.aO = b.aO ∧ a.last = b.last ∧ a.mx = b.mx ∧ a.md = b.md ∧ a.tm = b.tm ∧ a.pr = b.pr ∧ a.c8 = b.c8 ∧ a.n = b.n ∧ a.d = b.d ∧ a.step = b.step ∧ a.line = b.line) ⟨fun h => by cases a; cases b; rw [Sg.mk.injEq]; exact h, fun h => by subst h; simp⟩
def Sg.cells (s : Sg) : List Value := [.int .i64 s.kind, .int .i64 s.value, .int .i64 s.place, .int .i64 s.acc, .bool s.color, .int .i64 s.cz, .bool s.aO, .bool s.last, .int .i64 s.mx, .int .i64 s.md, .int .i64 s.tm, .int .i64 s.pr, .bool s.c8, .int .i64 s.n, .int .i64 s.d, .int .i64 s.step, .int .i64 s.line]
def Sg.v (s : Sg) : Value := AM s.cells
def KY : List (List Int) := [2, 3].flatMap fun a => [2, 3].flatMap fun b => [2, 3].flatMap fun c => [2, 3].map fun d => [a, b, c, d]
def mV (M : List Int) : Value := AM (M.map fun x => .int .i64 x)
def Mf (k : Nat) : Value := AM [.int .i64 ((k / Nat.gcd k 12 : Nat) : Int), .int .i64 ((12 / Nat.gcd k 12 : Nat) : Int)]
def BK (M : List Int) : Nat → List Int
 | 0 => []
 | k + 1 => BK M k ++ (if nth M (M.length - (k + 1)) = some 3 then [((M.length - (k + 1) : Nat) : Int) + 1] else [])
def Bb (M : List Int) (v : Int) : Int := ((BK M 4).find? fun k => decide (k < v)).getD 0
def IL (M : List Int) (v : Nat) : Nat := if v > 4 then 2 else ((nth M (v - 1)).getD 2).toNat
def Bc (M : List Int) (v : Nat) : Nat := if v ≥ 6 then 6 else if v = 5 then 12 else if v = 4 then 12 * IL M 4 else if v = 3 then 12 * IL M 4 * IL M 3 else 12 * IL M 4 * IL M 3 * IL M 2
def fm (M : List Int) : Nat → Nat → Nat
 | 0, v => Bc M v
 | k + 1, v => if v ≥ 5 then Bc M v else if IL M v = 3 then Bc M v * 2 / 3 else 2 * fm M k (v + 1)
def GA (M : List Int) (v : Nat) : Nat := if M = [2, 2, 2, 2] then Bc M v * 2 / 3 else fm M 5 v
def Nz : List Nat := [2, 3, 4, 5, 6]
def O1 : List (Nat × List Value × Value) → Nat → List Value → Option Value
 | [], _, _ => none
 | (g, Mr, v) :: r, f, a => bif Nat.beq g f && GN 1000 Mr a then some v else O1 r f a
def C3 : ByteArray := ⟨#[112, 97, 114, 116]⟩
def Jl : ByteArray := ⟨#[97]⟩
def ofM (M : List Int) (v : Int) : Int := bif decide (v > 4) then 2 else (nth M (v - 1).toNat).getD 0
def sgT : List Sg := (Nz.flatMap fun v => ((List.range 9).flatMap fun p => [true, false].map fun c => ⟨1, v, p, 0, c, 0, false, false, 0, 0, 0, 0, false, 0, 0, 0, 0⟩) ++ [⟨2, v, 0, 0, false, 0, false, false, 0, 0, 0, 0, false, 0, 0, 0, 0⟩]) ++ [⟨3, 0, 0, 0, false, 0, false, false, 0, 0, 0, 0, false, 0, 0, 0, 0⟩, ⟨7, 0, 0, 0, false, 0, false, false, 0, 0, 0, 0, false, 0, 0, 0, 3⟩, ⟨11, 0, 0, 0, false, 0, false, false, 0, 0, 0, 0, false, 0, 0, 0, 0⟩, ⟨12, 0, 0, 0, false, 0, false, false, 0, 0, 0, 0, false, 0, 0, 0, 0⟩, ⟨9, 0, 0, 0, false, 0, false, false, 0, 0, 0, 0, false, 0, 0, 0, 0⟩, ⟨10, 0, 0, 0, false, 0, false, false, 0, 0, 0, 0, false, 2, 0, 0, 0⟩, ⟨10, 0, 0, 0, false, 0, false, false, 0, 0, 0, 0, false, 3, 0, 0, 0⟩, ⟨10, 0, 0, 0, false, 0, false, false, 0, 0, 0, 0, false, 4, 0, 0, 0⟩, ⟨6, 0, 0, 0, false, 0, false, false, 0, 0, 0, 0, false, 3, 2, 0, 0⟩] ++ KY.flatMap fun M => match M with
 | [p, q, r, t] => [true, false].map fun b => ⟨5, 0, 0, 0, false, 0, false, false, p, q, r, t, b, 0, 0, 0, 0⟩
 | _ => []
def C5 : List (Nat × List Value × Value) := (65, [.string C3], .bool true) :: (65, [.string Jl], .bool true) :: ((List.range 25).map fun (n : Nat) => (36, [.int .u64 (n : Int)], .int .i64 (if n = 0 then (0 : Int) else ((Nat.log2 n + 1 : Nat) : Int)))) ++ (sgT.map fun s => (66, [s.v], .int .i64 0)) ++ KY.flatMap fun M => (Nz.flatMap fun (v : Nat) => [
 (141, [mV M, .int .i64 (v : Int)], AN [.int .i64 (Bb M (v : Int)), .int .i64 0]),
 (142, [mV M, .int .i64 (v : Int)], AN [.int .i64 (ofM M (v : Int)), .int .i64 0]),
 (120, [mV M, .int .i64 (v : Int)], AN [Mf (Bc M v), .int .i64 0]),
 (119, [mV M, .int .i64 (v : Int)], Mf (GA M v)),
 (28, [mV M, .int .i64 (v : Int)], .bool (decide (0 < Bb M (v : Int))))]) ++ (79, [mV M], .int .i64 0) :: ((BK M 4).map fun k => (155, [mV M, .int .i64 k], AN [Mf (Bc M (k.toNat + 1)), .int .i64 0]))
def fU : FuncId → List Value → St → Option Value := fun f a _ => O1 C5 f a
abbrev KK : A1 := kk fU
def LR (p : Int) : Bool := p == 2 || p == 3
def Ap (a b c d : Int) : Int := bif LR a && LR b && LR c && LR d then 0 else 12
def AE' : List Value := [.bool false, .bool false, .bool false, .bool false, .bool false, .bool false, .bool false, .bool false, .bool false, .bool false, .bool false, .bool false, .bool true, .bool true, .bool true, .bool true, .bool false, .bool false, .bool false, .bool false, .bool false, .bool false, .bool false, .bool false, .bool true, .bool false, .bool false, .bool false, .bool false, .bool false, .bool false, .bool false, .bool false, .bool false, .bool false, .bool false, .bool false, .bool false, .bool false, .bool false, .bool false, .bool false, .bool false, .bool false, .bool false, .bool false, .bool false, .bool false, .bool false, .bool true, .bool true, .bool true, .bool true, .bool true, .bool true, .bool false, .bool false, .bool false, .bool false, .bool false, .bool false, .bool false, .bool false, .bool false, .bool false, .bool false, .bool false, .bool true, .bool true, .bool false, .bool false, .bool false, .bool false, .bool false, .bool false, .bool false, .bool false, .bool false, .bool false, .bool false, .bool false, .bool true, .bool true, .bool false, .bool false, .bool false, .bool false, .bool false, .bool false, .bool false, .bool false, .bool false, .bool false, .bool false, .bool false, .bool true, .bool false, .bool false, .bool false, .bool false, .bool false, .bool false, .bool false, .bool false, .bool false, .bool true, .bool false, .bool false, .bool false, .bool false, .bool false, .bool false, .bool false, .bool false, .bool false, .bool false, .bool false, .bool false, .bool false, .bool false, .bool false, .bool false, .bool false, .bool false, .bool false, .bool false, .bool false, .bool false, .bool false, .bool true, .bool false, .bool false, .bool false, .bool false, .bool false, .bool false, .bool false, .bool false, .bool false, .bool false, .bool false, .bool false, .bool false, .bool false, .bool false, .bool false, .bool false, .bool false, .bool false, .bool false, .bool false, .bool false, .bool false, .bool false, .bool false, .bool false]
def Gl (S : St) : Prop := 0 < S.size ∧ S.get 0 = some (.cells AE' 0 false false [])
theorem Gl.AA {S T : St} (h : Gl S) (k : AG S T) : Gl T := ⟨Nat.lt_of_lt_of_le h.1 k.1, (k.2 0 h.1).trans h.2⟩
theorem Mk : (∀ b : Bool, (b && true) = b) ∧ (∀ b : Bool, (true && b) = b) ∧ (∀ b : Bool, (b && false) = false) ∧ (∀ b : Bool, (false && b) = false) ∧ (∀ b : Bool, (b || true) = true) ∧ (∀ b : Bool, (true || b) = true) ∧ (∀ b : Bool, (b || false) = b) ∧ (∀ b : Bool, (false || b) = b) ∧ (∀ b : Bool, (!!b) = b) ∧ (!true) = false ∧ (!false) = true :=
 ⟨Bool.and_true, Bool.true_and, Bool.and_false, Bool.false_and, Bool.or_true, Bool.true_or, Bool.or_false, Bool.false_or, Bool.not_not, rfl, rfl⟩
theorem sN {P : Program} {n : Nat} {e : Cb} {S' : St} {b : Nat} {cs : List Value} {t : TypeId} {r : Bool} (hf : e.fr = some (b, cs, t, r)) (hg : S'.get b = some (.cells cs t r true [])) (hl : cs.length < 100000 := by simp) (ha : ∀ v, v ∈ cs → Atom v := by repeat (first | exact RS | refine Hu (XY _ _) ?_ | refine Hu (XW _) ?_ | refine Hu (Lh _ _ _) ?_ | refine Hu (Pe _) ?_)) {X : Prop} : X → Ht P n S' e := AET hf hg (bg _ _ hl ha)
theorem sG {l : List Value} (ha : ∀ v, v ∈ l → Atom v := by repeat (first | exact RS | refine Hu (XY _ _) ?_ | refine Hu (XW _) ?_ | refine Hu (Lh _ _ _) ?_ | refine Hu (Pe _) ?_)) (hn : Nat.blt l.length 90000 = true := by rfl) : CO 100000 (AM l) (AM l) = true := WS hn ha
theorem sQ {v : Value} (h : Atom v := by first | exact XY _ _ | exact XW _ | exact Lh _ _ _ | exact Pe _) : CO 100000 v v = true := WT h
theorem sZ {e : Cb} {m : Nat} (h : m.testBit e.j = true := by dsimp only; decide +kernel) {X : Prop} : m.testBit e.j = false → X := AEU h
section
variable {P : Program} {S : St}
theorem l1 {t : TypeId} {b o : Nat} {c : List Value} {e : TypeId} {row own : Bool} {kin : List Nat} {v : Value} (hb : S.get b = some (.cells c e row own kin)) (hv : nth c o = some v) (ha : Fo P t = some false := by kernel_rfl) : DJ P t (.pointer (some ⟨b, o, none⟩)) S = some v := Jh ha hb hv
theorem lN {t : TypeId} {b o z : Nat} {c l : List Value} {e : TypeId} {row own : Bool} {kin : List Nat} (hb : S.get b = some (.cells c e row own kin)) (hv : takeN z (BW o c) = some l) (ha : Fo P t = some true := by kernel_rfl) (hz : A0 P t = some z := by kernel_rfl) : DJ P t (.pointer (some ⟨b, o, none⟩)) S = some (AM l) := KV ha hz hb hv
theorem l2 {t : TypeId} {b o : Nat} {e : TypeId} {c : List Value} {v : Value} (hb : Di S b e c) (hv : nth c o = some v) (ha : Fo P t = some false := by kernel_rfl) : DJ P t (ptrTo b o) S = some v := lD ha hb hv
end
theorem sB {L L' : Env} (h : HH L L' := by repeat (first | exact AEb _ | refine AEc  rfl ?_)) : HH L L' := h
theorem Ac {α : Type} : ∀ {l : List α} {i : Nat}, i < l.length → ∃ x, nth l i = some x
 | x :: _, 0, _ => ⟨x, rfl⟩
 | _ :: l, i + 1, h => Ac (l := l) (i := i) (by simpa using h)
theorem CS {α : Type} : ∀ {l : List α} {i : Nat} {x : α}, nth l i = some x → i < l.length
 | _ :: _, 0, _, _ => by simp
 | _ :: l, i + 1, x, h => by have := CS (l := l) (i := i) (x := x) h; simp only [List.length_cons]; omega
theorem Dc {α β : Type} (f : α → β) : ∀ {l : List α} {i : Nat} {x : α}, nth l i = some x → nth (l.map f) i = some (f x)
 | _ :: _, 0, _, h => by cases h; rfl
 | _ :: l, i + 1, x, h => Dc f (l := l) (i := i) (x := x) h
theorem mB {α : Type} : ∀ {l : List α} {i : Nat}, l.length ≤ i → nth l i = none
 | [], _, _ => rfl
 | _ :: l, 0, h => by simp at h
 | _ :: l, i + 1, h => mB (l := l) (i := i) (by simpa using h)
theorem D4 {α : Type} : ∀ {l : List α} {i : Nat} {x : α}, nth l i = some x → l.drop i = x :: l.drop (i + 1)
 | [], _, _, h => by cases h
 | y :: l, 0, x, h => by cases h; rfl
 | y :: l, i + 1, x, h => by simpa using D4 (l := l) (i := i) h
theorem CJ {α : Type} : ∀ {l : List α} {i : Nat} {x : α}, nth l i = some x → l.take (i + 1) = l.take i ++ [x]
 | [], _, _, h => by cases h
 | y :: l, 0, x, h => by cases h; rfl
 | y :: l, i + 1, x, h => by simpa using CJ (l := l) (i := i) h
theorem Kj {z o j : Nat} {c l : List Value} {v : Value} (h : takeN z (BW o c) = some l) (hj : nth l j = some v) : nth c (o + j) = some v := by
 obtain ⟨_, _, e⟩ := IS _ _ _ h
 subst e
 have := mE hj
 rw [HM] at this
 rw [CD] at this ⊢
 rw [List.getElem?_drop] at this
 exact this
section
variable {α : Type} {e : TypeId} {z : Nat} {f : α → List Value} {S S' : St} {v : Value} {C : List α} {a : Option Addr} {n cap : Nat}
def AZ (e : TypeId) (z : Nat) (f : α → List Value) (S : St) (v : Value) (C : List α) : Prop := Er S e z v (C.map f)
theorem AZ.move (h : RK S S') (hs : AZ e z f S v C) : AZ e z f S' v C := Er.move h hs
theorem AZ.is (h : AZ e z f S v C) : ∃ a cap, v = .slice a C.length cap := by
 obtain ⟨a, cap, e⟩ := Er.is h
 exact ⟨a, cap, by simpa using e⟩
theorem AZ.len (h : AZ e z f S (.slice a n cap) C) : n = C.length := by
 obtain ⟨a, cap, e⟩ := AZ.is h
 injection e
theorem AZ.elem (h : AZ e z f S (.slice a n cap) C) {k : Nat} {x : α} (hk : nth C k = some x) :
  ∃ b o cs, a = some ⟨b, o, none⟩ ∧ n = C.length ∧ Di S b e cs ∧ takeN z (BW (o + k * z) cs) = some (f x) := by
 obtain ⟨b, o, cs, h1, h2, h3, h4⟩ := Er.elem h (Dc f hk)
 exact ⟨b, o, cs, h1, by simpa using h2, h3, h4⟩
theorem AZ.nil : AZ e z f S (.slice none 0 0) [] := .inl ⟨rfl, .inl rfl⟩
theorem mF {f : α → List Value} : ∀ {C : List α} {k : Nat} {y : List Value}, nth (C.map f) k = some y → ∃ x, nth C k = some x ∧ y = f x
 | [], _, _, h => by cases h
 | x :: _, 0, y, h => by cases h; exact ⟨x, rfl, rfl⟩
 | _ :: C, k + 1, y, h => mF (C := C) (k := k) h
theorem gH {β : Type} : ∀ (n m : Nat) (l : List β), BW (n + m) l = BW m (BW n l) := fun n m l => by
 rw [HM, HM, HM, List.drop_drop]
theorem U3 (hz : ∀ x, (f x).length = z) : ∀ {C : List α} {k : Nat} {x : α}, nth C k = some x → takeN z (BW (0 + k * z) ((C.map f).flatten)) = some (f x)
 | [], _, _, h => by cases h
 | y :: C, 0, x, h => by
  cases h
  rw [show 0 + 0 * z = 0 by omega]
  show takeN z (f y ++ _) = _
  rw [← hz y, PL _ _ (by simp), List.take_left]
 | y :: C, k + 1, x, h => by
  rw [show 0 + (k + 1) * z = z + (0 + k * z) by rw [Nat.add_mul]; omega, gH]
  rw [show BW z ((List.map f (y :: C)).flatten) = (C.map f).flatten by
   rw [HM]
   show (f y ++ _).drop z = _
   rw [← hz y, List.drop_left]]
  exact U3 hz (C := C) (k := k) h
theorem Da (hz : ∀ x, (f x).length = z) : ∀ C : List α, ((C.map f).flatten).length = C.length * z
 | [] => by simp
 | x :: C => by
  show (f x ++ _).length = _
  rw [List.length_append, hz x, Da hz C, List.length_cons, Nat.add_mul]
  omega
theorem AZ.row {B : Nat} (hz : ∀ x, (f x).length = z) (h : Di S B e ((C.map f).flatten)) (hn : n = C.length) : AZ e z f S (.slice (some ⟨B, 0, none⟩) n n) C := by
 subst hn
 refine .inr ⟨B, 0, C.length, _, by simp, by simp, h, fun k y hk => ?_⟩
 obtain ⟨x, hx, rfl⟩ := mF hk
 exact U3 hz hx
def Eu (e : TypeId) (z : Nat) (f : α → List Value) (v : Value) (C : List α) : Gr := ⟨v, e, z, (C.map f).flatten, C.length⟩
theorem AU.ls {S0 : St} (hz : ∀ x, (f x).length = z) (h : AU S0 S (Eu e z f v C)) : AZ e z f S v C := by
 rcases AU.row h with ⟨h1, h2, h3⟩ | ⟨b, h1, h2⟩
 ·have h3 : C.length = 0 := h3
  have h1 : v = .slice none 0 0 := h1
  have : C = [] := List.length_eq_zero_iff.1 h3
  subst this; subst h1
  exact AZ.nil
 have h1 : v = .slice (some ⟨b, 0, none⟩) C.length C.length := h1
 subst h1
 exact AZ.row hz h2 rfl
theorem U2 (x : α) : ((C ++ [x]).map f).flatten = (C.map f).flatten ++ f x := by simp
end
theorem yU {P : Program} {t e : TypeId} {a : Option Addr} {b o len cap z : Nat} {k : IntKind} {i : Int} (ha : a = some ⟨b, o, none⟩) (hu : P.underlying t = some (.slice e)) (hz : A0 P e = some z) (hi : 0 ≤ i ∧ i < len) :
  KT P t (.slice a len cap) (.int k i) = some (ptrTo b (o + i.toNat * z)) := by
 subst ha
 exact yV hu hz hi
theorem kW {α : Type} {f : α → List Value} {P : Program} {t e : TypeId} {C : List α} {len z : Nat} {k : IntKind} {i : Int} {x : α} (hu : P.underlying t = some (.array len e)) (Iz : A0 P e = some z) (ha : Fo P e = some true) (hz : ∀ x, (f x).length = z) (hi : 0 ≤ i ∧ i < len) (hx : nth C i.toNat = some x) :
  KU P t (AM ((C.map f).flatten)) (.int k i) = some (AM (f x)) := by
 show KU P t (.agg _) (.int k i) = _
 unfold KU
 simp only [hu]
 rw [if_pos hi]
 have h := U3 (f := f) hz hx
 rw [Nat.zero_add] at h
 simp only [Iz, FL, ha]
 show (match takeN z (BW (i.toNat * z) ((C.map f).flatten)) with
  | some l => some (AM l)
  | none => none) = _
 rw [h]
theorem Bf {S : St} {b o n cap z : Nat} {e : TypeId} {c new : List Value} (h : Di S b e c) (hn : takeN (n * z) (BW o c) = some new) : El S z n (.slice (some ⟨b, o, none⟩) n cap) = some new := by
 obtain ⟨_, own, kin, hg⟩ := h
 show Ns S b o (n * z) = _
 unfold Ns
 rw [hg]
 exact hn
theorem AU.is {S0 S : St} {g : Gr} (h : AU S0 S g) : ∃ a, g.v = .slice a g.n g.n := by
 rcases AU.row h with ⟨h1, _, h3⟩ | ⟨b, h1, _⟩
 ·exact ⟨none, by rw [h1, h3]⟩
 exact ⟨_, h1⟩
theorem PK {P : Program} {n : Nat} {S' : St} {m m2 : Nat} : ∀ {E : List Cb}, E7 P n S' m E → E7 P n S' m (left m2 E)
 | [], _ => trivial
 | e :: r, h => by
  unfold left
  cases m2.testBit e.j with
  | true => exact PK h.2
  | false => exact ⟨h.1, PK h.2⟩
theorem EH {α : Type} {e : TypeId} {z : Nat} {f : α → List Value} {a : Option Addr} {C : List α} {x : α} : Eu e z f (.slice a (C ++ [x]).length (C ++ [x]).length) (C ++ [x]) = ⟨.slice a (C.length + 1) (C.length + 1), e, z, (C.map f).flatten ++ f x, C.length + 1⟩ := by
 unfold Eu
 rw [U2, List.length_append]
 rfl
theorem PM {z w o j : Nat} {c l l2 : List Value} (h : takeN z (BW o c) = some l) (hj : takeN w (BW j l) = some l2) : takeN w (BW (o + j) c) = some l2 := by
 obtain ⟨_, h1, e⟩ := IS _ _ _ h
 obtain ⟨_, h2, e2⟩ := IS _ _ _ hj
 subst e
 rw [gH]
 generalize BW o c = X at *
 rw [HM] at h2 e2 ⊢
 rw [List.drop_take] at e2 h2
 have h3 : w ≤ z - j := by rw [List.length_take] at h2; omega
 rw [List.take_take, Nat.min_eq_left h3] at e2
 rw [PL _ _ (by rw [List.length_take] at h2; omega), e2]
section
variable {P : Program} {e t : TypeId} {z : Nat} {S S1 : St} {a : Option Addr} {n cap p q : Nat} {lo hi : Option Value}
theorem Er.part {C : List (List Value)} (h : Er S e z (.slice a n cap) C) (hk : RK S S1) (hu : P.underlying t = some (.slice e)) (hz : A0 P e = some z) (Sm : p ≤ q) (hq : q ≤ C.length) (hb : C.length ≤ cap → n = C.length → GV n cap lo hi none = some (p, q, cap)) :
  ∃ a2 c2, Fi P t (.slice a n cap) lo hi none S1 = some (.slice a2 (q - p) c2) ∧ Er S e z (.slice a2 (q - p) c2) ((C.take q).drop p) := by
 rcases h with ⟨h1, h2⟩ | ⟨b, o, Um, cs, e1, SL, hr, h3⟩
 ·subst h1
  have xJ : q = 0 := by simpa using hq
  have G8 : p = 0 := by omega
  subst xJ; subst G8
  rcases h2 with h2 | ⟨b, o, k, h2⟩
  ·cases h2
   refine ⟨none, 0, ?_, .inl ⟨rfl, .inl rfl⟩⟩
   unfold Fi
   simp only [hu, hz, hb (Nat.zero_le _) rfl]
  cases h2
  refine ⟨some ⟨b, o, some k⟩, 0, ?_, .inl ⟨rfl, .inr ⟨b, o, k, rfl⟩⟩⟩
  unfold Fi
  simp only [hu, hz, hb (Nat.zero_le _) rfl]
  rfl
 cases e1
 obtain ⟨_, own, kin, hg⟩ := hk.2 _ _ _ hr
 have hl : ((C.take q).drop p).length = q - p := by rw [List.length_drop, List.length_take]; omega
 refine ⟨some ⟨b, o + p * z, none⟩, cap - p, ?_, .inr ⟨b, o + p * z, cap - p, cs, by rw [hl], by omega, hr, fun j y hy => ?_⟩⟩
 ·unfold Fi
  have ZO : Jn P S1 b z = true := by
   unfold Jn
   rw [hg]
   simp only [hz]
   exact IJ _
  simp only [hu, hz, hb SL rfl, ZO, cond_true, Option.isSome_none, Bool.false_and, cond_false]
 have hj : j < q - p := by have := CS hy; omega
 have : nth C (p + j) = some y := by
  rw [CD] at hy ⊢
  rw [List.getElem?_drop, List.getElem?_take] at hy
  rw [if_pos (by omega)] at hy
  exact hy
 have h4 := h3 (p + j) y this
 rw [show o + p * z + j * z = o + (p + j) * z by rw [Nat.add_mul]; omega]
 exact h4
theorem ry {k : Nat} (h1 : k ≤ cap) : GV n cap none (some (.int .i64 (k : Int))) none = some (0, k, cap) := by
 unfold GV Hj
 simp only
 rw [if_pos ⟨by omega, by omega⟩]
 rfl
theorem r6 {k : Nat} (h1 : k ≤ n) (_ : n ≤ cap) : GV n cap (some (.int .i64 (k : Int))) none none = some (k, n, cap) := by
 unfold GV Hj
 simp only
 rw [if_pos ⟨by omega, by omega⟩]
 rfl
variable {α : Type} {f : α → List Value} {C : List α} {k : Nat}
theorem AZ.upto (h : AZ e z f S (.slice a n cap) C) (hk : RK S S1) (hu : P.underlying t = some (.slice e)) (hz : A0 P e = some z) (Oe : k ≤ C.length) :
  ∃ a2 c2, Fi P t (.slice a n cap) none (some (.int .i64 (k : Int))) none S1 = some (.slice a2 (C.take k).length c2) ∧ AZ e z f S (.slice a2 (C.take k).length c2) (C.take k) := by
 obtain ⟨a2, c2, h1, h2⟩ := Er.part (p := 0) (q := k) h hk hu hz (Nat.zero_le _) (by rw [List.length_map]; exact Oe) (fun hc _ => ry (by rw [List.length_map] at hc; omega))
 rw [List.drop_zero, ← List.map_take] at h2
 have hl : (C.take k).length = k - 0 := by rw [List.length_take]; omega
 rw [hl]
 exact ⟨a2, c2, h1, h2⟩
theorem AZ.rest (h : AZ e z f S (.slice a n cap) C) (hk : RK S S1) (hu : P.underlying t = some (.slice e)) (hz : A0 P e = some z) (Oe : k ≤ C.length) :
  ∃ a2 c2, Fi P t (.slice a n cap) (some (.int .i64 (k : Int))) none none S1 = some (.slice a2 (C.drop k).length c2) ∧ AZ e z f S (.slice a2 (C.drop k).length c2) (C.drop k) := by
 obtain ⟨a2, c2, h1, h2⟩ := Er.part (lo := some (.int .i64 (k : Int))) (hi := none) (p := k) (q := C.length) h hk hu hz Oe (by rw [List.length_map]; exact Nat.le_refl _) (fun hc hn => by rw [List.length_map] at hc hn; rw [r6 (by omega) (by omega), hn])
 rw [List.take_of_length_le (by rw [List.length_map]; exact Nat.le_refl _), ← List.map_drop] at h2
 have hl : (C.drop k).length = C.length - k := List.length_drop
 rw [hl]
 exact ⟨a2, c2, h1, h2⟩
theorem AZ.cells (h : AZ e z f S (.slice a C.length cap) C) : El S z C.length (.slice a C.length cap) = some ((C.map f).flatten) := by
 have h2 := Er.cells h
 rw [← h2]
theorem K6 {f : α → List Value} (h : ∀ x, (f x).all E' = true) : ∀ C : List α, ((C.map f).flatten).all E' = true
 | [] => rfl
 | x :: C => by simp only [List.map_cons, List.flatten_cons, List.all_append, h x, K6 h C, Bool.and_self]
end
section
variable {P : Program} {K : A1} {n : Nat} {ro : Option Nat} {L : Env} {S S0 : St} {Q : Bi} {ops : List Oper} {d : Nat} {o : Oper} {Ts : List St} {l : List (Nat × AD)} {gs : List Gr} {AE : List Nat} {pl : List (Oper × Nat)} {q j : Nat} {E : List Cb}
end
structure Ti where
 n : Int
 d : Int
instance : DecidableEq Ti := fun a b => decidable_of_iff (a.n = b.n ∧ a.d = b.d) ⟨fun h => by cases a; cases b; rw [Ti.mk.injEq]; exact h, fun h => by subst h; simp⟩
def Ti.cells (t : Ti) : List Value := [.int .i64 t.n, .int .i64 t.d]
def Ti.v (t : Ti) : Value := AM t.cells
theorem ta (s r : Ti) : Ci Tryz.prog EF 88 s.v r.v = some (decide (s = r)) := by
 have h : Ci Tryz.prog 40 88 (AM s.cells) (AM r.cells) = _ := gb Tryz.underlying88 (by kernel_rfl) (Rj (by kernel_rfl) (LS (by kernel_rfl) rfl) (LS (by kernel_rfl) rfl) (eq_int Tryz.underlying3) (Rj (by kernel_rfl) (LS (by kernel_rfl) rfl) (LS (by kernel_rfl) rfl) (eq_int Tryz.underlying3) rfl))
 refine h.trans (congrArg some ?_)
 cases s; cases r
 simp only [Ti.mk.injEq]
 rw [Bool.eq_iff_iff]
 simp
theorem yk (xo yo : Operand) (s r : Ti) : Fu Tryz.prog .eql 88 xo yo s.v r.v = some (.bool (decide (s = r))) := rp (by kernel_rfl) (ta s r)
def gI (a b : Int) : Int := ((Nat.gcd a.toNat b.toNat : Nat) : Int)
theorem uS {a : Int} (h : 0 ≤ a) : gI a 0 = a := by
 unfold gI
 rw [show (0 : Int).toNat = 0 from rfl, Nat.gcd_zero_right]
 omega
theorem uR {a b : Int} (ha : 0 ≤ a) (hb : 0 < b) : gI b (a.tmod b) = gI a b := by
 unfold gI
 rw [Int.tmod_eq_emod_of_nonneg ha, Int.toNat_emod ha (by omega), Nat.gcd_comm a.toNat, Nat.gcd_rec b.toNat a.toNat, Nat.gcd_comm]
def red (n d : Nat) : Ti := ⟨((n / Nat.gcd n d : Nat) : Int), ((d / Nat.gcd n d : Nat) : Int)⟩
theorem bN {n d : Nat} (hd : 0 < d) : Nat.Coprime (n / Nat.gcd n d) (d / Nat.gcd n d) := Nat.coprime_div_gcd_div_gcd (Nat.gcd_pos_of_pos_right _ hd)
theorem Th (n d : Nat) : n / Nat.gcd n d * Nat.gcd n d = n := Nat.div_mul_cancel (Nat.gcd_dvd_left n d)
theorem Tf (n d : Nat) : d / Nat.gcd n d * Nat.gcd n d = d := Nat.div_mul_cancel (Nat.gcd_dvd_right n d)
theorem Tg {n d : Nat} (hd : 0 < d) : 0 < d / Nat.gcd n d := by
 rcases Nat.eq_zero_or_pos (d / Nat.gcd n d) with h | h
 ·have := Tf n d; rw [h, Nat.zero_mul] at this; omega
 exact h
theorem m9 (n d : Nat) : n / Nat.gcd n d * d = n * (d / Nat.gcd n d) := by
 have h1 := Th n d
 have h2 := Tf n d
 calc n / Nat.gcd n d * d = n / Nat.gcd n d * (d / Nat.gcd n d * Nat.gcd n d) := by rw [h2]
  _ = n / Nat.gcd n d * Nat.gcd n d * (d / Nat.gcd n d) := by rw [Nat.mul_comm (d / Nat.gcd n d), Nat.mul_assoc]
  _ = n * (d / Nat.gcd n d) := by rw [h1]
theorem tE {p q p' q' : Nat} (h : Nat.Coprime p q) (h' : Nat.Coprime p' q') (hq : 0 < q) (e : p * q' = p' * q) : p = p' ∧ q = q' := by
 have d1 : q ∣ q' := by
  have : q ∣ p * q' := by rw [e]; exact Nat.dvd_mul_left q p'
  exact h.symm.dvd_of_dvd_mul_left this
 have d2 : q' ∣ q := by
  have : q' ∣ p' * q := by rw [← e]; exact Nat.dvd_mul_left q' p
  exact h'.symm.dvd_of_dvd_mul_left this
 have e2 : q = q' := Nat.dvd_antisymm d1 d2
 subst e2
 exact ⟨Nat.eq_of_mul_eq_mul_right hq e, rfl⟩
theorem WE {n d n' d' : Nat} (hd : 0 < d) (Ym : 0 < d') (e : n * d' = n' * d) : red n d = red n' d' := by
 have c1 := bN (n := n) hd
 have c2 := bN (n := n') Ym
 have g1 := Nat.gcd_pos_of_pos_right n hd
 have g2 := Nat.gcd_pos_of_pos_right n' Ym
 have key : n / Nat.gcd n d * (d' / Nat.gcd n' d') = n' / Nat.gcd n' d' * (d / Nat.gcd n d) := by
  apply Nat.eq_of_mul_eq_mul_right (Nat.mul_pos g1 g2)
  have a1 := Th n d
  have a2 := Tf n' d'
  have a3 := Th n' d'
  have a4 := Tf n d
  calc n / Nat.gcd n d * (d' / Nat.gcd n' d') * (Nat.gcd n d * Nat.gcd n' d') = (n / Nat.gcd n d * Nat.gcd n d) * (d' / Nat.gcd n' d' * Nat.gcd n' d') := by simp only [Nat.mul_assoc, Nat.mul_left_comm]
   _ = n * d' := by rw [a1, a2]
   _ = n' * d := e
   _ = (n' / Nat.gcd n' d' * Nat.gcd n' d') * (d / Nat.gcd n d * Nat.gcd n d) := by rw [a3, a4]
   _ = n' / Nat.gcd n' d' * (d / Nat.gcd n d) * (Nat.gcd n d * Nat.gcd n' d') := by
       simp only [Nat.mul_assoc, Nat.mul_left_comm, Nat.mul_comm (Nat.gcd n' d')]
 obtain ⟨h1, h2⟩ := tE c1 c2 (Tg hd) key
 unfold red
 rw [h1, h2]
def tw (k : Nat) : Ti := red k 12
theorem IT (k : Nat) : 0 ≤ (tw k).n ∧ (tw k).n ≤ k ∧ 1 ≤ (tw k).d ∧ (tw k).d ≤ 12 := by
 have h1 : k / Nat.gcd k 12 ≤ k := Nat.div_le_self _ _
 have h2 : 12 / Nat.gcd k 12 ≤ 12 := Nat.div_le_self _ _
 have h3 := Tg (n := k) (d := 12) (by decide)
 unfold tw red
 refine ⟨?_, ?_, ?_, ?_⟩
 ·exact Int.natCast_nonneg _
 ·show ((k / Nat.gcd k 12 : Nat) : Int) ≤ k; omega
 ·show (1 : Int) ≤ ((12 / Nat.gcd k 12 : Nat) : Int); omega
 show ((12 / Nat.gcd k 12 : Nat) : Int) ≤ 12; omega
theorem AEz (k : Nat) : gI (tw k).n (tw k).d = 1 := by
 have := bN (n := k) (d := 12) (by decide)
 unfold gI tw red
 show ((Nat.gcd (k / Nat.gcd k 12) (12 / Nat.gcd k 12) : Nat) : Int) = 1
 rw [this]; rfl
theorem PO (k : Nat) : (tw k).n * 12 = k * (tw k).d := by
 have := m9 k 12
 unfold tw red
 show ((k / Nat.gcd k 12 : Nat) : Int) * 12 = (k : Int) * ((12 / Nat.gcd k 12 : Nat) : Int)
 exact_mod_cast this
def Ma (n d : Int) : Ti := ⟨n.tdiv (gI n d), d.tdiv (gI n d)⟩
theorem m7 (n d : Nat) : Ma n d = red n d := by
 unfold Ma red gI
 rw [Int.toNat_natCast, Int.toNat_natCast]
 congr 1
theorem m8 {n d : Int} {k : Nat} (hn : 0 ≤ n) (hd : 0 < d) (e : n * 12 = k * d) : Ma n d = tw k := by
 obtain ⟨n', rfl⟩ := Int.eq_ofNat_of_zero_le hn
 obtain ⟨d', rfl⟩ := Int.eq_ofNat_of_zero_le (Int.le_of_lt hd)
 rw [m7]
 unfold tw
 refine WE (by omega) (by decide) ?_
 exact_mod_cast e
theorem ABh {n d : Int} {k m : Nat} (hn : 0 ≤ n) (hd : 0 < d) (hm : 0 < m) (e : n * m = k * d) : Ma n d = red k m := by
 obtain ⟨n', rfl⟩ := Int.eq_ofNat_of_zero_le hn
 obtain ⟨d', rfl⟩ := Int.eq_ofNat_of_zero_le (Int.le_of_lt hd)
 rw [m7]
 refine WE (by omega) hm ?_
 exact_mod_cast e
theorem dG (a b : Nat) : ((tw a).n * (tw b).d - (tw b).n * (tw a).d) * 12 = ((a : Int) - b) * ((tw a).d * (tw b).d) := by
 have h1 := PO a
 have h2 := PO b
 rw [Int.sub_mul, Int.sub_mul]
 have e1 : (tw a).n * (tw b).d * 12 = (a : Int) * ((tw a).d * (tw b).d) := by
  rw [Int.mul_right_comm, h1, Int.mul_assoc]
 have e2 : (tw b).n * (tw a).d * 12 = (b : Int) * ((tw a).d * (tw b).d) := by
  rw [Int.mul_right_comm, h2, Int.mul_assoc, Int.mul_comm (tw b).d]
 rw [e1, e2]
theorem AE0 (a b : Nat) : ((tw a).n * (tw b).d + (tw b).n * (tw a).d) * 12 = ((a + b : Nat) : Int) * ((tw a).d * (tw b).d) := by
 have h1 := PO a
 have h2 := PO b
 rw [Int.add_mul]
 have e1 : (tw a).n * (tw b).d * 12 = (a : Int) * ((tw a).d * (tw b).d) := by
  rw [Int.mul_right_comm, h1, Int.mul_assoc]
 have e2 : (tw b).n * (tw a).d * 12 = (b : Int) * ((tw a).d * (tw b).d) := by
  rw [Int.mul_right_comm, h2, Int.mul_assoc, Int.mul_comm (tw b).d]
 rw [e1, e2, ← Int.add_mul]
 norm_cast
abbrev Ku := AZ 88 2 Ti.cells
abbrev Bh := AZ 34 17 Sg.cells
def ic (k : Int) : List Value := [.int .i64 k]
abbrev A5 := AZ 3 1 ic
theorem i6 {x : Int} (h : -9223372036854775808 ≤ x ∧ x ≤ 9223372036854775807) : some (Value.int .i64 (IntKind.i64.wrap x)) = some (.int .i64 x) := congrArg some (congrArg (Value.int .i64) (IntWalk.i64_in x h))
theorem rS : Bj Tryz.prog 7 = true := by kernel_rfl
theorem rT : Bj Tryz.prog 8 = true := by kernel_rfl
theorem qi : Bj Tryz.prog 13 = true := by kernel_rfl
theorem qj : Bj Tryz.prog 14 = true := by kernel_rfl
theorem qo : Bj Tryz.prog 18 = true := by kernel_rfl
theorem qu : Bj Tryz.prog 19 = true := by kernel_rfl
theorem qz : Bj Tryz.prog 24 = true := by kernel_rfl
theorem rC : Bj Tryz.prog 25 = true := by kernel_rfl
theorem rF : Bj Tryz.prog 27 = true := by kernel_rfl
theorem rG : Bj Tryz.prog 28 = true := by kernel_rfl
theorem rL : Bj Tryz.prog 31 = true := by kernel_rfl
theorem rM : Bj Tryz.prog 32 = true := by kernel_rfl
theorem rN : Bj Tryz.prog 33 = true := by kernel_rfl
theorem rO : Bj Tryz.prog 34 = true := by kernel_rfl
theorem rP : Bj Tryz.prog 39 = true := by kernel_rfl
theorem rQ : Bj Tryz.prog 40 = true := by kernel_rfl
theorem rR : Bj Tryz.prog 55 = true := by kernel_rfl
theorem rU : Bj Tryz.prog 87 = true := by kernel_rfl
theorem rV : Bj Tryz.prog 88 = true := by kernel_rfl
theorem rW : Bj Tryz.prog 89 = true := by kernel_rfl
theorem rX : Bj Tryz.prog 90 = true := by kernel_rfl
theorem qb : Bj Tryz.prog 119 = true := by kernel_rfl
theorem qc : Bj Tryz.prog 120 = true := by kernel_rfl
theorem qd : Bj Tryz.prog 123 = true := by kernel_rfl
theorem qe : Bj Tryz.prog 124 = true := by kernel_rfl
theorem qf : Bj Tryz.prog 125 = true := by kernel_rfl
theorem qh : Bj Tryz.prog 126 = true := by kernel_rfl
theorem qk : Bj Tryz.prog 146 = true := by kernel_rfl
theorem ql : Bj Tryz.prog 147 = true := by kernel_rfl
theorem qm : Bj Tryz.prog 161 = true := by kernel_rfl
theorem qn : Bj Tryz.prog 162 = true := by kernel_rfl
theorem qp : Bj Tryz.prog 182 = true := by kernel_rfl
theorem qt : Bj Tryz.prog 183 = true := by kernel_rfl
theorem qv : Bj Tryz.prog 230 = true := by kernel_rfl
theorem qw : Bj Tryz.prog 231 = true := by kernel_rfl
theorem qx : Bj Tryz.prog 233 = true := by kernel_rfl
theorem qy : Bj Tryz.prog 234 = true := by kernel_rfl
theorem rA : Bj Tryz.prog 247 = true := by kernel_rfl
theorem rB : Bj Tryz.prog 248 = true := by kernel_rfl
theorem rD : Bj Tryz.prog 255 = true := by kernel_rfl
theorem rE : Bj Tryz.prog 256 = true := by kernel_rfl
theorem rH : Bj Tryz.prog 286 = true := by kernel_rfl
theorem rI : Bj Tryz.prog 287 = true := by kernel_rfl
theorem rJ : Bj Tryz.prog 298 = true := by kernel_rfl
theorem rK : Bj Tryz.prog 299 = true := by kernel_rfl
def Jg {α : Type} : List (Nat × α) → Nat → Option α
 | [], _ => none
 | (k, a) :: r, t => bif Nat.beq k t then some a else Jg r t
theorem QX {α : Type} : ∀ {l : List (Nat × α)} {t : Nat} {a : α}, Jg l t = some a → (t, a) ∈ l
 | (k, b) :: r, t, a, h => by
  rw [Jg] at h
  cases hb : Nat.beq k t with
  | true => rw [hb] at h; cases h; rw [BV hb]; exact List.mem_cons_self ..
  | false => rw [hb] at h; exact List.mem_cons_of_mem _ (QX h)
theorem ks {α : Type} {x : Option α} {a : α} (_ : x.isSome = true) (h : x = some a) : x = some a := h
def tN : List (Nat × Nat) := [(7, 4), (8, 4), (13, 2), (14, 2), (18, 1), (19, 1), (24, 2), (25, 2), (27, 4), (28, 4), (31, 2), (32, 2), (33, 17), (34, 17), (39, 3), (40, 3), (49, 4), (54, 3), (55, 3), (87, 2), (88, 2), (89, 8), (90, 8), (119, 4), (120, 4), (123, 2), (124, 2), (125, 2), (126, 2), (146, 12), (147, 12), (148, 156), (155, 13), (161, 3), (162, 3), (182, 12), (183, 12), (230, 1), (231, 1), (233, 5), (234, 5), (247, 7), (248, 7), (254, 6), (255, 3), (256, 3), (263, 3), (265, 15), (286, 4), (287, 4), (288, 0), (289, 0), (290, 0), (298, 11), (299, 11)]
def t1 : List (Nat × Unit) := [(2, ()), (3, ()), (4, ()), (5, ()), (6, ()), (9, ()), (10, ()), (11, ()), (12, ()), (21, ()), (22, ()), (23, ()), (35, ()), (36, ()), (44, ()), (53, ()), (63, ()), (64, ()), (68, ()), (84, ()), (102, ()), (110, ()), (112, ()), (114, ()), (117, ()), (118, ()), (132, ()), (157, ()), (163, ()), (198, ()), (210, ()), (219, ()), (232, ()), (292, ()), (293, ()), (296, ()), (297, ())]
def tS : List (Nat × Nat × Nat) := [(22, 3, 1), (23, 34, 17), (35, 40, 3), (44, 4, 1), (53, 55, 3), (63, 44, 1), (64, 22, 1), (68, 90, 8), (114, 120, 4), (117, 118, 1), (118, 88, 2), (157, 183, 12), (163, 162, 3), (198, 200, 1), (219, 248, 7)]
theorem AEf : tN.all (fun p => (Tryz.prog.info? p.1 |>.map (·.size)) == some p.2 && Fo Tryz.prog p.1 == some true) = true := by kernel_rfl
theorem AEe : t1.all (fun p => Fo Tryz.prog p.1 == some false) = true := by kernel_rfl
theorem dC : ∀ p, p ∈ tS → Tryz.prog.underlying p.1 = some (.slice p.2.1) ∧ A0 Tryz.prog p.2.1 = some p.2.2 := by
 intro p hp
 simp only [tS, List.mem_cons, List.not_mem_nil, or_false] at hp
 rcases hp with rfl | rfl | rfl | rfl | rfl | rfl | rfl | rfl | rfl | rfl | rfl | rfl | rfl | rfl | rfl
 ·exact ⟨Tryz.underlying22, by kernel_rfl⟩
 ·exact ⟨Tryz.underlying23, by kernel_rfl⟩
 ·exact ⟨Tryz.underlying35, by kernel_rfl⟩
 ·exact ⟨Tryz.underlying44, by kernel_rfl⟩
 ·exact ⟨Tryz.underlying53, by kernel_rfl⟩
 ·exact ⟨Tryz.underlying63, by kernel_rfl⟩
 ·exact ⟨Tryz.underlying64, by kernel_rfl⟩
 ·exact ⟨Tryz.underlying68, by kernel_rfl⟩
 ·exact ⟨Tryz.underlying114, by kernel_rfl⟩
 ·exact ⟨Tryz.underlying117, by kernel_rfl⟩
 ·exact ⟨Tryz.underlying118, by kernel_rfl⟩
 ·exact ⟨Tryz.underlying157, by kernel_rfl⟩
 ·exact ⟨Tryz.underlying163, by kernel_rfl⟩
 ·exact ⟨Tryz.underlying198, by kernel_rfl⟩
 exact ⟨Tryz.underlying219, by kernel_rfl⟩
theorem uN {t z : Nat} (h : Jg tN t = some z) : Fo Tryz.prog t = some true ∧ A0 Tryz.prog t = some z := by
 have := List.all_eq_true.1 AEf _ (QX h)
 simp only [Bool.and_eq_true, beq_iff_eq, Option.map_eq_some_iff] at this
 obtain ⟨⟨i, hi, rfl⟩, h2⟩ := this
 exact ⟨h2, by unfold A0; rw [hi]⟩
theorem u1 {t : Nat} (h : Jg t1 t = some ()) : Fo Tryz.prog t = some false := by
 have := List.all_eq_true.1 AEe _ (QX h)
 simpa using this
section
variable {S : St} {t b o : Nat} {c l : List Value} {e : TypeId} {row own : Bool} {kin : List Nat} {v : Value} {z : Nat}
theorem q1 (h : Jg t1 t = some ()) (hb : S.get b = some (.cells c e row own kin)) (hv : nth c o = some v) : DJ Tryz.prog t (ptrTo b o) S = some v := Jh (u1 h) hb hv
theorem q2 (h : Jg t1 t = some ()) (hb : Di S b e c) (hv : nth c o = some v) : DJ Tryz.prog t (ptrTo b o) S = some v := lD (u1 h) hb hv
theorem q3 (h : Jg tN t = some z) (hb : S.get b = some (.cells c e row own kin)) (hv : takeN z (BW o c) = some l) : DJ Tryz.prog t (ptrTo b o) S = some (AM l) := KV (uN h).1 (uN h).2 hb hv
theorem q4 (h : Jg tN t = some z) (hb : Di S b e c) (hv : takeN z (BW o c) = some l) : DJ Tryz.prog t (ptrTo b o) S = some (AM l) := ze (uN h).1 (uN h).2 hb hv
theorem q5 {a : Option Addr} {n cap : Nat} (h : Jg tS t = some (e, z)) : G' Tryz.prog t (.slice a n cap) S = some (.int .i64 n) := zX (dC _ (QX h)).1
theorem q6 {a : Option Addr} {n cap : Nat} {k : IntKind} {i : Int} (h : Jg tS t = some (e, z)) (ha : a = some ⟨b, o, none⟩) (hi : 0 ≤ i ∧ i < n) : KT Tryz.prog t (.slice a n cap) (.int k i) = some (ptrTo b (o + i.toNat * z)) := yU ha (dC _ (QX h)).1 (dC _ (QX h)).2 hi
theorem q9 {a : Option Addr} {n cap : Nat} {k : IntKind} {i : Int} (h : Jg tS t = some (e, z)) (_ : takeN z (BW (o + i.toNat * z) c) = some l) (ha : a = some ⟨b, o, none⟩) (hi : 0 ≤ i ∧ i < n) : KT Tryz.prog t (.slice a n cap) (.int k i) = some (ptrTo b (o + i.toNat * z)) := q6 h ha hi
variable {P : Program} {K : A1} {n : Nat} {ro : Option Nat} {L : Env} {Q : Bi}
theorem qg {c : Code} (h : Nat.beq (pK c) 1 = true) (hc : DZ P (pO c) = true) (k : RE P K n (pO c) 0 L S Q) : XE P K n ro c L S Q := N1 (BV h) hc k
theorem qs {c : Code} (h : (Nat.beq (pK c) 3 && Nat.beq (pK (pA c)) 1) = true) (hc : DZ P (pO (pA c)) = true) (k : RE P K n (pO (pA c)) 0 L S (Mn P K n ro (Go.Cm.pB c) Q)) : XE P K n ro c L S Q := by
 rw [Bool.and_eq_true] at h
 exact AV (BV h.1) (qg h.2 hc k)
end
def kd : Op → Nat
 | .load .. => 1
 | .fieldAddr .. => 2
 | .binOp .. => 3
 | .indexAddr .. => 4
 | .call _ => 5
 | .nilCheck .. => 6
 | .move .. => 7
 | .assign .. => 7
 | .extract .. => 7
 | .pick .. => 7
 | _ => 0
def ki (ops : List Oper) (i : Nat) : Nat := match nth ops i with
 | some o => kd o.op
 | none => 9
def kp (pl : List (Oper × Nat)) (i : Nat) : Nat := match nth pl i with
 | some o => kd o.1.op
 | none => 9
theorem tt : true = true := rfl
theorem rb {n : Nat} {P : Program} {L : Env} {S : St} {o : Oper} {op : BinOp} {t t' : TypeId} {x y : Operand} {u w : Value} {b : Bool} (AH : o.op = .binOp op t x y t') (hx : Go.Cm.Ae L x = some u) (hy : Go.Cm.Ae L y = some w) (hv : Fu P op t x y u w = some (.bool b)) : Rd P n L S o (.bool b) := Ff AH hx hy hv
section
variable {P : Program} {S : St} {t j b o : Nat} {u w v : Value}
theorem qF (h : K5 P t u j = some v := by first| exact fa Tryz.underlying7 rS rfl| exact fa Tryz.underlying8 rT rfl| exact fa Tryz.underlying13 qi rfl| exact fa Tryz.underlying14 qj rfl| exact fa Tryz.underlying18 qo rfl| exact fa Tryz.underlying19 qu rfl| exact fa Tryz.underlying24 qz rfl| exact fa Tryz.underlying25 rC rfl| exact fa Tryz.underlying27 rF rfl| exact fa Tryz.underlying28 rG rfl| exact fa Tryz.underlying31 rL rfl| exact fa Tryz.underlying32 rM rfl| exact fa Tryz.underlying33 rN rfl| exact fa Tryz.underlying34 rO rfl| exact fa Tryz.underlying39 rP rfl| exact fa Tryz.underlying40 rQ rfl| exact fa Tryz.underlying55 rR rfl| exact fa Tryz.underlying87 rU rfl| exact fa Tryz.underlying88 rV rfl| exact fa Tryz.underlying89 rW rfl| exact fa Tryz.underlying90 rX rfl| exact fa Tryz.underlying119 qb rfl| exact fa Tryz.underlying120 qc rfl| exact fa Tryz.underlying123 qd rfl| exact fa Tryz.underlying124 qe rfl| exact fa Tryz.underlying125 qf rfl| exact fa Tryz.underlying126 qh rfl| exact fa Tryz.underlying146 qk rfl| exact fa Tryz.underlying147 ql rfl| exact fa Tryz.underlying161 qm rfl| exact fa Tryz.underlying162 qn rfl| exact fa Tryz.underlying182 qp rfl| exact fa Tryz.underlying183 qt rfl| exact fa Tryz.underlying230 qv rfl| exact fa Tryz.underlying231 qw rfl| exact fa Tryz.underlying233 qx rfl| exact fa Tryz.underlying234 qy rfl| exact fa Tryz.underlying247 rA rfl| exact fa Tryz.underlying248 rB rfl| exact fa Tryz.underlying255 rD rfl| exact fa Tryz.underlying256 rE rfl| exact fa Tryz.underlying286 rH rfl| exact fa Tryz.underlying287 rI rfl| exact fa Tryz.underlying298 rJ rfl| exact fa Tryz.underlying299 rK rfl) : K5 P t u j = some v := h
theorem qG {x : AD} (h : S.get b = some x := by first| exact hl.get 0 rfl| exact hl.get 1 rfl| exact hl.get 2 rfl| exact hl.get 3 rfl| exact hl.get 4 rfl| exact hl.get 5 rfl| exact hl.get 6 rfl| exact hl.get 7 rfl| exact hl.get 8 rfl| exact hd.at_ hl.AA| exact hd.d.at_ hl.AA) : S.get b = some x := h
theorem qR {e : TypeId} {c : List Value} (h : Di S b e c := by first| assumption| exact bT (hl.since 0 rfl) (by assumption)| exact bT (hl.since 1 rfl) (by assumption)| exact bT (hl.since 2 rfl) (by assumption)) : Di S b e c := h
theorem qT {c : List Value} (h : nth c o = some v := by first| assumption| exact Kj (j := 0) (by assumption) rfl| exact Kj (j := 1) (by assumption) rfl| exact Kj (j := 2) (by assumption) rfl| exact Kj (j := 3) (by assumption) rfl| exact Kj (j := 4) (by assumption) rfl| exact Kj (j := 5) (by assumption) rfl| exact Kj (j := 6) (by assumption) rfl| exact Kj (j := 7) (by assumption) rfl| exact Kj (j := 8) (by assumption) rfl| exact Kj (j := 9) (by assumption) rfl) : nth c o = some v := h
theorem qW {z : Nat} {c l : List Value} (h : takeN z (BW o c) = some l := by first| assumption| exact PM (j := 0) (by assumption) rfl| exact PM (j := 2) (by assumption) rfl| exact PM (j := 4) (by assumption) rfl) : takeN z (BW o c) = some l := h
theorem qL (h : DJ P t u S = some v := by first| exact q1 (ks tt rfl) qG (by rfl)| exact q3 (ks tt rfl) qG (by rfl)| exact q4 (ks tt rfl) qR qW| exact q2 (ks tt rfl) qR qT) : DJ P t u S = some v := h
variable {n d i : Nat} {ro : Option Nat} {K : A1} {L : Env} {ops : List Oper} {o : Oper} {Q : Bi} {AE : List Nat} {pl : List (Oper × Nat)} {E : List Cb}
theorem kq {m : Nat} (_ : Nat.beq (kd o.op) m = true) (x : Rd P n L S o v) : Rd P n L S o v := x
theorem rn (_ : Nat.beq (ki ops i) 7 = true) (h : Wm ops i L n = some (d, v)) (k : RE P K n ops (i + 1) ((d, v) :: L) S Q) : RE P K n ops i L S Q := rm h k
theorem pn (_ : Nat.beq (kp pl i) 7 = true) (h : aj pl ops i L n = some (d, v)) (k : RP P K n ops AE pl (i + 1) E ((d, v) :: L) S Q) : RP P K n ops AE pl i E L S Q := pm h k
theorem qq (h : Rd P n L S o v := by first| exact kq (m := 1) tt (Ba rfl rfl qL)| exact kq (m := 2) tt (ABI rfl rfl qF)| exact kq (m := 3) tt (Ff rfl rfl rfl (AGG _ _ _ _))| exact kq (m := 3) tt (Ff rfl rfl rfl (yk _ _ _ _))| exact kq (m := 3) tt (Ff rfl rfl rfl (AGH _ _ _ _))| exact kq (m := 3) tt (rb rfl rfl rfl rfl)| exact kq (m := 3) tt (Ff rfl rfl rfl (i6 (by omega)))| exact kq (m := 3) tt (Ff rfl rfl rfl (ABn (by omega)))| exact kq (m := 3) tt (Ff rfl rfl rfl (ABA (by omega) (by omega) (by omega)))| exact kq (m := 5) tt (mr rfl rfl (q5 rfl))| exact kq (m := 4) tt (Qm rfl rfl rfl (q9 rfl (by assumption) (by assumption) ⟨by omega, by omega⟩))| exact kq (m := 4) tt (Qm rfl rfl rfl (q6 rfl (by first| assumption| exact rfl) ⟨by omega, by omega⟩))| exact kq (m := 6) tt (ABJ rfl rfl rfl)) : Rd P n L S o v := h
theorem rj (h : RE P K n ops i L S Q) : RE P K n ops i L S Q := h
theorem pj (h : RP P K n ops AE pl i E L S Q) : RP P K n ops AE pl i E L S Q := h
theorem x3 {c : Code} (h : Nat.beq (pK c) 3 = true) (k : XE P K n ro (pA c) L S (Mn P K n ro (Go.Cm.pB c) Q)) : XE P K n ro c L S Q := AV (BV h) k
theorem x9 {c : Code} (h : Nat.beq (pK c) 9 = true) (k : Q .ret L S) : XE P K n ro c L S Q := Mi (BV h) k
theorem x0 {c : Code} (h : Nat.beq (pK c) 0 = true) (k : Q .normal L S) : XE P K n ro c L S Q := Fl (BV h) k
theorem x7 {c : Code} (h : Nat.beq (pK c) 7 = true) (k : Q (.exit (pI c)) L S) : XE P K n ro c L S Q := de (BV h) k
theorem x5 {c : Code} (h : Nat.beq (pK c) 5 = true) (k : XE P K n ro (pA c) L S (UM (pI c) Q)) : XE P K n ro c L S Q := BF (BV h) k
theorem ci {c : Code} (hk : Nat.beq (pK c) 4 = true) (hc : Go.Cm.Ae L (pC c) = some (.bool true)) (k : XE P K n ro (pA c) L S Q) : XE P K n ro c L S Q := AFT (BV hk) hc k
theorem cj {c : Code} (hk : Nat.beq (pK c) 4 = true) (hc : Go.Cm.Ae L (pC c) = some (.bool false)) (k : XE P K n ro (Go.Cm.pB c) L S Q) : XE P K n ro c L S Q := da (BV hk) hc k
theorem zi {c : Code} {b : Bool} (hk : Nat.beq (pK c) 4 = true) (hc : Go.Cm.Ae L (pC c) = some (.bool b)) (k : (b = true → XE P K n ro (pA c) L S Q) ∧ (b = false → XE P K n ro (Go.Cm.pB c) L S Q)) : XE P K n ro c L S Q := dZ (BV hk) hc k.1 k.2
theorem xj {c : Code} (h : XE P K n ro c L S Q) : XE P K n ro c L S Q := h
end
section
variable {P : Program} {K : A1} {n : Nat} {L : Env} {S S' S0 : St} {ops : List Oper} {i d : Nat} {Q : Bi} {AE : List Nat} {pl : List (Oper × Nat)} {E : List Cb} {Ts : List St} {l : List (Nat × AD)} {gs : List Gr} {f : FuncId} {vs : List Value}
def Uk (o : Oper) (L : Env) : Option (FuncId × List Value) := match o.op with
 | .call ⟨.value x, ys, _⟩ => match Go.Cm.Ae L x with
  | some (.func (.func f) fi ca) => match DE L ys.toList with
   | some vs => some (f, (fi.toList ++ vs) ++ ca.toList)
   | none => none
  | _ => none
 | _ => none
def fP (ops : List Oper) (i : Nat) (L : Env) (n : Nat) : Option (Nat × FuncId × List Value) := match Q0 ops i L n with
 | some (o, d) => match Uk o L with
  | some x => some (d, x)
  | none => none
 | none => none
def fR (pl : List (Oper × Nat)) (ops : List Oper) (q : Nat) (L : Env) (n : Nat) : Option (Nat × Nat × FuncId × List Value) := match nth pl q with
 | some (o, j) => match As ops L o with
  | some true => match o.dst with
   | some d => bif Nat.blt d n then match Uk o L with
    | some x => some (j, d, x)
    | none => none
    else none
   | none => none
  | _ => none
 | none => none
theorem fQ {o : Oper} (h : Uk o L = some (f, vs)) : ∃ x ys ts fi ca ws, o.op = .call ⟨.value x, ys, ts⟩ ∧ Go.Cm.Ae L x = some (.func (.func f) fi ca) ∧ DE L ys.toList = some ws ∧ vs = (fi.toList ++ ws) ++ ca.toList := by
 unfold Uk at h
 split at h
 ·rename_i x ys ts h1
  split at h
  ·rename_i f' fi ca h2
   split at h
   ·rename_i ws h3
    cases h
    exact ⟨_, _, _, _, _, _, h1, h2, h3, rfl⟩
   cases h
  cases h
 cases h
theorem zc (hl : AB S0 Ts S l gs) {R : Value → St → Prop} (h : fP ops i L n = some (d, f, vs)) (hc : CC P K f vs S fun v S' => AG S S' ∧ R v S') (k : ∀ v S', AG S S' → R v S' → AB S0 Ts S' l gs → RE P K n ops (i + 1) ((d, v) :: L) S' Q) : RE P K n ops i L S Q := by
 unfold fP at h
 split at h
 ·rename_i o d' h1
  split at h
  ·rename_i x h2
   cases h
   obtain ⟨a1, a2, a3, a4⟩ := T6 h1
   obtain ⟨x, ys, ts, fi, ca, ws, b1, b2, b3, rfl⟩ := fQ h2
   exact my hl a1 b1 a2 a3 a4 b2 b3 hc k
  cases h
 cases h
theorem zp {j : Nat} (hl : AB S0 Ts S l gs) {R : Value → St → Prop} (h : fR pl ops i L n = some (j, d, f, vs)) (hc : CC P K f vs S fun v S' => AG S S' ∧ R v S') (k : ∀ v S', AG S S' → R v S' → AB S0 Ts S' l gs → E7 P n S' ((nth AE j).getD 0) E ∧ RP P K n ops AE pl (i + 1) (left ((nth AE j).getD 0) E) ((d, v) :: L) S' Q) : RP P K n ops AE pl i E L S Q := by
 unfold fR at h
 split at h
 ·rename_i o j' h1
  split at h
  ·rename_i h2
   split at h
   ·rename_i d' h3
    cases hb : Nat.blt d' n with
    | true =>
     rw [hb] at h
     simp only [cond_true] at h
     split at h
     ·rename_i x h4
      cases h
      obtain ⟨x, ys, ts, fi, ca, ws, b1, b2, b3, rfl⟩ := fQ h4
      exact AB7 hl h1 b1 h2 h3 hb b2 b3 hc k
     cases h
    | false => rw [hb] at h; cases h
   cases h
  cases h
 cases h
theorem kf {e : Cb} {X : Prop} (_ : e.fr.isSome = true) (y : X → Ht P n S' e) : X → Ht P n S' e := y
theorem kl {e : Cb} {X : Prop} (_ : Nat.beq (kd e.op) 1 = true) (y : X → Ht P n S' e) : X → Ht P n S' e := y
theorem zt {m : Nat} (h : E7 P n S' m E := by repeat (first| exact trivial| refine PK ?_| (refine ⟨by first| exact sZ| exact kf tt (sN rfl qG)| exact kl tt (HC rfl rfl qL sG rfl)| exact kl tt (HC rfl rfl qL sQ rfl), ?_⟩))) : E7 P n S' m E := h
variable {R : Value → St → Prop} {x y : Tmp} {u v : Value} {ro : Option Nat} {c : Code}
theorem y1 (h : Go.Cm.look L x = some v) (q : R v S) : Fm P [.tmp x] R .ret L S := CK (A7 h rfl) q
theorem y2 (h : Go.Cm.look L x = some v) (k : Go.Cm.look L y = some u) (q : R (AN [v, u]) S) : Fm P [.tmp x, .tmp y] R .ret L S := CK (A7 h (A7 k rfl)) q
theorem z1 (h : Go.Cm.look L x = some v) (q : R v S) : Mn P K n ro c (Fm P [.tmp x] R) .ret L S := y1 h q
theorem z2 (h : Go.Cm.look L x = some v) (k : Go.Cm.look L y = some u) (q : R (AN [v, u]) S) : Mn P K n ro c (Fm P [.tmp x, .tmp y] R) .ret L S := y2 h k q
end
structure Wr (H : Prop) : Prop where
 out : H
theorem zg {G H : Prop} (k : H) (h : Wr H → G := by intro k; (repeat (first| (refine rj ?_; first| refine rn tt rfl ?_| refine MW tt ?_| refine rr rfl qq ?_| refine rz rfl ?_)| (refine pj ?_; first| refine pn tt rfl ?_| refine pk rfl qq ?_| refine pr rfl qq ?_| refine WJ tt ?_| refine pz rfl ?_)| (refine xj ?_; first| refine qs tt (by kernel_rfl) ?_| refine qg tt (by kernel_rfl) ?_| refine x3 tt ?_| refine x9 tt ?_| refine x0 tt ?_| refine x7 tt ?_| refine x5 tt ?_| refine ci tt rfl ?_| refine cj tt rfl ?_| refine zi tt rfl ?_))); exact k.1) : G := h ⟨k⟩
theorem zA {G H : Prop} (k : H) (h : Wr H → G := by intro k; (repeat (first| (refine rj ?_; first| refine rn tt rfl ?_| refine MW tt ?_| refine rr rfl qq ?_| refine rz rfl ?_)| (refine pj ?_; first| refine pn tt rfl ?_| refine pk rfl qq ?_| refine pr rfl qq ?_| refine WJ tt ?_| refine pz rfl ?_))); exact k.1) : G := h ⟨k⟩
theorem zS {G H : Prop} (k : H) (h : Wr H → G := by intro k; (first| refine qs tt (by kernel_rfl) ?_| refine qg tt (by kernel_rfl) ?_); (repeat (first| (refine rj ?_; first| refine rn tt rfl ?_| refine MW tt ?_| refine rr rfl qq ?_| refine rz rfl ?_)| (refine pj ?_; first| refine pn tt rfl ?_| refine pk rfl qq ?_| refine pr rfl qq ?_| refine WJ tt ?_| refine pz rfl ?_))); exact k.1) : G := h ⟨k⟩
section
variable {P : Program} {t : TypeId} {xo yo : Operand} {a b : Int}
theorem Tb (hb : 0 < b) (h0 : 0 ≤ a) : 0 ≤ a.tdiv b ∧ a.tdiv b ≤ a :=
 ⟨Int.tdiv_nonneg h0 (by omega), Int.tdiv_le_self b h0⟩
theorem Mb (hb : 0 < b) (h0 : 0 ≤ a) : 0 ≤ a.tmod b ∧ a.tmod b < b :=
 ⟨Int.tmod_nonneg b h0, Int.tmod_lt_of_pos a hb⟩
theorem ABA (hb : 0 < b) (h0 : 0 ≤ a) (h1 : a ≤ 9223372036854775807) : Fu P .quo t xo yo (.int .i64 a) (.int .i64 b) = some (.int .i64 (a.tdiv b)) := by
 have h := Tb hb h0
 show (if b = 0 then none else some (Value.int .i64 (IntKind.i64.wrap (a.tdiv b)))) = _
 rw [if_neg (by omega), IntWalk.i64_in _ (by omega)]
theorem ABn (hb : 0 < b) : Fu P .rem t xo yo (.int .i64 a) (.int .i64 b) = some (.int .i64 (a.tmod b)) := by
 show (if b = 0 then none else some (Value.int .i64 (a.tmod b))) = _
 rw [if_neg (by omega)]
end
def FK (a n : Int) : Int := bif decide (a.tmod n < 0) then a.tmod n + n else a.tmod n
theorem ou (a : Int) {n : Int} (hn : 0 < n) : -n < a.tmod n ∧ a.tmod n < n :=
 ⟨Int.lt_tmod_of_pos a hn, Int.tmod_lt_of_pos a hn⟩
theorem lU (a : Int) {n : Int} (hn : 0 < n) : 0 ≤ FK a n ∧ FK a n < n := by
 have h := ou a hn
 unfold FK
 cases hd : decide (a.tmod n < 0) with
 | true => have := of_decide_eq_true hd; show 0 ≤ a.tmod n + n ∧ a.tmod n + n < n; omega
 | false => have := of_decide_eq_false hd; show 0 ≤ a.tmod n ∧ a.tmod n < n; omega
theorem AAG {a n : Int} (h : decide (a.tmod n < 0) = true) : a.tmod n + n = FK a n := by unfold FK; rw [h]; rfl
theorem AAH {a n : Int} (h : decide (a.tmod n < 0) = false) : a.tmod n = FK a n := by unfold FK; rw [h]; rfl
theorem Kx {P : Program} {K : A1} {f : FuncId} {args : List Value} {S : St} {v : Value} (h : K.call f args S = some v) : CC P K f args S fun w S' => AG S S' ∧ w = v := ⟨0, v, S, by unfold Et; rw [h], AG.refl S, rfl⟩
def AX (f : Nat) (a : List Value) (w : Value) : Bool := match O1 C5 f a with
 | some u => CO 1000 u w
 | none => false
theorem Lm {f : Nat} {a : List Value} {w : Value} (h : AX f a w = true) : O1 C5 f a = some w := by
 unfold AX at h
 split at h
 ·rename_i u hu
  rw [hu, PE _ _ _ h]
 cases h
def TV (a b c d v : Int) : Int := ofM [a, b, c, d] v
theorem AAK {a b c d : Int} (h : Ap a b c d = 0) : (a = 2 ∨ a = 3) ∧ (b = 2 ∨ b = 3) ∧ (c = 2 ∨ c = 3) ∧ (d = 2 ∨ d = 3) := by
 unfold Ap at h
 have key : ∀ x, LR x = true → x = 2 ∨ x = 3 := fun x hx => by
  unfold LR at hx
  simpa using hx
 cases h1 : LR a with
 | false => rw [h1] at h; cases h
 | true => cases h2 : LR b with
  | false => rw [h1, h2] at h; cases h
  | true => cases h3 : LR c with
   | false => rw [h1, h2, h3] at h; cases h
   | true => cases h4 : LR d with
    | false => rw [h1, h2, h3, h4] at h; cases h
    | true => exact ⟨key _ h1, key _ h2, key _ h3, key _ h4⟩
theorem MM {a b c d : Int} (h : Ap a b c d = 0) : [a, b, c, d] ∈ KY := by
 obtain ⟨h1, h2, h3, h4⟩ := AAK h
 rcases h1 with rfl | rfl <;> rcases h2 with rfl | rfl <;> rcases h3 with rfl | rfl <;> rcases h4 with rfl | rfl <;> decide
theorem TO {v : Nat} (h : 2 ≤ v ∧ v ≤ 6) : v ∈ Nz := by
 obtain rfl | rfl | rfl | rfl | rfl : v = 2 ∨ v = 3 ∨ v = 4 ∨ v = 5 ∨ v = 6 := by omega
 all_goals decide
theorem oi : (KY.all fun M => (Nz.all fun v => AX 141 [mV M, .int .i64 (v : Int)] (AN [.int .i64 (Bb M v), .int .i64 0]) && (AX 119 [mV M, .int .i64 (v : Int)] (Mf (GA M v)) && (AX 28 [mV M, .int .i64 (v : Int)] (.bool (decide (0 < Bb M (v : Int)))) && (AX 142 [mV M, .int .i64 (v : Int)] (AN [.int .i64 (ofM M v), .int .i64 0]) && AX 120 [mV M, .int .i64 (v : Int)] (AN [Mf (Bc M v), .int .i64 0]))))) && (AX 79 [mV M] (.int .i64 0) && ((BK M 4).all fun k => AX 155 [mV M, .int .i64 k] (AN [Mf (Bc M (k.toNat + 1)), .int .i64 0])))) = true := by kernel_rfl
section
variable {a b c d : Int}
theorem UA (h : Ap a b c d = 0) {v : Nat} (hv : 2 ≤ v ∧ v ≤ 6) : (AX 141 [mV [a, b, c, d], .int .i64 (v : Int)] (AN [.int .i64 (Bb [a, b, c, d] v), .int .i64 0]) && (AX 119 [mV [a, b, c, d], .int .i64 (v : Int)] (Mf (GA [a, b, c, d] v)) && (AX 28 [mV [a, b, c, d], .int .i64 (v : Int)] (.bool (decide (0 < Bb [a, b, c, d] (v : Int)))) && (AX 142 [mV [a, b, c, d], .int .i64 (v : Int)] (AN [.int .i64 (ofM [a, b, c, d] v), .int .i64 0]) && AX 120 [mV [a, b, c, d], .int .i64 (v : Int)] (AN [Mf (Bc [a, b, c, d] v), .int .i64 0]))))) = true := by
 have := List.all_eq_true.1 oi _ (MM h)
 rw [Bool.and_eq_true] at this
 exact List.all_eq_true.1 this.1 _ (TO hv)
theorem om (h : Ap a b c d = 0) : (AX 79 [mV [a, b, c, d]] (.int .i64 0) && ((BK [a, b, c, d] 4).all fun k => AX 155 [mV [a, b, c, d], .int .i64 k] (AN [Mf (Bc [a, b, c, d] (k.toNat + 1)), .int .i64 0]))) = true := by
 have := List.all_eq_true.1 oi _ (MM h)
 rw [Bool.and_eq_true] at this
 exact this.2
theorem y7 (h : Ap a b c d = 0) {v : Nat} (hv : 2 ≤ v ∧ v ≤ 6) : CC Tryz.prog KK 141 [mV [a, b, c, d], .int .i64 (v : Int)] S fun w S' => AG S S' ∧ w = AN [.int .i64 (Bb [a, b, c, d] v), .int .i64 0] := Kx (Lm (Bool.and_eq_true_iff.1 (UA h hv)).1)
theorem zB (h : Ap a b c d = 0) {v : Nat} (hv : 2 ≤ v ∧ v ≤ 6) : CC Tryz.prog KK 119 [mV [a, b, c, d], .int .i64 (v : Int)] S fun w S' => AG S S' ∧ w = (tw (GA [a, b, c, d] v)).v := Kx (Lm (Bool.and_eq_true_iff.1 (Bool.and_eq_true_iff.1 (UA h hv)).2).1)
theorem y8 (h : Ap a b c d = 0) {v : Nat} (hv : 2 ≤ v ∧ v ≤ 6) : CC Tryz.prog KK 28 [mV [a, b, c, d], .int .i64 (v : Int)] S fun w S' => AG S S' ∧ w = .bool (decide (0 < Bb [a, b, c, d] v)) := Kx (Lm (Bool.and_eq_true_iff.1 (Bool.and_eq_true_iff.1 (Bool.and_eq_true_iff.1 (UA h hv)).2).2).1)
theorem ACr (a b c d : Int) (v : Nat) (h : Ap a b c d = 0) (hv : 2 ≤ v ∧ v ≤ 6) : CC Tryz.prog KK 142 [mV [a, b, c, d], .int .i64 (v : Int)] S fun w S' => AG S S' ∧ w = AN [.int .i64 (TV a b c d v), .int .i64 0] := Kx (Lm (Bool.and_eq_true_iff.1 (Bool.and_eq_true_iff.1 (Bool.and_eq_true_iff.1 (Bool.and_eq_true_iff.1 (UA h hv)).2).2).2).1)
theorem ACg (a b c d : Int) (v : Nat) (h : Ap a b c d = 0) (hv : 2 ≤ v ∧ v ≤ 6) : CC Tryz.prog KK 120 [mV [a, b, c, d], .int .i64 (v : Int)] S fun w S' => AG S S' ∧ w = AN [(tw (Bc [a, b, c, d] v)).v, .int .i64 0] := Kx (Lm (Bool.and_eq_true_iff.1 (Bool.and_eq_true_iff.1 (Bool.and_eq_true_iff.1 (Bool.and_eq_true_iff.1 (UA h hv)).2).2).2).2)
theorem oM (a b c d : Int) (h : Ap a b c d = 0) : CC Tryz.prog KK 79 [mV [a, b, c, d]] S fun w S' => AG S S' ∧ w = .int .i64 (Ap a b c d) := by
 rw [h]
 exact Kx (Lm (Bool.and_eq_true_iff.1 (om h)).1)
theorem kg (h : Ap a b c d = 0) {k : Int} (hk : k ∈ BK [a, b, c, d] 4) : CC Tryz.prog KK 155 [mV [a, b, c, d], .int .i64 k] S fun w S' => AG S S' ∧ w = AN [(tw (Bc [a, b, c, d] (k.toNat + 1))).v, .int .i64 0] := Kx (Lm (List.all_eq_true.1 (Bool.and_eq_true_iff.1 (om h)).2 _ hk))
end
theorem zU : ((List.range 25).all fun (n : Nat) => AX 36 [.int .u64 (n : Int)] (.int .i64 (if n = 0 then (0 : Int) else ((Nat.log2 n + 1 : Nat) : Int)))) = true := by kernel_rfl
theorem Zs {n : Nat} (hn : n < 25) : CC Tryz.prog KK 36 [.int .u64 (n : Int)] S fun w S' => AG S S' ∧ ∃ x, w = .int .i64 x := by
 have := List.all_eq_true.1 zU n (List.mem_range.2 hn)
 obtain ⟨m, v, S', h1, h2, h3⟩ := Kx (P := Tryz.prog) (K := KK) (S := S) (show KK.call 36 [.int .u64 (n : Int)] S = some _ from Lm this)
 exact ⟨m, v, S', h1, h2, _, h3⟩
def one (s : Sg) : Int := bif AX 66 [s.v] (.int .i64 0) then 0 else 8
theorem AD2 (s : Sg) (h : one s = 0) : CC Tryz.prog KK 66 [s.v] S fun w S' => AG S S' ∧ w = .int .i64 (one s) := by
 rw [h]
 unfold one at h
 cases hc : AX 66 [s.v] (.int .i64 0) with
 | true => exact Kx (Lm hc)
 | false => rw [hc] at h; cases h
structure GR (nm : ByteArray) : Prop where
 ok : O1 C5 65 [.string nm] = some (.bool true)
instance : Nonempty (GR C3) := ⟨⟨by kernel_rfl⟩⟩
instance : Nonempty (GR Jl) := ⟨⟨by kernel_rfl⟩⟩
theorem zC {nm : ByteArray} [h : Nonempty (GR nm)] : CC Tryz.prog KK 65 [.string nm] S fun w S' => AG S S' ∧ w = .bool true := h.elim fun k => Kx k.ok
theorem ADH (a b : Int) (ha : 0 ≤ a) (Eb : a ≤ 9223372036854775807) (hb : 0 < b) : CC Tryz.prog KK 169 [.int .i64 a, .int .i64 b] S (fun v S' => AG S S' ∧ v = AN [.int .i64 (a.tdiv b), .int .i64 (a.tmod b)]) := by
 refine ce 12 Tryz.func169 fun hl => ?_; refine zg ?_; refine A4 (idx := [0, 1, 2, 3, 4, 5, 6, 7]) rfl aP aP ?_; refine zg ?_
 exact y2 rfl rfl ⟨hl.AA, rfl⟩
theorem ACv (k : Nat) : ∀ {S : St} (a b : Int), b < (k : Int) → 0 ≤ a → a ≤ 9223372036854775807 → 0 ≤ b → b ≤ 9223372036854775807 → CC Tryz.prog KK 152 [.int .i64 a, .int .i64 b] S (fun v S' => AG S S' ∧ v = .int .i64 (gI a b)) := by
 induction k with
 | zero => intro S a b h1 _ _ h2 _; omega
 | succ k ih =>
  intro S a b hk ha Eb G3 CB
  refine ce 19 Tryz.func152 fun hl => ?_; refine zg ?_
  constructor <;> intro h8
  ·
   have hb : b = 0 := by simpa using h8
   subst hb
   refine zg ?_
   exact (z1 rfl ⟨hl.AA, by rw [uS ha]⟩)
  have hb : 0 < b := by have : ¬ b = 0 := by simpa using h8
                        omega
  have hr := Mb (a := a) hb ha
  refine zg ?_
  refine zc hl rfl (ADH a b ha Eb hb) ?_; rintro v S1 Al rfl hl
  refine zg ?_
  refine zc hl rfl (ih b (a.tmod b) Q1 Q1 CB hr.1 Q1) ?_; rintro v S2 Ar rfl hl
  refine zg ?_
  exact y1 rfl ⟨hl.AA, by rw [uR ha hb]⟩
theorem Vp (a b : Int) (ha : 0 ≤ a) (Eb : a ≤ 9223372036854775807) (hb : 0 ≤ b) (CB : b ≤ 9223372036854775807) : CC Tryz.prog KK 152 [.int .i64 a, .int .i64 b] S (fun v S' => AG S S' ∧ v = .int .i64 (gI a b)) := ACv (b.toNat + 1) a b Q1 ha Eb hb CB
def VT (t : Ti) : Prop := (0 ≤ t.n ∧ t.n ≤ 100000) ∧ (1 ≤ t.d ∧ t.d ≤ 1000) ∧ gI t.n t.d = 1
theorem JC {k : Nat} (h : k ≤ 100000) : VT (tw k) := by
 have := IT k
 exact ⟨⟨this.1, Q1⟩, ⟨this.2.2.1, Q1⟩, AEz k⟩
theorem n7 (t : Ti) (ht : VT t) : CC Tryz.prog KK 151 [t.v] S (fun v S' => AG S S' ∧ v = .int .i64 0) := by
 refine ce 29 Tryz.func151 fun _ => ?_
 obtain ⟨⟨h1, h2⟩, ⟨h3, h4⟩, hg⟩ := ht
 have hl := Jv.start S
 refine zg ?_; refine bL hl fun B1 S1 hl => ?_; refine zA ?_; refine AV rfl ?_; refine BF rfl ?_; refine AV rfl (Bz hl 3 (.bool false) ?_ rfl ?_)
 ·
  refine zg ?_; refine BH (d := 7) rfl (fun h7 => ?_) (fun h7 => ?_)
  ·have := oTr h7; exfalso; omega
  refine zg ?_; refine BH (d := 12) rfl (fun CL => ?_) (fun CL => ?_)
  ·have := oTr CL; exfalso; omega
  refine zg ?_; refine BH (d := 17) rfl (fun HR => ?_) (fun HR => ?_)
  ·have := oTr HR; exfalso; omega
  refine zg ?_
  exact ⟨rfl, bl (decide_eq_false Q1), sB, hl⟩
 intro S2 hl
 refine zg ?_
 refine zc hl rfl (Vp t.n t.d h1 Q1 Q1 Q1) ?_; rintro v S3 Bt rfl hl
 rw [hg]
 refine zg ?_
 exact y1 rfl ⟨hl.AA, rfl⟩
theorem PI (a : Option Addr) (cap : Nat) (L : List Ti) (hn : L.length ≤ 400) (hL : ∀ t, t ∈ L → VT t) (hv : Ku S (.slice a L.length cap) L) : CC Tryz.prog KK 121 [.slice a L.length cap] S (fun v S' => AG S S' ∧ v = .int .i64 0) := by
 refine ce 18 Tryz.func121 fun hl => ?_; refine zg ?_; refine AK (L' := [(8, .int .i64 0), (7, .int .i64 L.length), (6, .slice a L.length cap), (2, .int .i64 0)]) sE ?_
 refine Au rfl (fun m Le S' => ∃ i : Nat, i ≤ L.length ∧ m = L.length - i ∧ Af [(8, .int .i64 (i : Int)), (7, .int .i64 L.length), (6, .slice a L.length cap), (2, .int .i64 0)] Le ∧ AB S [S] S' [] []) ?_ (m := L.length) ⟨0, Q1, Q1, sE, hl⟩
 clear hl; rintro m Le S' ⟨i, hi, rfl, AL, hl⟩; refine AK AL ?_
 refine zg ?_
 constructor <;> intro h9
 ·
  have AJ : i < L.length := dT h9
  obtain ⟨t, ht⟩ := Ac AJ
  obtain ⟨b1, o1, Ai, ha, _, AY, Ab⟩ := hv.elem ht
  refine zg ?_; refine aL hl [.int .i64 0, .int .i64 0] fun B4 S4 hl => ?_; refine sL hl 0 t.cells fun S5 hl => ?_; refine zg ?_
  refine zc hl rfl (n7 t (hL t (Am ht))) ?_; rintro v S6 Al rfl hl
  refine zg ?_
  exact ⟨L.length - (i + 1), Q1, i + 1, Q1, rfl, sE, hl.tail⟩
 refine zg ?_
 exact y1 rfl ⟨hl.AA, rfl⟩
theorem Hc {x y A B : Int} (hx : 0 ≤ x) (DU : x ≤ A) (hy : 0 ≤ y) (Zi : y ≤ B) : 0 ≤ x * y ∧ x * y ≤ A * B :=
 ⟨Int.mul_nonneg hx hy, Int.mul_le_mul DU Zi hy Q1⟩
theorem YK {a b : Int} (h : 0 < b) : 0 < gI a b := by
 unfold gI
 have : 0 < Nat.gcd a.toNat b.toNat := Nat.gcd_pos_of_pos_right _ Q1
 omega
def tz : Ti := ⟨0, 0⟩
theorem cQ (n d : Int) (t : Ti) (hF : Ad S) (hn : 0 ≤ n) (FH : n ≤ 1000000000000000) (hd : 0 < d) (Fy : d ≤ 1000000000000000) (ht : Ma n d = t) (hv : t.n ≤ 100000 ∧ t.d ≤ 100000) : CC Tryz.prog KK 153 [.int .i64 n, .int .i64 d] S (fun v S' => AG S S' ∧ v = AN [t.v, .int .i64 0]) := by
 refine ce 40 Tryz.func153 fun hl => ?_
 have hg := YK (a := n) hd
 subst ht
 have hv : n.tdiv (gI n d) ≤ 100000 ∧ d.tdiv (gI n d) ≤ 100000 := hv
 refine zg ?_; refine aL hl [.int .i64 0, .int .i64 0] fun B4 S4 hl => ?_; refine zA ?_; refine AV rfl ?_; refine BF rfl ?_; refine AV rfl (Bz hl 8 (.bool false) ?_ rfl ?_)
 ·
  refine zg ?_; refine BH (d := 11) rfl (fun Dv => ?_) (fun Dv => ?_)
  ·have := oTr Dv; exfalso; omega
  refine zg ?_
  exact ⟨rfl, bl (decide_eq_false Q1), sB, hl⟩
 intro S5 hl
 refine zg ?_
 constructor <;> intro Cj
 ·exfalso
  have : d = 0 := by simpa using Cj
  omega
 refine zg ?_
 refine zc hl rfl (Vp n d hn Q1 Q1 Q1) ?_; rintro v S6 Al rfl hl
 refine zg ?_; refine A4 (idx := [0, 1, 2, 3, 4, 5, 6, 7, 8]) rfl aP aP ?_; refine zg ?_; refine pr rfl (Ak rfl rfl (v := (Ma n d).v) (by rfl)) ?_; refine IM hF hl rfl rfl rfl rfl rfl (z := [.int .i64 0, .int .i64 0]) aP ?_; intro B7 S7 hl
 refine pL hl 0 ((Ma n d).cells) (h := fun S8 hl => ⟨zt, ?_⟩)
 refine zA ?_; refine AV rfl ?_; refine AV rfl (Bz hl 37 (.bool false) ?_ rfl ?_)
 ·
  refine zg ?_; refine BH (d := 33) rfl (fun NA => ?_) (fun NA => ?_)
  ·have h := oTr NA; exfalso
   have h : n.tdiv (gI n d) > 1099511627776 := h
   omega
  refine zg ?_
  exact ⟨rfl, bl (decide_eq_false (by show ¬ d.tdiv (gI n d) > 1048576; omega)), sB, hl⟩
 intro S9 hl
 refine zg ?_; refine sL hl 1 ((Ma n d).cells) fun Co hl => ?_; refine zg ?_
 exact CK (D9 rfl (lN (z := 2) (hl.get 1 rfl) rfl) (A7 rfl rfl)) ⟨hl.AA, rfl⟩
theorem zD (n d : Int) (hn : n < 0) : CC Tryz.prog KK 153 [.int .i64 n, .int .i64 d] S (fun v S' => AG S S' ∧ v = AN [tz.v, .int .i64 2]) := by
 refine ce 40 Tryz.func153 fun hl => ?_; refine zg ?_; refine aL hl [.int .i64 0, .int .i64 0] fun B4 S4 hl => ?_; refine zA ?_; refine AV rfl ?_; refine BF rfl ?_; refine AV rfl (Bz hl 8 (.bool true) ?_ rfl ?_)
 ·
  refine zg ?_; refine BH (d := 11) rfl (fun Dv => ?_) (fun Dv => ?_)
  ·
   refine zg ?_
   exact ⟨rfl, rfl, sB, hl⟩
  have := oFa Dv; exfalso; omega
 intro S5 hl
 refine zg ?_; refine rr rfl (Ak rfl rfl (v := tz.v) (by rfl)) ?_; refine sL hl 0 tz.cells fun S6 hl => ?_; refine zg ?_
 exact CG (Cw (CK (D9 rfl (lN (z := 2) (hl.get 0 rfl) rfl) (A7 rfl rfl)) ⟨hl.AA, rfl⟩))
theorem T3 (a b : Nat) (hF : Ad S) (ha : a ≤ 50000) (hb : b ≤ 50000) : CC Tryz.prog KK 182 [(tw a).v, (tw b).v] S (fun v S' => AG S S' ∧ v = AN [(tw (a + b)).v, .int .i64 0]) := by
 refine ce 34 Tryz.func182 fun hl => ?_
 have b1 := IT a
 have b2 := IT b
 have m1 := Hc (x := (tw a).n) (y := (tw b).d) b1.1 (Int.le_trans b1.2.1 (by omega : (a : Int) ≤ 50000)) Q1 b2.2.2.2
 have m2 := Hc (x := (tw b).n) (y := (tw a).d) b2.1 (Int.le_trans b2.2.1 (by omega : (b : Int) ≤ 50000)) Q1 b1.2.2.2
 have m3 := Hc (x := (tw a).d) (y := (tw b).d) Q1 b1.2.2.2 Q1 b2.2.2.2
 have m4 : 0 < (tw a).d * (tw b).d := Int.mul_pos Q1 Q1
 have b3 := IT (a + b)
 refine zg ?_; refine bL hl fun B2 S2 hl => ?_; refine bL hl fun B3 S3 hl => ?_; refine aL hl [.int .i64 0, .int .i64 0] fun B4 S4 hl => ?_; refine zg ?_; refine dL hl ((tw a).cells ++ (tw b).cells) Tryz.underlying118 fun B9 S5 Iv hl => ?_
 refine zc hl rfl (PI (some ⟨B9, 0, none⟩) 2 [tw a, tw b] (by show 2 ≤ 400; decide) (fun t ht => by
  rcases List.mem_cons.1 ht with rfl | ht
  ·exact JC Q1
  rw [List.mem_singleton.1 ht]; exact JC Q1) (AZ.row (fun _ => rfl) Iv rfl)) ?_; rintro v S6 Al rfl hl
 refine zg ?_
 refine zc hl rfl (cQ ((tw a).n * (tw b).d + (tw b).n * (tw a).d) ((tw a).d * (tw b).d) (tw (a + b)) (hl.AA.3 hF) Q1 Q1 m4 Q1 (m8 Q1 m4 (AE0 a b)) Q1) ?_; rintro v S7 Ar rfl hl
 refine zg ?_; refine sL hl 0 ((tw (a + b)).cells) fun S8 hl => ?_; refine zg ?_
 exact CK (D9 rfl (lN (z := 2) (hl.get 0 rfl) rfl) (A7 rfl rfl)) ⟨hl.AA, rfl⟩
theorem cU (a b : Nat) (hF : Ad S) (ha : a ≤ 50000) (hb : b ≤ 50000) (ND : b ≤ a) : CC Tryz.prog KK 174 [(tw a).v, (tw b).v] S (fun v S' => AG S S' ∧ v = AN [(tw (a - b)).v, .int .i64 0]) := by
 refine ce 34 Tryz.func174 fun hl => ?_
 have b1 := IT a
 have b2 := IT b
 have m1 := Hc (x := (tw a).n) (y := (tw b).d) b1.1 (Int.le_trans b1.2.1 (by omega : (a : Int) ≤ 50000)) Q1 b2.2.2.2
 have m2 := Hc (x := (tw b).n) (y := (tw a).d) b2.1 (Int.le_trans b2.2.1 (by omega : (b : Int) ≤ 50000)) Q1 b1.2.2.2
 have m3 := Hc (x := (tw a).d) (y := (tw b).d) Q1 b1.2.2.2 Q1 b2.2.2.2
 have m4 : 0 < (tw a).d * (tw b).d := Int.mul_pos Q1 Q1
 have b3 := IT (a - b)
 have hx : ((tw a).n * (tw b).d - (tw b).n * (tw a).d) * 12 = ((a - b : Nat) : Int) * ((tw a).d * (tw b).d) := by
  rw [dG a b, Int.natCast_sub ND]
 have Jb : 0 ≤ (tw a).n * (tw b).d - (tw b).n * (tw a).d := by
  have := Int.mul_nonneg (Int.natCast_nonneg (a - b)) (Int.le_of_lt m4)
  omega
 refine zg ?_; refine bL hl fun B2 S2 hl => ?_; refine bL hl fun B3 S3 hl => ?_; refine aL hl [.int .i64 0, .int .i64 0] fun B4 S4 hl => ?_; refine zg ?_; refine dL hl ((tw a).cells ++ (tw b).cells) Tryz.underlying118 fun B9 S5 Iv hl => ?_
 refine zc hl rfl (PI (some ⟨B9, 0, none⟩) 2 [tw a, tw b] (by show 2 ≤ 400; decide) (fun t ht => by
  rcases List.mem_cons.1 ht with rfl | ht
  ·exact JC Q1
  rw [List.mem_singleton.1 ht]; exact JC Q1) (AZ.row (fun _ => rfl) Iv rfl)) ?_; rintro v S6 Al rfl hl
 refine zg ?_
 refine zc hl rfl (cQ ((tw a).n * (tw b).d - (tw b).n * (tw a).d) ((tw a).d * (tw b).d) (tw (a - b)) (hl.AA.3 hF) Jb Q1 m4 Q1 (m8 Jb m4 hx) Q1) ?_; rintro v S7 Ar rfl hl
 refine zg ?_; refine sL hl 0 ((tw (a - b)).cells) fun S8 hl => ?_; refine zg ?_
 exact CK (D9 rfl (lN (z := 2) (hl.get 0 rfl) rfl) (A7 rfl rfl)) ⟨hl.AA, rfl⟩
theorem ADL (a b : Nat) (_ : Ad S) (ha : a ≤ 50000) (hb : b ≤ 50000) (ND : a < b) : CC Tryz.prog KK 174 [(tw a).v, (tw b).v] S (fun v S' => AG S S' ∧ v = AN [tz.v, .int .i64 2]) := by
 refine ce 34 Tryz.func174 fun hl => ?_
 have b1 := IT a
 have b2 := IT b
 have m1 := Hc (x := (tw a).n) (y := (tw b).d) b1.1 (Int.le_trans b1.2.1 (by omega : (a : Int) ≤ 50000)) Q1 b2.2.2.2
 have m2 := Hc (x := (tw b).n) (y := (tw a).d) b2.1 (Int.le_trans b2.2.1 (by omega : (b : Int) ≤ 50000)) Q1 b1.2.2.2
 have m3 := Hc (x := (tw a).d) (y := (tw b).d) Q1 b1.2.2.2 Q1 b2.2.2.2
 have m4 : 0 < (tw a).d * (tw b).d := Int.mul_pos Q1 Q1
 have Jb : (tw a).n * (tw b).d - (tw b).n * (tw a).d < 0 := by
  have h1 := dG a b
  have h2 : ((a : Int) - b) * ((tw a).d * (tw b).d) < 0 := Int.mul_neg_of_neg_of_pos Q1 m4
  omega
 refine zg ?_; refine bL hl fun B2 S2 hl => ?_; refine bL hl fun B3 S3 hl => ?_; refine aL hl [.int .i64 0, .int .i64 0] fun B4 S4 hl => ?_; refine zg ?_; refine dL hl ((tw a).cells ++ (tw b).cells) Tryz.underlying118 fun B9 S5 Iv hl => ?_
 refine zc hl rfl (PI (some ⟨B9, 0, none⟩) 2 [tw a, tw b] (by show 2 ≤ 400; decide) (fun t ht => by
  rcases List.mem_cons.1 ht with rfl | ht
  ·exact JC Q1
  rw [List.mem_singleton.1 ht]; exact JC Q1) (AZ.row (fun _ => rfl) Iv rfl)) ?_; rintro v S6 Al rfl hl
 refine zg ?_
 refine zc hl rfl (zD ((tw a).n * (tw b).d - (tw b).n * (tw a).d) ((tw a).d * (tw b).d) Jb) ?_; rintro v S7 Ar rfl hl
 refine zg ?_; refine sL hl 0 tz.cells fun S8 hl => ?_; refine zg ?_
 exact CK (D9 rfl (lN (z := 2) (hl.get 0 rfl) rfl) (A7 rfl rfl)) ⟨hl.AA, rfl⟩
def Tz (a b : Nat) : Int := if a < b then -1 else if b < a then 1 else 0
theorem ADa (a b : Nat) (ha : a ≤ 50000) (hb : b ≤ 50000) : CC Tryz.prog KK 200 [(tw a).v, (tw b).v] S (fun v S' => AG S S' ∧ v = AN [.int .i64 (Tz a b), .int .i64 0]) := by
 refine ce 32 Tryz.func200 fun hl => ?_
 have b1 := IT a
 have b2 := IT b
 have m1 := Hc (x := (tw a).n) (y := (tw b).d) b1.1 (Int.le_trans b1.2.1 (by omega : (a : Int) ≤ 50000)) Q1 b2.2.2.2
 have m2 := Hc (x := (tw b).n) (y := (tw a).d) b2.1 (Int.le_trans b2.2.1 (by omega : (b : Int) ≤ 50000)) Q1 b1.2.2.2
 have m3 := Hc (x := (tw a).d) (y := (tw b).d) Q1 b1.2.2.2 Q1 b2.2.2.2
 have m4 : 0 < (tw a).d * (tw b).d := Int.mul_pos Q1 Q1
 have hx := dG a b
 refine zg ?_; refine bL hl fun B2 S2 hl => ?_; refine bL hl fun B3 S3 hl => ?_; refine zg ?_; refine dL hl ((tw a).cells ++ (tw b).cells) Tryz.underlying118 fun Hn S5 Oj hl => ?_
 refine zc hl rfl (PI (some ⟨Hn, 0, none⟩) 2 [tw a, tw b] (by show 2 ≤ 400; decide) (fun t ht => by
  rcases List.mem_cons.1 ht with rfl | ht
  ·exact JC Q1
  rw [List.mem_singleton.1 ht]; exact JC Q1) (AZ.row (fun _ => rfl) Oj rfl)) ?_; rintro v S6 Al rfl hl
 refine zg ?_
 constructor <;> intro Gb
 ·
  have AJ : a < b := by
   have h := oTr Gb
   rcases Nat.lt_or_ge a b with h2 | h2
   ·exact h2
   have := Int.mul_nonneg (show (0 : Int) ≤ (a : Int) - b by omega) (Int.le_of_lt m4)
   omega
  refine zg ?_
  exact CG ((z2 rfl rfl ⟨hl.AA, by unfold Tz; rw [if_pos AJ]⟩))
 have Yx : b ≤ a := by
  have h := oFa Gb
  rcases Nat.lt_or_ge a b with h2 | h2
  ·have := Int.mul_neg_of_neg_of_pos (show (a : Int) - b < 0 by omega) m4
   omega
  exact h2
 refine zg ?_
 constructor <;> intro DG
 ·
  have NN : b < a := by
   have h := oTr DG
   rcases Nat.lt_or_ge b a with h2 | h2
   ·exact h2
   have e : a = b := by omega
   subst e
   rw [Int.sub_self, Int.zero_mul] at hx
   omega
  refine zg ?_
  exact CG ((z2 rfl rfl ⟨hl.AA, by unfold Tz; rw [if_neg Q1, if_pos NN]⟩))
 have e : a = b := by
  have h := oFa DG
  rcases Nat.lt_or_ge b a with h2 | h2
  ·have := Int.mul_pos (show (0 : Int) < (a : Int) - b by omega) m4
   omega
  omega
 refine zg ?_
 exact y2 rfl rfl ⟨hl.AA, by unfold Tz; rw [if_neg Q1, if_neg Q1]⟩
def GP (k : Nat) : Nat := k / Nat.gcd k 12
def Hl (k : Nat) : Nat := 12 / Nat.gcd k 12
theorem dI (k : Nat) : GP k ≤ k := Nat.div_le_self _ _
theorem dH (k : Nat) : Hl k ≤ 12 := Nat.div_le_self _ _
theorem Wy (k : Nat) : 0 < Hl k := Tg (by decide)
theorem dJ {k : Nat} (h : 0 < k) : 0 < GP k := by
 have := Th k 12
 rcases Nat.eq_zero_or_pos (GP k) with e | e
 ·unfold GP at e; rw [e, Nat.zero_mul] at this; omega
 exact e
theorem dK (k : Nat) : GP k * 12 = k * Hl k := m9 k 12
theorem gQ (a d : Nat) : a / Nat.gcd a d * Nat.gcd a d = a ∧ d / Nat.gcd a d * Nat.gcd a d = d := ⟨Th a d, Tf a d⟩
theorem ny (a b c d : Nat) (t : Ti) (hF : Ad S) (hb : 0 < b) (hd : 0 < d) (Eb : a ≤ 50000) (CB : b ≤ 1000) (NH : c ≤ 50000) (Fy : d ≤ 1000) (ht : red (a * c) (b * d) = t) (hv : t.n ≤ 100000 ∧ t.d ≤ 100000) : CC Tryz.prog KK 122 [.int .i64 a, .int .i64 b, .int .i64 c, .int .i64 d] S (fun v S' => AG S S' ∧ v = AN [t.v, .int .i64 0]) := by
 refine ce 58 Tryz.func122 fun hl => ?_
 have g1 : 0 < gI a d := YK Q1
 have g2 : 0 < gI c b := YK Q1
 refine zg ?_; refine aL hl [.int .i64 0, .int .i64 0] fun B8 S8 hl => ?_; refine zg ?_
 refine zc hl rfl (Vp a d Q1 Q1 Q1 Q1) ?_; rintro v S1 Al rfl hl
 refine zg ?_
 refine zc hl rfl (Vp c b Q1 Q1 Q1 Q1) ?_; rintro v S2 Ar rfl hl
 refine zg ?_; refine A4 (idx := [0, 1, 2, 3, 4, 5, 6, 7, 8, 9, 10, 11, 12, 13, 14, 15]) rfl aP aP ?_; refine zA ?_
 obtain ⟨a', ea⟩ : ∃ a' : Nat, a' = a / Nat.gcd a d := ⟨_, rfl⟩
 obtain ⟨d', ed⟩ : ∃ d' : Nat, d' = d / Nat.gcd a d := ⟨_, rfl⟩
 obtain ⟨c', ec⟩ : ∃ c' : Nat, c' = c / Nat.gcd c b := ⟨_, rfl⟩
 obtain ⟨b', eb⟩ : ∃ b' : Nat, b' = b / Nat.gcd c b := ⟨_, rfl⟩
 rw [show (a : Int).tdiv (gI a d) = (a' : Int) by rw [ea]; rfl, show (d : Int).tdiv (gI a d) = (d' : Int) by rw [ed]; rfl, show (c : Int).tdiv (gI c b) = (c' : Int) by rw [ec]; rfl, show (b : Int).tdiv (gI c b) = (b' : Int) by rw [eb]; rfl]
 have la : a' ≤ a := by rw [ea]; exact Nat.div_le_self _ _
 have lb : b' ≤ b := by rw [eb]; exact Nat.div_le_self _ _
 have lc : c' ≤ c := by rw [ec]; exact Nat.div_le_self _ _
 have ld : d' ≤ d := by rw [ed]; exact Nat.div_le_self _ _
 have pb : 0 < b' := by rw [eb]; exact Tg hb
 have pd : 0 < d' := by rw [ed]; exact Tg hd
 have m1 := Hc (x := (a' : Int)) (y := (c' : Int)) (A := 50000) (B := 50000) Q1 Q1 Q1 Q1
 have m2 := Hc (x := (b' : Int)) (y := (d' : Int)) (A := 1000) (B := 1000) Q1 Q1 Q1 Q1
 have m3 : 0 < (b' : Int) * (d' : Int) := Int.mul_pos Q1 Q1
 have hx : Ma ((a' : Int) * c') ((b' : Int) * d') = t := by
  rw [← ht]
  refine ABh Q1 m3 (Nat.mul_pos hb hd) ?_
  have e1 := gQ a d
  have e2 := gQ c b
  rw [← ea, ← ed] at e1
  rw [← ec, ← eb] at e2
  have key : a' * c' * (b * d) = a * c * (b' * d') := by
   obtain ⟨k1, k2⟩ := e1
   obtain ⟨k3, k4⟩ := e2
   rw [← k4]
   conv => lhs; rw [← k2]
   conv => rhs; rw [← k1, ← k3]
   simp only [Nat.mul_assoc, Nat.mul_left_comm, Nat.mul_comm]
  exact_mod_cast key
 have q1 : 0 < a' → (c' : Int) ≤ (1099511627776 : Int).tdiv a' := fun h => by
  show (c' : Int) ≤ ((1099511627776 / a' : Nat) : Int)
  have := Nat.div_le_div_left (a := 1099511627776) (show a' ≤ 50000 by omega) h
  omega
 have q2 : (b' : Int) ≤ (1048576 : Int).tdiv d' := by
  show (b' : Int) ≤ ((1048576 / d' : Nat) : Int)
  have := Nat.div_le_div_left (a := 1048576) (show d' ≤ 1000 by omega) pd
  omega
 refine AV rfl ?_; refine AV rfl (Bz hl 47 (.bool false) ?_ rfl ?_)
 ·
  refine zg ?_; refine BH (d := 32) rfl (fun Ge => ?_) (fun Ge => ?_)
  ·
   have pa : 0 < a' := dT Ge
   have q1 := q1 pa
   refine zg ?_; refine BH (d := 38) rfl (fun Ex => ?_) (fun Ex => ?_)
   ·have := oTr Ex; exfalso; omega
   refine zg ?_; refine BH (d := 41) rfl (fun NB => ?_) (fun NB => ?_)
   ·
    refine zg ?_
    exact ⟨rfl, bl (decide_eq_false Q1), sB, hl⟩
   have := oFa NB; exfalso; omega
  refine zg ?_; refine BH (d := 41) rfl (fun NB => ?_) (fun NB => ?_)
  ·
   refine zg ?_
   exact ⟨rfl, bl (decide_eq_false Q1), sB, hl⟩
  have := oFa NB; exfalso; omega
 intro S3 hl
 refine zg ?_
 refine zc hl rfl (cQ ((a' : Int) * c') ((b' : Int) * d') t (hl.AA.3 hF) m1.1 Q1 m3 Q1 hx hv) ?_; rintro v S4 GD rfl hl
 refine zg ?_; refine sL hl 0 t.cells fun S5 hl => ?_; refine zg ?_
 exact CK (D9 rfl (lN (z := 2) (hl.get 0 rfl) rfl) (A7 rfl rfl)) ⟨hl.AA, rfl⟩
theorem ABk {n d : Nat} {N D : Nat} (hn : n ≤ N) (hd : d ≤ D) : (red n d).n ≤ N ∧ (red n d).d ≤ D := by
 have h1 : n / Nat.gcd n d ≤ n := Nat.div_le_self _ _
 have h2 : d / Nat.gcd n d ≤ d := Nat.div_le_self _ _
 constructor
 ·show ((n / Nat.gcd n d : Nat) : Int) ≤ _; omega
 show ((d / Nat.gcd n d : Nat) : Int) ≤ _; omega
theorem tK {a b : Nat} (hb : 0 < b) : red (GP a * Hl b) (Hl a * GP b) = red a b := by
 refine WE (Nat.mul_pos (Wy a) (dJ hb)) hb ?_
 have h1 := dK a
 have h2 := dK b
 apply Nat.eq_of_mul_eq_mul_right (show 0 < 12 by decide)
 calc GP a * Hl b * b * 12 = (GP a * 12) * (b * Hl b) := by simp only [Nat.mul_assoc, Nat.mul_left_comm, Nat.mul_comm]
  _ = (a * Hl a) * (GP b * 12) := by rw [h1, h2]
  _ = a * (Hl a * GP b) * 12 := by simp only [Nat.mul_assoc]
theorem AAV {a p q m : Nat} (hq : 0 < q) (h : a * p = m * q) : red (GP a * p) (Hl a * q) = tw m := by
 refine WE (Nat.mul_pos (Wy a) hq) (by decide) ?_
 have h1 := dK a
 calc GP a * p * 12 = (GP a * 12) * p := by ac_rfl
  _ = (a * p) * Hl a := by rw [h1]; ac_rfl
  _ = m * (Hl a * q) := by rw [h]; ac_rfl
theorem ADO (a b : Nat) (hF : Ad S) (ha : a ≤ 50000) (hb : b ≤ 1000) (G3 : 0 < b) : CC Tryz.prog KK 177 [(tw a).v, (tw b).v] S (fun v S' => AG S S' ∧ v = AN [(red a b).v, .int .i64 0]) := by
 refine ce 30 Tryz.func177 fun hl => ?_; refine zg ?_; refine bL hl fun B2 S2 hl => ?_; refine bL hl fun B3 S3 hl => ?_; refine aL hl [.int .i64 0, .int .i64 0] fun B4 S4 hl => ?_; refine zg ?_; refine dL hl ((tw a).cells ++ (tw b).cells) Tryz.underlying118 fun B9 S5 Iv hl => ?_
 refine zc hl rfl (PI (some ⟨B9, 0, none⟩) 2 [(tw a), (tw b)] (by show 2 ≤ 400; decide) (fun t ht => by
  rcases List.mem_cons.1 ht with rfl | ht
  ·exact JC Q1
  rw [List.mem_singleton.1 ht]; exact JC Q1) (AZ.row (fun _ => rfl) Iv rfl)) ?_; rintro v S6 Al rfl hl
 refine zg ?_
 constructor <;> intro HR
 ·exfalso
  have h : (tw b).n = 0 := by simpa using HR
  have := dJ G3
  have h : ((GP b : Nat) : Int) = 0 := h
  omega
 have l1 := dI a
 have l2 := dH a
 have l3 := dI b
 have l4 := dH b
 refine zg ?_
 refine zc hl rfl (ny (GP a) (Hl a) (Hl b) (GP b) (red a b) (hl.AA.3 hF) (Wy a) (dJ G3) Q1 Q1 Q1 Q1 (tK G3) (by have := ABk (n := a) (d := b) (Nat.le_refl a) (Nat.le_refl b); omega)) ?_; rintro v S7 Ar rfl hl
 refine zg ?_; refine sL hl 0 ((red a b).cells) fun S8 hl => ?_; refine zg ?_
 exact CK (D9 rfl (lN (z := 2) (hl.get 0 rfl) rfl) (A7 rfl rfl)) ⟨hl.AA, rfl⟩
theorem ACW (a p q m : Nat) (hF : Ad S) (ha : a ≤ 50000) (hq : 0 < q) (hp : p ≤ 10) (hq2 : q ≤ 10) (Sm : Nat.Coprime p q) (hm : a * p = m * q) (SY : m ≤ 50000) : CC Tryz.prog KK 100 [(tw a).v, (Ti.mk p q).v] S (fun v S' => AG S S' ∧ v = AN [(tw m).v, .int .i64 0]) := by
 refine ce 26 Tryz.func100 fun hl => ?_; refine zg ?_; refine bL hl fun B2 S2 hl => ?_; refine bL hl fun B3 S3 hl => ?_; refine aL hl [.int .i64 0, .int .i64 0] fun B4 S4 hl => ?_; refine zg ?_; refine dL hl ((tw a).cells ++ (Ti.mk p q).cells) Tryz.underlying118 fun B9 S5 Iv hl => ?_
 refine zc hl rfl (PI (some ⟨B9, 0, none⟩) 2 [(tw a), (Ti.mk p q)] (by show 2 ≤ 400; decide) (fun t ht => by
  rcases List.mem_cons.1 ht with rfl | ht
  ·exact JC Q1
  rw [List.mem_singleton.1 ht]; exact ⟨⟨Int.natCast_nonneg _, by show (p : Int) ≤ _; omega⟩, ⟨by show (1 : Int) ≤ (q : Int); omega, by show (q : Int) ≤ _; omega⟩, by unfold gI; show ((Nat.gcd p q : Nat) : Int) = 1; rw [Sm]; rfl⟩) (AZ.row (fun _ => rfl) Iv rfl)) ?_; rintro v S6 Al rfl hl
 refine zg ?_
 have l1 := dI a
 have l2 := dH a
 have b3 := IT m
 refine zc hl rfl (ny (GP a) (Hl a) p q (tw m) (hl.AA.3 hF) (Wy a) hq Q1 Q1 Q1 Q1 (AAV hq hm) Q1) ?_; rintro v S7 Ar rfl hl
 refine zg ?_; refine sL hl 0 ((tw m).cells) fun S8 hl => ?_; refine zg ?_
 exact CK (D9 rfl (lN (z := 2) (hl.get 0 rfl) rfl) (A7 rfl rfl)) ⟨hl.AA, rfl⟩
theorem AEd : ∀ {K : List Nat} {i : Nat} {k : Nat}, nth K i = some k → (K.take (i + 1)).sum = (K.take i).sum + k := fun h => by
 rw [CJ h, List.sum_append]; simp
theorem Wx : ∀ (K : List Nat) (i : Nat), (K.take i).sum ≤ K.sum
 | [], i => by simp
 | k :: K, 0 => Nat.zero_le _
 | k :: K, i + 1 => by
  have := Wx K i
  simp only [List.take_succ_cons, List.sum_cons]
  omega
theorem lQ : ∀ {K : List Nat} {k : Nat}, k ∈ K → k ≤ K.sum
 | x :: K, k, h => by
  simp only [List.sum_cons]
  rcases List.mem_cons.1 h with rfl | h
  ·omega
  have := lQ h; omega
theorem ADJ (a : Option Addr) (cap : Nat) (K : List Nat) (hF : Ad S) (hn : K.length ≤ 400) (hK : K.sum ≤ 50000) (hv : Ku S (.slice a K.length cap) (K.map tw)) : CC Tryz.prog KK 172 [.slice a K.length cap] S (fun v S' => AG S S' ∧ v = AN [(tw K.sum).v, .int .i64 0]) := by
 refine ce 34 Tryz.func172 fun hl => ?_; refine zg ?_; refine aL hl [.int .i64 0, .int .i64 0] fun B2 S2 hl => ?_; refine zg ?_
 have KG := PI (S := S2) a cap (K.map tw) (by rw [cw]; exact hn) (fun t ht => by
  obtain ⟨k, hk, rfl⟩ := List.mem_map.1 ht
  have := lQ hk
  exact JC Q1) (by rw [cw]; exact hv.move (hl.since 0 rfl))
 rw [cw] at KG
 refine zc hl rfl KG ?_; rintro v S3 Al rfl hl
 refine zg ?_; refine rr rfl (Ak rfl rfl (v := (tw 0).v) (by rfl)) ?_; refine aL hl [.int .i64 0, .int .i64 0] fun B5 S5 hl => ?_; refine sL hl 0 ((tw 0).cells) fun S6 hl => ?_; refine zA ?_; refine AV rfl ?_; refine zS ?_; refine BF rfl ?_; refine AK (L' := [(18, .int .i64 (0 : Int)), (17, .int .i64 K.length), (16, .slice a K.length cap), (5, ptrTo B5 0), (3, .int .i64 0), (2, ptrTo B2 0)]) sE ?_
 refine Au rfl (fun m Le S' => ∃ i : Nat, i ≤ K.length ∧ m = K.length - i ∧ Af [(18, .int .i64 (i : Int)), (17, .int .i64 K.length), (16, .slice a K.length cap), (5, ptrTo B5 0), (3, .int .i64 0), (2, ptrTo B2 0)] Le ∧ AB S [S] S' [(B5, .cells (tw (K.take i).sum).cells 88 false true []), (B2, .cells [.int .i64 0, .int .i64 0] 88 false true [])] []) ?_ (m := K.length) ⟨0, Q1, Q1, sE, hl⟩
 clear hl; rintro m Le S' ⟨i, hi, rfl, AL, hl⟩; refine AK AL ?_
 refine zg ?_
 constructor <;> intro Dw
 ·
  have AJ : i < K.length := dT Dw
  obtain ⟨k, hk⟩ := Ac AJ
  have DO := AEd hk
  have DI := Wx K i
  have ZP := Wx K (i + 1)
  obtain ⟨b1, o1, Ai, ha, _, AY, Ab⟩ := hv.elem (Dc tw hk)
  refine zg ?_; refine aL hl [.int .i64 0, .int .i64 0] fun B7 S7 hl => ?_; refine sL hl 0 ((tw k).cells) fun S8 hl => ?_; refine zg ?_
  refine zc hl rfl (T3 (K.take i).sum k (hl.AA.3 hF) Q1 Q1) ?_; rintro v S9 Ar rfl hl
  refine zg ?_; refine sL hl 1 ((tw ((K.take i).sum + k)).cells) fun Co hl => ?_; refine zg ?_
  refine ⟨K.length - (i + 1), Q1, i + 1, Q1, rfl, sE, ?_⟩
  rw [DO]
  exact hl.tail
 obtain rfl : i = K.length := dF Dw
 rw [List.take_length] at hl
 refine zg ?_; refine sL hl 1 ((tw K.sum).cells) fun D3 hl => ?_; refine zg ?_
 exact CK (D9 rfl (lN (z := 2) (hl.get 1 rfl) rfl) (A7 rfl rfl)) ⟨hl.AA, rfl⟩
theorem Vs {e : TypeId} {z : Nat} {α : Type} {f : α → List Value} {S : St} {a : Option Addr} {n cap : Nat} {C : List α} (h : AZ e z f S (.slice a n cap) C) (hn : a.isNone = true) : C = [] := by
 cases C with
 | nil => rfl
 | cons x r =>
  obtain ⟨b, o, cs, rfl, _⟩ := AZ.elem h (k := 0) rfl
  cases hn
abbrev gN (av : Option Addr) (N : List Int) : Gr := Eu 3 1 ic (.slice av N.length N.length) N
theorem T4 (a : Option Addr) (cap : Nat) (L : List Int) (hn : L.length ≤ 400) (hv : A5 S (.slice a L.length cap) L) : CC Tryz.prog KK 87 [.slice a L.length cap] S (fun v S' => AG S S' ∧ ∃ av, v = .slice av L.length L.length ∧ AU S S' (gN av L)) := by
 refine ce 8 Tryz.func87 fun hl => ?_; refine zg ?_; refine rr rfl (Ff rfl rfl rfl (eq_nil Tryz.underlying22)) ?_; refine zg ?_
 constructor <;> intro h4
 ·
  obtain rfl := Vs hv h4
  refine zg ?_
  exact (z1 rfl ⟨hl.AA, none, rfl, .inl ⟨rfl, rfl, rfl⟩⟩)
 refine zg ?_; refine Qn hl 1 rfl rfl rfl rfl rfl Tryz.underlying22 rfl (c := []) aP rfl ?_; intro v5 S1 hl; refine zg ?_; refine DX hl 0 rfl rfl (by simp) rfl rfl rfl rfl rfl rfl rfl Tryz.underlying22 Tryz.underlying22 rfl rfl aP (hv.move (hl.since 0 rfl)).cells (Da (f := ic) (z := 1) (fun _ => rfl) _) (K6 (f := ic) (fun _ => rfl) _) aP (by show 0 + L.length ≤ AQ; unfold AQ; omega) ?_; intro v7 S2 hl
 obtain ⟨av, rfl⟩ : ∃ x, v7 = .slice x (0 + L.length) (0 + L.length) := AU.is (hl.gr _ aQ)
 have hg := hl.gr _ aQ
 rw [Nat.zero_add, List.nil_append] at hg
 refine zg ?_
 refine y1 rfl ⟨hl.AA, av, by rw [Nat.zero_add], hg⟩
noncomputable def Hh : Code := pA (pB (pA (pB (cb Tryz.f123))))
structure Fa where
 lb : Nat
 db : Nat
 b2 : Nat
 t : Tm
noncomputable def Fa.l (z : Fa) (av : Option Addr) (k : Nat) : List (Nat × AD) := [(z.b2, .cells [.slice av k k] 22 false true []), (z.lb, .loop .ready none 13 z.t (BO Hh) (BL Hh) (BN Hh) z.db), (z.db, .defs false)]
theorem ABw {Sb S : St} {Ts : List St} (z : Fa) (hz : Has 13 ⟨13, z.t, []⟩ [(2, ptrTo z.b2 0)]) {own : List (Nat × AD)} (ho : (own.all fun p => !LM p.2) = true) {av : Option Addr} {L : List Int} (k : Int) (hL : L.length ≤ 1000) (hl : AB Sb Ts S (own ++ z.l av L.length) [gN av L]) :
  CT Tryz.prog KK (.fn (.yield z.lb) #[]) [.int .i64 k] S fun r S' => r = .returned (.bool true) ∧ ∃ DR, AB Sb Ts S' (own ++ z.l DR (L ++ [k]).length) [gN DR (L ++ [k])] := by
 have hl := hl.perm List.perm_append_comm
 refine Lq (hl.get 1 rfl) hz rfl rfl ?_; refine zg ?_
 refine ⟨rfl, _, _, _, _, _, _, _, hl.get 1 rfl, ?_⟩
 have hl := hl.put (k := 1) rfl rfl (.loop .busy none 13 z.t (BO Hh) (BL Hh) (BN Hh) z.db)
 refine zg ?_; refine dL hl (ic k) Tryz.underlying22 fun Hn S1 Oj hl => ?_; refine DX hl 0 rfl ho (by simp) rfl rfl rfl rfl rfl rfl rfl Tryz.underlying22 Tryz.underlying22 rfl rfl aP (Bf (new := ic k) Oj rfl) rfl rfl aP (by show L.length + 1 ≤ AQ; unfold AQ; omega) ?_; intro v11 S2 hl
 obtain ⟨AT, rfl⟩ : ∃ x, v11 = .slice x (L.length + 1) (L.length + 1) := AU.is (hl.gr _ aQ)
 refine sL hl 0 [.slice AT (L.length + 1) (L.length + 1)] fun S3 hl => ?_; refine zg ?_
 refine ⟨_, _, _, _, _, _, _, _, hl.get 1 rfl, rfl, AT, ?_⟩
 have hl := hl.put (k := 1) rfl rfl (.loop .ready none 13 z.t (BO Hh) (BL Hh) (BN Hh) z.db)
 have eL : (L ++ [k]).length = L.length + 1 := by simp
 rw [gN, EH, eL]
 exact AB.perm (l := z.l AT (L.length + 1) ++ own) hl List.perm_append_comm
theorem ACj (a : Option Addr) (n cap : Nat) : CC Tryz.prog KK 125 [.slice a n cap] S (fun v S' => AG S S' ∧ ∃ bp, v = .func (.func 154) #[] #[ptrTo bp 0] ∧ S.size ≤ bp ∧ bp < S'.size ∧ S'.get bp = some (.cells [.slice a n cap] 22 false true [])) := by
 refine ce 4 Tryz.func125 fun hl => ?_; refine zg ?_; refine bL hl fun B1 S1 hl => ?_; refine zg ?_; refine rr rfl (Fg rfl rfl rfl) ?_; refine zg ?_
 have h := hl.at_ _ _ aQ
 exact y1 rfl ⟨hl.AA, B1, rfl, h.2.1, h.2.2, h.1⟩
theorem ACw (lb bp : Nat) (av : Option Addr) (cap : Nat) (M : List Int) (hM : M.length ≤ 1000) (I : Nat → St → Prop) (hb : ∀ m T, I m T → T.get bp = some (.cells [.slice av M.length cap] 22 false true []))
  (he : ∀ m T, I m T → A5 T (.slice av M.length cap) M)
  (hr : ∀ m T x, I (m + 1) T → nth M m = some x → CT Tryz.prog KK (.fn (.yield lb) #[]) [.int .i64 (m : Int), .int .i64 x] T fun r T' => r = .returned (.bool true) ∧ I m T') (h0 : I M.length S) :
  CC Tryz.prog KK 154 [.func (.yield lb) #[] #[], ptrTo bp 0] S (fun v S' => v = AN [] ∧ I 0 S') := by
 refine ce 19 Tryz.func154 fun _ => ?_; refine zg ?_; refine rr rfl (Ba rfl rfl (l1 (hb _ _ h0) rfl)) ?_; refine zg ?_; refine AK (L' := [(3, .int .i64 ((M.length : Int) - 1)), (0, .func (.yield lb) #[] #[]), (1, ptrTo bp 0)]) sE ?_
 refine Au rfl (fun m Le S' => ∃ (x : Int), m ≤ M.length ∧ x = (m : Int) - 1 ∧ Af [(3, .int .i64 x), (0, .func (.yield lb) #[] #[]), (1, ptrTo bp 0)] Le ∧ I m S') ?_ (m := M.length) ⟨_, Nat.le_refl _, rfl, sE, h0⟩
 rintro m Le S' ⟨x, hm, hx, AL, h0⟩; refine AK AL ?_
 refine zg ?_
 constructor <;> intro h8
 ·
  obtain ⟨j, rfl⟩ : ∃ j, m = j + 1 := ⟨m - 1, dT h8⟩
  obtain rfl : x = (j : Int) := by omega
  obtain ⟨y, hy⟩ := Ac (l := M) (i := j) Q1
  obtain ⟨b1, o1, Ai, ha, _, AY, Ab⟩ := (he _ _ h0).elem hy
  refine zg ?_; refine rr rfl (Ba rfl rfl (l1 (hb _ _ h0) rfl)) ?_; refine zg ?_; refine I8 rfl rfl rfl rfl rfl rfl rfl (Es (hr j S' y h0 hy) ?_)
  rintro r T' ⟨rfl, h0⟩
  show RE Tryz.prog KK 19 _ _ _ T' _
  refine rr rfl (BC rfl rfl rfl) ?_; refine zg ?_
  refine ⟨j, Q1, (j : Int) - 1, Q1, rfl, sE, h0⟩
 obtain rfl : m = 0 := dF h8
 refine zg ?_
 show Fm Tryz.prog Tryz.f154.results.toList (fun v S' => v = AN [] ∧ I 0 S') .normal _ S'
 exact Gy rfl ⟨rfl, h0⟩
theorem PN {S : St} {d : Nat} (h : S.get d = some (.defs false)) : Fj [IH d] S = some (S.set d (.defs true)) := by
 unfold IH Fj
 rw [h]
 rfl
structure At (S : St) (b : Nat) (x : AD) : Prop where
 at_ : ∀ {T : St}, AG S T → T.get b = some x
theorem lJ (M : List Int) : ∀ k, (BK M k).length ≤ k
 | 0 => Nat.le_refl _
 | k + 1 => by
  have := lJ M k
  unfold BK
  rw [ay]
  by_cases h : nth M (M.length - (k + 1)) = some 3
  ·rw [if_pos h]; show _ + 1 ≤ _; omega
  rw [if_neg h]; show _ + 0 ≤ _; omega
theorem zr {M : List Int} {m : Nat} {x : Int} (hx : nth M m = some x) : BK M (M.length - m) = BK M (M.length - (m + 1)) ++ (if x = 3 then [(m : Int) + 1] else []) := by
 have hm := CS hx
 rw [show M.length - m = (M.length - (m + 1)) + 1 by omega, BK]
 rw [show M.length - (M.length - (m + 1) + 1) = m by omega, hx]
 by_cases h : x = 3
 ·rw [if_pos h, if_pos (by rw [h])]
 rw [if_neg h, if_neg (fun e => h (Option.some.inj e))]
noncomputable def DQ : Code := pA (pB (pB (cb Tryz.f124)))
theorem ACi {Sb S : St} {Ts : List St} (z : Fa) (hz : Has 13 ⟨13, z.t, []⟩ [(2, ptrTo z.b2 0)]) (BP : Nat) (a b c d : Int) (OU : At Sb BP (.cells [.int .i64 a, .int .i64 b, .int .i64 c, .int .i64 d] 28 false true [])) {rest : List (Nat × AD)} (xq : (rest.all fun p => !LM p.2) = true) (hl : AB Sb Ts S (z.l none 0 ++ rest) [gN none []]) :
  CC Tryz.prog KK 124 [.func (.yield z.lb) #[] #[], ptrTo BP 0] S (fun v S' => v = AN [] ∧ ∃ av, AB Sb Ts S' (z.l av (BK [a, b, c, d] 4).length ++ rest) [gN av (BK [a, b, c, d] 4)]) := by
 refine cm 29 Tryz.func124 fun _ => ?_; refine BX rfl (BE ?_); refine zg ?_; refine bL hl fun B2 S2 hl => ?_; refine zg ?_; refine BX rfl (BE ?_); refine zg ?_
 have hd : At S2 BP (.cells [.int .i64 a, .int .i64 b, .int .i64 c, .int .i64 d] 28 false true []) := ⟨fun k => OU.at_ (hl.AA.trans k)⟩
 have DT := hl
 have hl := Jv.start S2
 refine Qn hl 1 rfl rfl rfl rfl rfl Tryz.underlying22 rfl (c := []) aP rfl ?_; intro v5 S3 hl; refine zg ?_; refine dL hl [.int .i64 a, .int .i64 b, .int .i64 c, .int .i64 d] Tryz.underlying22 fun EB S4 xM hl => ?_; refine DX hl 0 rfl rfl (by simp) rfl rfl rfl rfl rfl rfl rfl Tryz.underlying22 Tryz.underlying22 rfl rfl aP (Bf (n := 4) (cap := 4) (new := [.int .i64 a, .int .i64 b, .int .i64 c, .int .i64 d]) xM rfl) rfl rfl aP (by show 0 + 4 ≤ AQ; unfold AQ; omega) ?_; intro v15 S5 hl
 obtain ⟨XN, rfl⟩ : ∃ x, v15 = .slice x 4 4 := AU.is (hl.gr _ aQ)
 have H3 : A5 S5 (.slice XN 4 4) [a, b, c, d] := AU.ls (f := ic) (C := [a, b, c, d]) (v := .slice XN 4 4) (fun _ => rfl) (hl.gr _ aQ)
 refine zg ?_
 refine zc hl rfl (T4 XN 4 [a, b, c, d] (by show 4 ≤ 400; decide) H3) ?_; rintro v S6 G6 ⟨Lf, rfl, wB⟩ hl
 have Cj : A5 S6 (.slice Lf 4 4) [a, b, c, d] := AU.ls (f := ic) (C := [a, b, c, d]) (v := .slice Lf 4 4) (fun _ => rfl) wB
 have MD := DT.call hl.AA
 have MD := MD.mark
 refine Ct rfl rfl rfl rfl rfl rfl rfl (Bp (ACj Lf 4 4) ?_); rintro v S7 ⟨NQ, bp, rfl, EJ, CB, Io⟩
 have hl := (MD.call NQ).add MD.below MD.AA EJ CB Io
 refine zg ?_; refine Kl rfl (Mh rfl rfl rfl aP ?_)
 intro t ht
 have ht := ht.sub (L' := [(2, ptrTo B2 0)]) sE
 have hl := (hl.new (.defs false)).new (.loop .ready none 29 t (BO DQ) (BL DQ) (BN DQ) S7.size)
 have ht := ht
 let M : List Int := [a, b, c, d]
 have hl : AB Sb (S6 :: Ts) _ ([(S7.size + 1, AD.loop .ready none 29 t (BO DQ) (BL DQ) (BN DQ) S7.size), (S7.size, .defs false), (bp, .cells [.slice Lf 4 4] 22 false true []), (B2, .cells [.func (.yield z.lb) #[] #[]] 81 false true [])] ++ (z.l none (BK M (4 - 4)).length ++ rest)) [gN none (BK M (4 - 4))] := hl
 refine Es (Lp (Mu (ACw (S7.size + 1) bp Lf 4 M (by show 4 ≤ 1000; decide) (fun m T => ∃ av, AB Sb (S6 :: Ts) T ([(S7.size + 1, AD.loop .ready none 29 t (BO DQ) (BL DQ) (BN DQ) S7.size), (S7.size, .defs false), (bp, .cells [.slice Lf 4 4] 22 false true []), (B2, .cells [.func (.yield z.lb) #[] #[]] 81 false true [])] ++ (z.l av (BK M (4 - m)).length ++ rest)) [gN av (BK M (4 - m))]) (fun m T h => by obtain ⟨av, h⟩ := h; exact h.get 2 rfl) (fun m T h => by obtain ⟨av, h⟩ := h; exact Cj.move (h.since 0 rfl)) ?_ ⟨none, hl⟩))) ?_
 ·
  clear hl
  rintro m T x ⟨av, hl⟩ hx
  have hm4 : m < 4 := CS hx
  have YY := lJ M (4 - (m + 1))
  have Ag : BK M (4 - m) = BK M (4 - (m + 1)) ++ (if x = 3 then [(m : Int) + 1] else []) := zr hx
  refine Lq (hl.get 0 rfl) ht rfl rfl ?_; refine zg ?_
  refine ⟨rfl, _, _, _, _, _, _, _, hl.get 0 rfl, ?_⟩
  have hl : AB Sb (S6 :: Ts) _ ([(S7.size + 1, AD.loop .busy none 29 t (BO DQ) (BL DQ) (BN DQ) S7.size), (S7.size, .defs false), (bp, .cells [.slice Lf 4 4] 22 false true []), (B2, .cells [.func (.yield z.lb) #[] #[]] 81 false true [])] ++ (z.l av (BK M (4 - (m + 1))).length ++ rest)) [gN av (BK M (4 - (m + 1)))] := hl.put (k := 0) rfl rfl (.loop .busy none 29 t (BO DQ) (BL DQ) (BN DQ) S7.size)
  refine zg ?_; refine BH (d := 22) rfl (fun M8 => ?_) (fun M8 => ?_)
  ·
   have QS : x = 3 := by simpa using M8
   rw [if_pos QS] at Ag
   refine zg ?_; refine rr rfl (Ba rfl rfl (l1 (hl.get 3 rfl) rfl)) ?_; refine zg ?_; refine I8 rfl rfl rfl rfl rfl rfl rfl (Es (ABw z hz (own := [(S7.size + 1, AD.loop .busy none 29 t (BO DQ) (BL DQ) (BN DQ) S7.size), (S7.size, .defs false), (bp, .cells [.slice Lf 4 4] 22 false true []), (B2, .cells [.func (.yield z.lb) #[] #[]] 81 false true [])] ++ rest) xq ((m : Int) + 1) Q1 (hl.perm ((List.perm_append_comm.append_left _).trans (.of_eq (List.append_assoc ..).symm)))) ?_)
   rintro r T2 ⟨rfl, AT, hl⟩
   rw [← Ag] at hl
   have hl : AB Sb (S6 :: Ts) T2 ([(S7.size + 1, AD.loop .busy none 29 t (BO DQ) (BL DQ) (BN DQ) S7.size), (S7.size, .defs false), (bp, .cells [.slice Lf 4 4] 22 false true []), (B2, .cells [.func (.yield z.lb) #[] #[]] 81 false true [])] ++ (z.l AT (BK M (4 - m)).length ++ rest)) [gN AT (BK M (4 - m))] := hl.perm ((List.Perm.of_eq (List.append_assoc ..)).trans (List.perm_append_comm.append_left _))
   show RE Tryz.prog KK 29 _ _ _ T2 _
   refine rr rfl (BC rfl rfl rfl) ?_; refine zg ?_
   exact ⟨_, _, _, _, _, _, _, _, hl.get 0 rfl, rfl, AT, hl.put (k := 0) rfl rfl (.loop .ready none 29 t (BO DQ) (BL DQ) (BN DQ) S7.size)⟩
  have QS : ¬ x = 3 := by simpa using M8
  rw [if_neg QS, List.append_nil] at Ag
  refine zg ?_
  rw [← Ag] at hl
  exact ⟨_, _, _, _, _, _, _, _, hl.get 0 rfl, rfl, av, hl.put (k := 0) rfl rfl (.loop .ready none 29 t (BO DQ) (BL DQ) (BN DQ) S7.size)⟩
 rintro r S8 ⟨v, rfl, rfl, av, hl⟩
 refine ⟨_, _, _, _, _, _, _, _, hl.get 0 rfl, rfl, ?_⟩
 have hl := hl.put (k := 0) rfl rfl (.loop .exhausted none 29 t (BO DQ) (BL DQ) (BN DQ) S7.size)
 have Fy := hl.get 1 rfl
 have hl := (hl.put (k := 1) rfl rfl (.defs true)).tail.tail.tail.tail
 exact ⟨_, _, PN Fy, rfl, rfl, av, hl.marks fun T hT => cy hT⟩
theorem ACY (a b c d : Int) : CC Tryz.prog KK 102 [AM [.int .i64 a, .int .i64 b, .int .i64 c, .int .i64 d]] S (fun v S' => AG S S' ∧ ∃ BP, v = .func (.func 124) #[] #[ptrTo BP 0] ∧ At S' BP (.cells [.int .i64 a, .int .i64 b, .int .i64 c, .int .i64 d] 28 false true [])) := by
 refine ce 4 Tryz.func102 fun hl => ?_; refine zg ?_; refine bL hl fun B1 S1 hl => ?_; refine zg ?_; refine rr rfl (Fg rfl rfl rfl) ?_; refine zg ?_
 have h := hl.at_ _ _ aQ
 exact y1 rfl ⟨hl.AA, B1, rfl, ⟨fun k => (k.2 B1 h.2.2).trans h.1⟩⟩
theorem ACh (BP : Nat) (a b c d : Int) (OU : At S BP (.cells [.int .i64 a, .int .i64 b, .int .i64 c, .int .i64 d] 28 false true [])) : CC Tryz.prog KK 123 [.slice none 0 0, .func (.func 124) #[] #[ptrTo BP 0]] S (fun v S' => AG S S' ∧ ∃ av, v = .slice av (BK [a, b, c, d] 4).length (BK [a, b, c, d] 4).length ∧ AU S S' (gN av (BK [a, b, c, d] 4))) := by
 refine cm 13 Tryz.func123 fun hl => ?_; refine BX rfl (BE ?_); refine zg ?_; refine bL hl fun B2 S2 hl => ?_; refine zg ?_; refine BX rfl ?_; refine BX rfl (BE ?_); refine zg ?_; refine Kl rfl (Mh rfl rfl rfl aP ?_)
 intro t ht
 have ht := ht.sub (L' := [(2, ptrTo B2 0)]) sE
 have hl := (hl.new (.defs false)).new (.loop .ready none 13 t (BO Hh) (BL Hh) (BN Hh) S2.size)
 let z : Fa := ⟨S2.size + 1, S2.size, B2, t⟩
 have hl := hl.perm (l' := z.l none 0 ++ []) (by
  show List.Perm [_, _, _] [_, _, _]
  exact ((List.Perm.swap _ _ _).cons _).trans ((List.Perm.swap _ _ _).trans ((List.Perm.refl _))))
 have hl := hl.EP (g := gN none []) (.inl ⟨rfl, rfl, rfl⟩)
 refine Es (Lp (Mu (ACi z ht BP a b c d OU rfl hl))) ?_
 rintro r S8 ⟨v, rfl, rfl, av, hl⟩
 refine ⟨_, _, _, _, _, _, _, _, hl.get 1 rfl, rfl, ?_⟩
 have hl := hl.put (k := 1) rfl rfl (.loop .exhausted none 13 t (BO Hh) (BL Hh) (BN Hh) S2.size)
 refine BX rfl (BE ?_); refine zg ?_; refine BE (Mi rfl ?_)
 have Fy := hl.get 2 rfl
 have hl := hl.put (k := 2) rfl rfl (.defs true)
 exact ⟨_, _, PN Fy, A7 rfl rfl, hl.AA, av, rfl, hl.gr _ aQ⟩
theorem ACX (BP : Nat) (a b c d : Int) (OU : At S BP (.cells [.int .i64 a, .int .i64 b, .int .i64 c, .int .i64 d] 28 false true [])) : CC Tryz.prog KK 101 [.func (.func 124) #[] #[ptrTo BP 0]] S (fun v S' => AG S S' ∧ ∃ av, v = .slice av (BK [a, b, c, d] 4).length (BK [a, b, c, d] 4).length ∧ AU S S' (gN av (BK [a, b, c, d] 4))) := by
 refine ce 5 Tryz.func101 fun hl => ?_; refine zg ?_
 refine zc hl rfl (ACh BP a b c d ⟨fun k => OU.at_ (hl.AA.trans k)⟩) ?_; rintro v S1 Al ⟨av, rfl, hg⟩ hl
 refine zg ?_
 exact y1 rfl ⟨hl.AA, av, rfl, hg⟩
theorem AEA (a b c d : Int) (hm : Ap a b c d = 0) : CC Tryz.prog KK 85 [AM [.int .i64 a, .int .i64 b, .int .i64 c, .int .i64 d]] S (fun v S' => AG S S' ∧ ∃ av, v = AN [.slice av (BK [a, b, c, d] 4).length (BK [a, b, c, d] 4).length, .int .i64 0] ∧ AU S S' (gN av (BK [a, b, c, d] 4))) := by
 refine ce 13 Tryz.func85 fun hl => ?_; refine zg ?_; refine bL hl fun B1 S1 hl => ?_; refine zg ?_
 refine zc hl rfl (oM a b c d hm) ?_; rintro v S2 Al rfl hl
 rw [hm]
 refine zg ?_
 refine zc hl rfl (ACY a b c d) ?_; rintro v S3 Ar ⟨BP, rfl, OU⟩ hl
 have NS := hl
 refine zc hl rfl (ACX BP a b c d OU) ?_; rintro v S4 Bt ⟨av, rfl, hg⟩ hl
 refine zg ?_
 exact y2 rfl rfl ⟨hl.AA, av, rfl, AU.base hg NS.AA.1⟩
structure It where
 sg : Int
 val : Int
 rest : Bool
 Cz : Bool
 fix : Bool
 cut : Int
 AS : Nat
 AE : Nat
 BI : Nat
def It.cells (x : It) : List Value := [.int .i64 x.sg, .int .i64 x.val, .bool x.rest, .bool x.Cz, .bool x.fix, .int .i64 x.cut, .int .i64 (tw x.AS).n, .int .i64 (tw x.AS).d, .int .i64 (tw x.AE).n, .int .i64 (tw x.AE).d, .int .i64 (tw x.BI).n, .int .i64 (tw x.BI).d]
abbrev E4 := AZ 183 12 It.cells
structure Jw (x : It) : Prop where
 val : 1 ≤ x.val ∧ x.val ≤ 8
 cut : 0 ≤ x.cut ∧ x.cut ≤ 8
 AS : x.AS ≤ 20000
 AE : x.AE ≤ 20000
 BI : x.BI ≤ 20000
 rc : (x.rest && x.Cz) = false
 fx : ((x.rest || x.Cz) && !x.fix) = false
theorem ACx (a : Option Addr) (cap : Nat) (L : List It) (hn : L.length ≤ 27) (hL : ∀ x, x ∈ L → Jw x) (hv : E4 S (.slice a L.length cap) L) : CC Tryz.prog KK 156 [.slice a L.length cap] S (fun v S' => AG S S' ∧ v = AN [.int .i64 0, .int .i64 0]) := by
 refine ce 73 Tryz.func156 fun hl => ?_; refine zg ?_; refine AK (L' := [(11, .int .i64 (0 : Int)), (10, .int .i64 L.length), (9, .slice a L.length cap), (3, .int .i64 0), (2, .int .i64 0)]) sE ?_
 refine Au rfl (fun m Le S' => ∃ i : Nat, i ≤ L.length ∧ m = L.length - i ∧ Af [(11, .int .i64 (i : Int)), (10, .int .i64 L.length), (9, .slice a L.length cap), (3, .int .i64 0), (2, .int .i64 0)] Le ∧ AB S [S] S' [] []) ?_ (m := L.length) ⟨0, Q1, Q1, sE, hl⟩
 clear hl; rintro m Le S' ⟨i, hi, rfl, AL, hl⟩; refine AK AL ?_
 refine zg ?_
 constructor <;> intro CL
 ·
  have AJ : i < L.length := dT CL
  obtain ⟨x, hx⟩ := Ac AJ
  have hk := hL x (Am hx)
  have Al := hk.val
  have Ar := hk.cut
  have Bt := hk.rc
  have GD := hk.fx
  obtain ⟨b1, o1, Ai, ha, _, AY, Ab⟩ := hv.elem hx
  refine zg ?_; refine aL hl [.int .i64 0, .int .i64 0, .bool false, .bool false, .bool false, .int .i64 0, .int .i64 0, .int .i64 0, .int .i64 0, .int .i64 0, .int .i64 0, .int .i64 0] fun B5 S5 hl => ?_; refine zg ?_; refine sL hl 0 x.cells fun S6 hl => ?_; refine zA ?_; refine AV rfl ?_; refine AV rfl (Bz hl 33 (.bool false) ?_ rfl ?_)
  ·
   refine zg ?_; refine BH (d := 19) rfl (fun Dw => ?_) (fun Dw => ?_)
   ·have := oTr Dw; omega
   refine zg ?_; refine BH (d := 24) rfl (fun KC => ?_) (fun KC => ?_)
   ·have := oTr KC; omega
   refine zg ?_; refine BH (d := 29) rfl (fun DG => ?_) (fun DG => ?_)
   ·have := oTr DG; omega
   refine zg ?_
   exact ⟨rfl, bl (decide_eq_false Q1), sB, hl⟩
  intro S7 hl
  refine zg ?_; refine rr rfl (Ak rfl rfl (v := AM (([tw x.AS, tw x.AE, tw x.BI].map Ti.cells).flatten)) (by rfl)) ?_; refine zA ?_; refine AK (L' := [(42, .int .i64 (0 : Int)), (41, AM (([tw x.AS, tw x.AE, tw x.BI].map Ti.cells).flatten)), (4, .int .i64 (i : Int)), (5, ptrTo B5 0), (11, .int .i64 (i : Int)), (10, .int .i64 L.length), (9, .slice a L.length cap), (3, .int .i64 0), (2, .int .i64 0)]) sE ?_; refine BF rfl ?_
  refine Au rfl (fun m Le S' => ∃ j : Nat, j ≤ 3 ∧ m = 3 - j ∧ Af [(42, .int .i64 (j : Int)), (41, AM (([tw x.AS, tw x.AE, tw x.BI].map Ti.cells).flatten)), (4, .int .i64 (i : Int)), (5, ptrTo B5 0), (11, .int .i64 (i : Int)), (10, .int .i64 L.length), (9, .slice a L.length cap), (3, .int .i64 0), (2, .int .i64 0)] Le ∧ AB S [S] S' [(B5, .cells x.cells 183 false true [])] []) ?_ (m := 3) ⟨0, Q1, Q1, sE, hl⟩
  clear hl; rintro m Le S8 ⟨j, hj, rfl, AL, hl⟩; refine AK AL ?_
  refine zg ?_
  constructor <;> intro Py
  ·
   have Y5 : j < 3 := dT Py
   obtain ⟨t, ht⟩ := Ac (l := [tw x.AS, tw x.AE, tw x.BI]) Y5
   have yA : ∃ k, t = tw k ∧ k ≤ 20000 := by
    rcases List.mem_cons.1 (Am ht) with rfl | h
    ·exact ⟨_, rfl, hk.AS⟩
    rcases List.mem_cons.1 h with rfl | h
    ·exact ⟨_, rfl, hk.AE⟩
    exact ⟨_, List.mem_singleton.1 h, hk.BI⟩
   obtain ⟨k, rfl, Bl⟩ := yA
   refine zg ?_; refine rr rfl (Ql rfl rfl rfl (kW (f := Ti.cells) (x := tw k) (C := [tw x.AS, tw x.AE, tw x.BI]) (i := (j : Int)) (z := 2) (len := 3) Tryz.underlying254 aP aP (fun _ => rfl) ⟨Q1, Q1⟩ ht)) ?_; refine aL hl [.int .i64 0, .int .i64 0] fun B7 S9 hl => ?_; refine sL hl 0 ((tw k).cells) fun Co hl => ?_; refine zg ?_
   refine zc hl rfl (n7 (tw k) (JC Q1)) ?_; rintro v D3 FZ rfl hl
   refine zg ?_
   exact ⟨3 - (j + 1), Q1, j + 1, Q1, rfl, sE, hl.tail⟩
  refine de rfl ?_; refine AV rfl (Bz hl 70 (.bool false) ?_ rfl ?_)
  ·refine zg ?_
   refine BH (d := 54) rfl (fun P1 => ?_) (fun P1 => ?_)
   ·
    refine zg ?_; refine BH (d := 58) rfl (fun JS => ?_) (fun JS => ?_)
    ·have e : (x.rest && x.Cz) = true := by rw [P1, JS]; rfl
     rw [Bt] at e; cases e
    refine zg ?_; refine BH (d := 61) rfl (fun HV => ?_) (fun HV => ?_)
    ·
     refine zg ?_; refine rr rfl (BC rfl rfl rfl) ?_; refine zg ?_
     exact ⟨rfl, bl (by have h := GD; rw [P1, JS] at h; exact h), sB, hl⟩
    rw [P1] at HV; cases HV
   refine zg ?_; refine BH (d := 61) rfl (fun HV => ?_) (fun HV => ?_)
   ·rw [P1] at HV; cases HV
   refine zg ?_; refine BH (d := 65) rfl (fun Il => ?_) (fun Il => ?_)
   ·
    refine zg ?_; refine rr rfl (BC rfl rfl rfl) ?_; refine zg ?_
    exact ⟨rfl, bl (by have h := GD; rw [P1, Il] at h; exact h), sB, hl⟩
   refine zg ?_
   exact ⟨rfl, bl rfl, sB, hl⟩
  intro Ep hl
  refine zg ?_
  exact ⟨L.length - (i + 1), Q1, i + 1, Q1, rfl, sE, hl.tail⟩
 refine zg ?_
 exact y2 rfl rfl ⟨hl.AA, rfl⟩
end Go.Proofs.YtnhalpkekpehpaaGreatDoor
