/-
  Signs as data.
-/
import Derived.Test.YtgnhcamhcnkbfaaGreatDoorSa0
import Derived.Test.YtgnhcamhcnkbfaaGreatDoorSy1
import Derived.IntWalk
import Derived.KernelRfl
namespace Go.Proofs.YtgnhcamhcnkbfaaGreatDoor
open Go.Cm Go
set_option maxRecDepth 100000
variable {S : St}
def callM : FuncId → List Value → St → Option Value := fun f a _ => match a with
  | [] => bif Nat.beq f 6 then some (.bool true) else none
  | _ => none
abbrev KK : Known := kk callM
structure Sg where
  kind : Int
  value : Int
  place : Int
  acc : Int
  color : Bool
  stem : Int
  oblique : Bool
  last : Bool
  mx : Int
  md : Int
  tm : Int
  pr : Int
  stroke : Bool
  n : Int
  d : Int
  step : Int
  line : Int
instance : DecidableEq Sg := fun a b => decidable_of_iff (a.kind = b.kind ∧ a.value = b.value ∧ a.place = b.place ∧ a.acc = b.acc ∧ a.color = b.color ∧ a.stem = b.stem ∧ a.oblique = b.oblique ∧ a.last = b.last ∧ a.mx = b.mx ∧ a.md = b.md ∧ a.tm = b.tm ∧ a.pr = b.pr ∧ a.stroke = b.stroke ∧ a.n = b.n ∧ a.d = b.d ∧ a.step = b.step ∧ a.line = b.line) ⟨fun h => by cases a; cases b; rw [Sg.mk.injEq]; exact h, fun h => by subst h; simp⟩
def Sg.cells (s : Sg) : List Value := [.int .i64 s.kind, .int .i64 s.value, .int .i64 s.place, .int .i64 s.acc, .bool s.color, .int .i64 s.stem, .bool s.oblique, .bool s.last, .int .i64 s.mx, .int .i64 s.md, .int .i64 s.tm, .int .i64 s.pr, .bool s.stroke, .int .i64 s.n, .int .i64 s.d, .int .i64 s.step, .int .i64 s.line]
def Sg.v (s : Sg) : Value := aggL s.cells
def usesL : List Value := [.bool false, .bool false, .bool false, .bool false, .bool false, .bool false, .bool false, .bool false, .bool false, .bool false, .bool false, .bool false, .bool true, .bool true, .bool true, .bool true, .bool false, .bool false, .bool false, .bool false, .bool false, .bool false, .bool false, .bool false, .bool true, .bool false, .bool false, .bool false, .bool false, .bool false, .bool false, .bool false, .bool false, .bool false, .bool false, .bool false, .bool false, .bool false, .bool false, .bool false, .bool false, .bool false, .bool false, .bool false, .bool false, .bool false, .bool false, .bool false, .bool false, .bool true, .bool true, .bool true, .bool true, .bool true, .bool true, .bool false, .bool false, .bool false, .bool false, .bool false, .bool false, .bool false, .bool false, .bool false, .bool false, .bool false, .bool false, .bool true, .bool true, .bool false, .bool false, .bool false, .bool false, .bool false, .bool false, .bool false, .bool false, .bool false, .bool false, .bool false, .bool false, .bool true, .bool true, .bool false, .bool false, .bool false, .bool false, .bool false, .bool false, .bool false, .bool false, .bool false, .bool false, .bool false, .bool false, .bool true, .bool false, .bool false, .bool false, .bool false, .bool false, .bool false, .bool false, .bool false, .bool false, .bool true, .bool false, .bool false, .bool false, .bool false, .bool false, .bool false, .bool false, .bool false, .bool false, .bool false, .bool false, .bool false, .bool false, .bool false, .bool false, .bool false, .bool false, .bool false, .bool false, .bool false, .bool false, .bool false, .bool false, .bool true, .bool false, .bool false, .bool false, .bool false, .bool false, .bool false, .bool false, .bool false, .bool false, .bool false, .bool false, .bool false, .bool false, .bool false, .bool false, .bool false, .bool false, .bool false, .bool false, .bool false, .bool false, .bool false, .bool false, .bool false, .bool false, .bool false]
def ubn (k i : Nat) : Bool := match nth usesL (k * 12 + i) with
  | some (.bool b) => b
  | _ => false
def ub (k : Int) (i : Nat) : Bool := ubn k.toNat i
theorem uses_at {k : Int} (h1 : 1 ≤ k) (h2 : k ≤ 12) : takeN 12 (dropN (0 + k.toNat * 12) usesL) = some [.bool (ub k 0), .bool (ub k 1), .bool (ub k 2), .bool (ub k 3), .bool (ub k 4), .bool (ub k 5), .bool (ub k 6), .bool (ub k 7), .bool (ub k 8), .bool (ub k 9), .bool (ub k 10), .bool (ub k 11)] := by
  obtain rfl | rfl | rfl | rfl | rfl | rfl | rfl | rfl | rfl | rfl | rfl | rfl : k = 1 ∨ k = 2 ∨ k = 3 ∨ k = 4 ∨ k = 5 ∨ k = 6 ∨ k = 7 ∨ k = 8 ∨ k = 9 ∨ k = 10 ∨ k = 11 ∨ k = 12 := by omega
  all_goals rfl
/-- the variable sign.uses -/
def Gl (S : St) : Prop := 0 < S.size ∧ S.get 0 = some (.cells usesL 0 false false [])
theorem Gl.keep {S T : St} (h : Gl S) (k : Keep S T) : Gl T := ⟨Nat.lt_of_lt_of_le h.1 k.1, (k.2 0 h.1).trans h.2⟩
theorem atoms_sign (s : Sg) : ∀ v, v ∈ s.cells → Atom v := by
  unfold Sg.cells
  repeat first | exact atoms_nil | refine atoms_cons (atom_int _ _) ?_ | refine atoms_cons (atom_bool _) ?_
theorem BLs : (∀ b : Bool, (b && true) = b) ∧ (∀ b : Bool, (true && b) = b) ∧ (∀ b : Bool, (b && false) = false) ∧ (∀ b : Bool, (false && b) = false) ∧ (∀ b : Bool, (b || true) = true) ∧ (∀ b : Bool, (true || b) = true) ∧ (∀ b : Bool, (b || false) = b) ∧ (∀ b : Bool, (false || b) = b) ∧ (∀ b : Bool, (!!b) = b) ∧ (!true) = false ∧ (!false) = true :=
  ⟨Bool.and_true, Bool.true_and, Bool.and_false, Bool.false_and, Bool.or_true, Bool.true_or, Bool.or_false, Bool.false_or, Bool.not_not, rfl, rfl⟩
theorem eqMens (d : Nat) (a b c e a' b' c' e' : Int) : eqV Tryz.prog (d + 2) 50 (aggL [.int .i64 a, .int .i64 b, .int .i64 c, .int .i64 e]) (aggL [.int .i64 a', .int .i64 b', .int .i64 c', .int .i64 e']) = some ((a == a') && ((b == b') && ((c == c') && ((e == e') && true)))) :=
  eq_struct Tryz.underlying50 (by kernel_rfl) (eqFields_cons (by kernel_rfl) (part1 (by kernel_rfl) rfl) (part1 (by kernel_rfl) rfl) (eq_int Tryz.underlying3) (eqFields_cons (by kernel_rfl) (part1 (by kernel_rfl) rfl) (part1 (by kernel_rfl) rfl) (eq_int Tryz.underlying3) (eqFields_cons (by kernel_rfl) (part1 (by kernel_rfl) rfl) (part1 (by kernel_rfl) rfl) (eq_int Tryz.underlying3) (eqFields_cons (by kernel_rfl) (part1 (by kernel_rfl) rfl) (part1 (by kernel_rfl) rfl) (eq_int Tryz.underlying3) rfl))))
theorem eqClef (d : Nat) (a b a' b' : Int) : eqV Tryz.prog (d + 2) 52 (aggL [.int .i64 a, .int .i64 b]) (aggL [.int .i64 a', .int .i64 b']) = some ((a == a') && ((b == b') && true)) :=
  eq_struct Tryz.underlying52 (by kernel_rfl) (eqFields_cons (by kernel_rfl) (part1 (by kernel_rfl) rfl) (part1 (by kernel_rfl) rfl) (eq_int Tryz.underlying3) (eqFields_cons (by kernel_rfl) (part1 (by kernel_rfl) rfl) (part1 (by kernel_rfl) rfl) (eq_int Tryz.underlying3) rfl))
theorem eqSign (s r : Sg) : eqV Tryz.prog eqDepth 54 s.v r.v = some (decide (s = r)) := by
  have h : eqV Tryz.prog 40 54 (aggL s.cells) (aggL r.cells) = _ := eq_struct Tryz.underlying54 (by kernel_rfl) (eqFields_cons (by kernel_rfl) (part1 (by kernel_rfl) rfl) (part1 (by kernel_rfl) rfl) (eq_int Tryz.underlying3) (eqFields_cons (by kernel_rfl) (part1 (by kernel_rfl) rfl) (part1 (by kernel_rfl) rfl) (eq_int Tryz.underlying3) (eqFields_cons (by kernel_rfl) (part1 (by kernel_rfl) rfl) (part1 (by kernel_rfl) rfl) (eq_int Tryz.underlying3) (eqFields_cons (by kernel_rfl) (part1 (by kernel_rfl) rfl) (part1 (by kernel_rfl) rfl) (eq_int Tryz.underlying3) (eqFields_cons (by kernel_rfl) (part1 (by kernel_rfl) rfl) (part1 (by kernel_rfl) rfl) (eq_bool Tryz.underlying4) (eqFields_cons (by kernel_rfl) (part1 (by kernel_rfl) rfl) (part1 (by kernel_rfl) rfl) (eq_int Tryz.underlying3) (eqFields_cons (by kernel_rfl) (part1 (by kernel_rfl) rfl) (part1 (by kernel_rfl) rfl) (eq_bool Tryz.underlying4) (eqFields_cons (by kernel_rfl) (part1 (by kernel_rfl) rfl) (part1 (by kernel_rfl) rfl) (eq_bool Tryz.underlying4) (eqFields_cons (by kernel_rfl) (partN (z := 4) (by kernel_rfl) (by kernel_rfl) rfl) (partN (z := 4) (by kernel_rfl) (by kernel_rfl) rfl) (eqMens ..) (eqFields_cons (by kernel_rfl) (part1 (by kernel_rfl) rfl) (part1 (by kernel_rfl) rfl) (eq_bool Tryz.underlying4) (eqFields_cons (by kernel_rfl) (part1 (by kernel_rfl) rfl) (part1 (by kernel_rfl) rfl) (eq_int Tryz.underlying3) (eqFields_cons (by kernel_rfl) (part1 (by kernel_rfl) rfl) (part1 (by kernel_rfl) rfl) (eq_int Tryz.underlying3) (eqFields_cons (by kernel_rfl) (partN (z := 2) (by kernel_rfl) (by kernel_rfl) rfl) (partN (z := 2) (by kernel_rfl) (by kernel_rfl) rfl) (eqClef ..) rfl)))))))))))))
  refine h.trans (congrArg some ?_)
  cases s; cases r
  simp only [Sg.mk.injEq]
  rw [Bool.eq_iff_iff]
  simp [and_assoc]
theorem neSign (xo yo : Operand) (s r : Sg) : binV Tryz.prog .neq 54 xo yo s.v r.v = some (.bool (!decide (s = r))) := bin_ne (by kernel_rfl) (eqSign s r)
theorem eqSign' (xo yo : Operand) (s r : Sg) : binV Tryz.prog .eql 54 xo yo s.v r.v = some (.bool (decide (s = r))) := bin_eq (by kernel_rfl) (eqSign s r)
end Go.Proofs.YtgnhcamhcnkbfaaGreatDoor
